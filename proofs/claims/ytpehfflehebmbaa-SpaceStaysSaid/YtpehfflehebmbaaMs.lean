/- SpaceStays: the statement 'SpaceStaysSaid', closed by the law that the walk shows. No condition. -/
import Derived.Deep.CondSized
import Derived.IntWalk
import Derived.KernelRfl
import Derived.Laws.Append
import Derived.Laws.AppendOwn
import Derived.Laws.BytesArg
import Derived.Laws.Cover3
import Derived.Laws.Entries
import Derived.Laws.IdiomCopy
import Derived.Laws.IdiomStrings
import Derived.Laws.Pointers
import Derived.Laws.Small
import Derived.Laws.Strings
import Derived.Laws.StructEq
import Derived.MapKept
import Derived.OpenShut
import Derived.Orders
import Derived.OrdersIn
import Derived.ProofKit
import Derived.RangeFuncRecord
import Derived.RangeFuncSeq
import Derived.ReadAgain
import Derived.Scope
import Derived.Shelf.Slices.Cells
import Derived.Shelf.Slices.Delete
import Derived.Shelf.Spec.SlicesInsertGrow
import Derived.SizedLaws
import Derived.Test.YtpehfflehebmbaaRows
import Derived.Test.YtpehfflehebmbaaMsD
section
set_option linter.unusedSimpArgs false
set_option linter.unusedVariables false
set_option maxRecDepth 10000
namespace Go.Proofs.Ytpehfflehebmbaa.Space
open Go Go.Av Go.Proofs Go.Proofs.Ytpehfflehebmbaa.C Go.Proofs.Ytpehfflehebmbaa.Batch
def aheadAt (l : List It) (i : Nat) : Bs := if i = 0 then [] else (l.getD (i - 1) default).1
def ldAt (l : List It) (last : Int) (i : Nat) : Bool := mayB (l.getD i default) (aheadAt l i) (decide (i = 0)) last
def ldB (l : List It) (last mark : Int) : Bool := !decide (last < 0) && !decide (1152921504606846976 < last) && !decide (mark < 0) && !decide (last < mark) && (List.range l.length).all (ldAt l last)
set_option maxHeartbeats 1000000 in
theorem load_g (l : List It) (hl : l.length ≤ 500000) (hv : ∀ p ∈ l, p.2.length ≤ 500000) (last mark : Int) : GCalls Try.prog 26 [.sl 2 (l.map encI) .any, .int .i64 last, .int .i64 mark] [] (fun r L => if ldB l last mark = true then ∃ s F, r = .tup [.ptr s 0, .int .i64 0] ∧ L = [F] ∧ SpcF s ⟨layL [] l, last, mark⟩ F else r = .tup [.sc (.pointer none), .int .i64 4] ∧ L = []) := by
  refine f26.gcalls (by simp) fun n m ok => ?_
  unfold c26
  have bad : ∀ (h : H), n ≤ h.n → m ≤ h.m → ldB l last mark = false → ∃ r l', Av.Ends [] n m (fun r L => if ldB l last mark = true then ∃ s F, r = .tup [.ptr s 0, .int .i64 0] ∧ L = [F] ∧ SpcF s ⟨layL [] l, last, mark⟩ F else r = .tup [.sc (.pointer none), .int .i64 4] ∧ L = []) (.tup [.sc (.pointer none), .int .i64 4]) h r l' := by
    intro h h1 h2 h3
    refine ⟨_, [], ⟨VSub.refl _, OLe.lay_nil _, fun t ht => by simp [ks] at ht, Ok.nil, fun j => .inr (.inr rfl), fun t ht => by simp [ks] at ht, ?_⟩⟩
    rw [h3]; exact ⟨rfl, rfl⟩
  by_cases p1 : last < 0
  · have d1 := decide_eq_true p1
    repeat (first
      | ((first | apply Wp.seqItemsR | apply Wp.itemsR); (· simp only [go_sem, reduceIte, Nat.reduceEqDiff, Nat.reduceAdd, bx, ax, if_true, if_false, Nat.reduceMul, Nat.reduceLeDiff, d1]; exact rfl))
      | (refine WpItems.nil ⟨?_, ?_⟩; (· first | trivial | simp [pairsQ, pairsOk, apart, ent0]))
      | (apply Wp.cond_lit; (· simp only [go_sem, reduceIte, Nat.reduceEqDiff, Nat.reduceAdd, bx, ax, if_true, if_false, Nat.reduceMul, Nat.reduceLeDiff, d1]; exact rfl); (· rfl))
      | refine Wp.skip ?_
      | refine Wp.label ?_
      | refine Wp.block ?_
      | refine Wp.exit ?_
      | refine Wp.seq ?_)
    exact Wp.ret ⟨trivial, _, rfl, bad _ (Nat.le_refl _) (Nat.le_refl _) (by simp [ldB, p1])⟩
  have d1 := decide_eq_false p1
  by_cases p2 : 1152921504606846976 < last
  · have d2 := decide_eq_true p2
    repeat (first
      | ((first | apply Wp.seqItemsR | apply Wp.itemsR); (· simp only [go_sem, reduceIte, Nat.reduceEqDiff, Nat.reduceAdd, bx, ax, if_true, if_false, Nat.reduceMul, Nat.reduceLeDiff, d1, d2]; exact rfl))
      | (refine WpItems.nil ⟨?_, ?_⟩; (· first | trivial | simp [pairsQ, pairsOk, apart, ent0]))
      | (apply Wp.cond_lit; (· simp only [go_sem, reduceIte, Nat.reduceEqDiff, Nat.reduceAdd, bx, ax, if_true, if_false, Nat.reduceMul, Nat.reduceLeDiff, d1, d2]; exact rfl); (· rfl))
      | refine Wp.skip ?_
      | refine Wp.label ?_
      | refine Wp.block ?_
      | refine Wp.exit ?_
      | refine Wp.seq ?_)
    exact Wp.ret ⟨trivial, _, rfl, bad _ (Nat.le_refl _) (Nat.le_refl _) (by simp [ldB, p2])⟩
  have d2 := decide_eq_false p2
  by_cases p3 : mark < 0
  · have d3 := decide_eq_true p3
    repeat (first
      | ((first | apply Wp.seqItemsR | apply Wp.itemsR); (· simp only [go_sem, reduceIte, Nat.reduceEqDiff, Nat.reduceAdd, bx, ax, if_true, if_false, Nat.reduceMul, Nat.reduceLeDiff, d1, d2, d3]; exact rfl))
      | (refine WpItems.nil ⟨?_, ?_⟩; (· first | trivial | simp [pairsQ, pairsOk, apart, ent0]))
      | (apply Wp.cond_lit; (· simp only [go_sem, reduceIte, Nat.reduceEqDiff, Nat.reduceAdd, bx, ax, if_true, if_false, Nat.reduceMul, Nat.reduceLeDiff, d1, d2, d3]; exact rfl); (· rfl))
      | refine Wp.skip ?_
      | refine Wp.label ?_
      | refine Wp.block ?_
      | refine Wp.exit ?_
      | refine Wp.seq ?_)
    exact Wp.ret ⟨trivial, _, rfl, bad _ (Nat.le_refl _) (Nat.le_refl _) (by simp [ldB, p3])⟩
  have d3 := decide_eq_false p3
  by_cases p4 : last < mark
  · have d4 := decide_eq_true p4
    repeat (first
      | ((first | apply Wp.seqItemsR | apply Wp.itemsR); (· simp only [go_sem, reduceIte, Nat.reduceEqDiff, Nat.reduceAdd, bx, ax, if_true, if_false, Nat.reduceMul, Nat.reduceLeDiff, d1, d2, d3, d4]; exact rfl))
      | (refine WpItems.nil ⟨?_, ?_⟩; (· first | trivial | simp [pairsQ, pairsOk, apart, ent0]))
      | (apply Wp.cond_lit; (· simp only [go_sem, reduceIte, Nat.reduceEqDiff, Nat.reduceAdd, bx, ax, if_true, if_false, Nat.reduceMul, Nat.reduceLeDiff, d1, d2, d3, d4]; exact rfl); (· rfl))
      | refine Wp.skip ?_
      | refine Wp.label ?_
      | refine Wp.block ?_
      | refine Wp.exit ?_
      | refine Wp.seq ?_)
    exact Wp.ret ⟨trivial, _, rfl, bad _ (Nat.le_refl _) (Nat.le_refl _) (by simp [ldB, p4])⟩
  have d4 := decide_eq_false p4
  repeat (first
    | ((first | apply Wp.seqItemsR | apply Wp.itemsR); (· simp only [go_sem, reduceIte, Nat.reduceEqDiff, Nat.reduceAdd, bx, ax, if_true, if_false, Nat.reduceMul, Nat.reduceLeDiff, d1, d2, d3, d4]; exact rfl))
    | (refine WpItems.nil ⟨?_, ?_⟩; (· first | trivial | simp [pairsQ, pairsOk, apart, ent0]))
    | (apply Wp.cond_lit; (· simp only [go_sem, reduceIte, Nat.reduceEqDiff, Nat.reduceAdd, bx, ax, if_true, if_false, Nat.reduceMul, Nat.reduceLeDiff, d1, d2, d3, d4]; exact rfl); (· rfl))
    | refine Wp.skip ?_
    | refine Wp.label ?_
    | refine Wp.block ?_
    | refine Wp.exit ?_
    | refine Wp.seq ?_)
  refine WpItems.gcall [] [] [] (by simp only [go_sem]) (by simp only [go_sem, reduceIte, Nat.reduceEqDiff, List.map]; exact VSubs.refl _) new_g ok fun r G' n1 m1 ids1 hq hn1 hm1 ok1 wi1 ki1 => ?_
  obtain ⟨s, F1, rfl, rfl, hF1⟩ := hq
  obtain ⟨c1, M1, K1, hM1, hsc1, hs1, hc1, hK1⟩ := hF1.go
  have on1 : On [] n m [F1] n1 _ m1 := ⟨hn1, hm1, ok1, wi1, ki1⟩
  have gs1 := on1.ok.at0 hs1
  refine WpItems.evR (by simp only [go_sem, reduceIte, Nat.reduceEqDiff, Nat.reduceAdd, bx]; exact rfl) ?_
  refine WpItems.nil ⟨by trivial, ?_⟩
  repeat (first
    | ((first | apply Wp.seqItemsR | apply Wp.itemsR); (· simp only [go_sem, reduceIte, Nat.reduceEqDiff, Nat.reduceAdd, bx, ax, if_true, if_false, Nat.reduceMul, Nat.reduceLeDiff, gs1, List.length_map]; exact rfl))
    | (refine WpItems.nil ⟨?_, ?_⟩; (· first | trivial | simp [pairsQ, pairsOk, apart, ent0]))
    | (apply Wp.cond_lit; (· simp only [go_sem, reduceIte, Nat.reduceEqDiff, Nat.reduceAdd, bx, ax, if_true, if_false, Nat.reduceMul, Nat.reduceLeDiff, gs1, List.length_map]; exact rfl); (· rfl))
    | refine Wp.skip ?_
    | refine Wp.label ?_
    | refine Wp.block ?_
    | refine Wp.exit ?_
    | refine Wp.seq ?_)
  rw [upd_lay]
  have hF2 : SpcF s ⟨[], last, 0⟩ _ := hF1.times hs1 last 0
  have on2 := on1.step (On.put (o := .cells [K1, .mp c1, .int .i64 last, .int .i64 0]) on1.ok (by rw [hs1]; rfl))
  generalize hf2 : (⟨upd F1.o s (some (.cells [K1, .mp c1, .int .i64 last, .int .i64 0])), F1.k⟩ : Fr) = F2 at *
  have f2 : F2.o s = some (.cells [K1, .mp c1, .int .i64 last, .int .i64 0]) := by rw [← hf2]; simp [upd]
  rw [upd_lay]
  have hF3 : SpcF s ⟨[], last, mark⟩ _ := hF2.times f2 last mark
  have on3 := on2.step (On.put (o := .cells [K1, .mp c1, .int .i64 last, .int .i64 mark]) on2.ok (by rw [f2]; rfl))
  generalize hf3 : (⟨upd F2.o s (some (.cells [K1, .mp c1, .int .i64 last, .int .i64 mark])), F2.k⟩ : Fr) = F3 at *
  have hil : (l.map encI).length = l.length := by simp
  refine Wp.loopG (β := Nat) [1, 8, 36, 37] (by simp only [go_sem, reduceIte, Nat.reduceEqDiff, List.map]; exact rfl) (fun i => [(38, .int .i64 (i : Nat)), (9, .str (aheadAt l i))]) (fun i L => i ≤ l.length ∧ (∀ j, j < i → ldAt l last j = true) ∧ ∃ F', L = [F'] ∧ SpcF s ⟨layL [] (l.take i), last, mark⟩ F') (fun i => l.length - i) 0 ⟨Nat.zero_le _, fun j h => absurd h (by omega), F3, rfl, hF3⟩ on3.ok (by simp only [AllSub, go_sem, reduceIte, Nat.reduceEqDiff]; exact ⟨VSub.refl _, VSub.refl _, trivial⟩) ?_
  rintro i L n5 T5 m5 on ⟨hi, hall, F', rfl, hF'⟩
  by_cases hi2 : i < l.length
  · have g1 : decide (((i : Nat) : Int) < ((l.length : Nat) : Int)) = true := decide_eq_true (by omega)
    have h2 : (0 : Int) ≤ ((i : Nat) : Int) := by omega
    have h3 : ((i : Nat) : Int) < ((l.length : Nat) : Int) := by omega
    have e1 : IntKind.i64.wrap (((i : Nat) : Int) + 1) = ((i + 1 : Nat) : Int) := by rw [IntWalk.i64_in _ (by omega)]; omega
    have hat := enc_at encI l i .any hi2
    have hdo := layL_snoc [] l hi2
    obtain ⟨hr', hl'⟩ := layL_ok (l.take i) [] (by simp [RiseL, Rise, keysOf])
    have hl2 : (layL [] (l.take i)).length ≤ 500000 := by
      rw [List.length_take] at hl'
      simp only [List.length_nil] at hl'
      omega
    have hvx : (l.getD i default).2.length ≤ 500000 := hv _ (by rw [getD_el hi2]; exact List.getElem_mem hi2)
    have hmay := may_p (l.getD i default) (by omega) (aheadAt l i) (decide (i = 0)) last
    have hah : aheadAt l (i + 1) = (l.getD i default).1 := by simp [aheadAt]
    have hz : decide ((i : Int) = 0) = decide (i = 0) := by simp
    have hcl := clone_p (l.getD i default).2 (by omega)
    cases hm : ldAt l last i with
    | false =>
      have hm' := hm
      unfold ldAt at hm'
      rw [hm'] at hmay
      generalize l.getD i default = x at *
      repeat (first
        | ((first | apply Wp.seqItemsR | apply Wp.itemsR); (· simp only [go_sem, reduceIte, Nat.reduceEqDiff, Nat.reduceAdd, bx, ax, if_true, if_false, Nat.reduceMul, Nat.reduceLeDiff, g1, h2, h3, hat, hil, encI, vAV, hz]; exact rfl))
        | (refine WpItems.nil ⟨?_, ?_⟩; (· first | trivial | simp [pairsQ, pairsOk, apart, ent0]))
        | (apply Wp.cond_lit; (· simp only [go_sem, reduceIte, Nat.reduceEqDiff, Nat.reduceAdd, bx, ax, if_true, if_false, Nat.reduceMul, Nat.reduceLeDiff, g1, h2, h3, hat, hil, encI, vAV, hz]; exact rfl); (· rfl))
        | refine Wp.skip ?_
        | refine Wp.label ?_
        | refine Wp.block ?_
        | refine Wp.exit ?_
        | refine Wp.seq ?_)
      refine WpItems.pcall (by simp only [go_sem]) (by simp only [go_sem, reduceIte, Nat.reduceEqDiff, List.map]; exact VSubs.refl _) hmay ?_
      refine WpItems.evR (by simp only [go_sem, reduceIte, Nat.reduceEqDiff, Nat.reduceAdd, bx]; exact rfl) ?_
      refine WpItems.nil ⟨by trivial, ?_⟩
      repeat (first
        | ((first | apply Wp.seqItemsR | apply Wp.itemsR); (· simp only [go_sem, reduceIte, Nat.reduceEqDiff, Nat.reduceAdd, bx, ax, if_true, if_false, Nat.reduceMul, Nat.reduceLeDiff]; exact rfl))
        | (refine WpItems.nil ⟨?_, ?_⟩; (· first | trivial | simp [pairsQ, pairsOk, apart, ent0]))
        | (apply Wp.cond_lit; (· simp only [go_sem, reduceIte, Nat.reduceEqDiff, Nat.reduceAdd, bx, ax, if_true, if_false, Nat.reduceMul, Nat.reduceLeDiff]; exact rfl); (· rfl))
        | refine Wp.skip ?_
        | refine Wp.label ?_
        | refine Wp.block ?_
        | refine Wp.exit ?_
        | refine Wp.seq ?_)
      have on4 := on3.step on
      exact Wp.ret ⟨trivial, _, rfl, bad _ (by have := on4.gn; simp only; omega) on4.gm (by
        have : (List.range l.length).all (ldAt l last) = false := all_no hi2 hm
        simp [ldB, this])⟩
    | true =>
      have hm' := hm
      unfold ldAt at hm'
      rw [hm'] at hmay
      generalize l.getD i default = x at *
      repeat (first
        | ((first | apply Wp.seqItemsR | apply Wp.itemsR); (· simp only [go_sem, reduceIte, Nat.reduceEqDiff, Nat.reduceAdd, bx, ax, if_true, if_false, Nat.reduceMul, Nat.reduceLeDiff, g1, h2, h3, hat, hil, encI, vAV, hz]; exact rfl))
        | (refine WpItems.nil ⟨?_, ?_⟩; (· first | trivial | simp [pairsQ, pairsOk, apart, ent0]))
        | (apply Wp.cond_lit; (· simp only [go_sem, reduceIte, Nat.reduceEqDiff, Nat.reduceAdd, bx, ax, if_true, if_false, Nat.reduceMul, Nat.reduceLeDiff, g1, h2, h3, hat, hil, encI, vAV, hz]; exact rfl); (· rfl))
        | refine Wp.skip ?_
        | refine Wp.label ?_
        | refine Wp.block ?_
        | refine Wp.exit ?_
        | refine Wp.seq ?_)
      refine WpItems.pcall (by simp only [go_sem]) (by simp only [go_sem, reduceIte, Nat.reduceEqDiff, List.map]; exact VSubs.refl _) hmay ?_
      refine WpItems.evR (by simp only [go_sem, reduceIte, Nat.reduceEqDiff, Nat.reduceAdd, bx]; exact rfl) ?_
      refine WpItems.nil ⟨by trivial, ?_⟩
      repeat (first
        | ((first | apply Wp.seqItemsR | apply Wp.itemsR); (· simp only [go_sem, reduceIte, Nat.reduceEqDiff, Nat.reduceAdd, bx, ax, if_true, if_false, Nat.reduceMul, Nat.reduceLeDiff, hcl]; exact rfl))
        | (refine WpItems.nil ⟨?_, ?_⟩; (· first | trivial | simp [pairsQ, pairsOk, apart, ent0]))
        | (apply Wp.cond_lit; (· simp only [go_sem, reduceIte, Nat.reduceEqDiff, Nat.reduceAdd, bx, ax, if_true, if_false, Nat.reduceMul, Nat.reduceLeDiff, hcl]; exact rfl); (· rfl))
        | refine Wp.skip ?_
        | refine Wp.label ?_
        | refine Wp.block ?_
        | refine Wp.exit ?_
        | refine Wp.seq ?_)
      rw [upd_new, upd_ob]
      refine WpItems.pcall (by simp only [go_sem]) (by simp only [go_sem, reduceIte, Nat.reduceEqDiff, List.map]; exact VSubs.refl _) hcl ?_
      refine WpItems.evR (by simp only [go_sem, reduceIte, Nat.reduceEqDiff, Nat.reduceAdd, bx]; exact rfl) ?_
      have ok6 := on.ok.more (.cells [.str x.1, vAV x.2])
      refine WpItems.gcall [_] [F'] [] (by simp only [go_sem]) (by simp only [go_sem, reduceIte, Nat.reduceEqDiff, List.map]; exact VSubs.refl _) (set_g hF' hr' hl2 x.1 x.2) ok6 fun r G' n' m' ids hq hn' hm' ok7 wi ki => ?_
      obtain ⟨rfl, F5, rfl, hF5⟩ := hq
      have on7 : On [F'] n5 m5 [F5] n' _ m' := On.under ⟨hn', hm', ok7, wi, ki⟩
      have g5 : lay ([ob n5 (.cells [.str x.1, vAV x.2])] ++ [F5] ++ []) n5 = some (.cells [.str x.1, vAV x.2]) := lay_ob_at n5 _ [F5]
      refine WpItems.evR (by simp only [go_sem, reduceIte, Nat.reduceEqDiff, Nat.reduceAdd, bx]; exact rfl) ?_
      refine WpItems.nil ⟨by simp [pairsQ, pairsOk, apart, ent0], ?_⟩
      simp only [List.cons_append, List.nil_append, List.append_nil, vAV] at g5 ⊢
      repeat (first
        | ((first | apply Wp.seqItemsR | apply Wp.itemsR); (· simp only [go_sem, reduceIte, Nat.reduceEqDiff, Nat.reduceAdd, bx, ax, if_true, if_false, Nat.reduceMul, Nat.reduceLeDiff, e1, g5]; exact rfl))
        | (refine WpItems.nil ⟨?_, ?_⟩; (· first | trivial | simp [pairsQ, pairsOk, apart, ent0]))
        | (apply Wp.cond_lit; (· simp only [go_sem, reduceIte, Nat.reduceEqDiff, Nat.reduceAdd, bx, ax, if_true, if_false, Nat.reduceMul, Nat.reduceLeDiff, e1, g5]; exact rfl); (· rfl))
        | refine Wp.skip ?_
        | refine Wp.label ?_
        | refine Wp.block ?_
        | refine Wp.exit ?_
        | refine Wp.seq ?_)
      refine ⟨i + 1, [F5], n', _, m', on7, ⟨by omega, all_step hall hm, F5, rfl, ?_⟩, by omega, ?_⟩
      · rw [hdo]; exact hF5
      · refine StLe.of (tm_le ?_) (ole_drop_ob (Ok.alone ok7)) (fun _ h => h) (Nat.le_refl _) (Nat.le_refl _)
        rw [hah]
        simp only [AllSub, go_sem, reduceIte, Nat.reduceEqDiff, Nat.reduceAdd, bx]; and_intros <;> first | exact trivial | exact VSub.refl _ | exact VSub.any _ | (refine VSub.int ?_; omega)
  · have hie : i = l.length := by omega
    subst hie
    have g1 : decide (((l.length : Nat) : Int) < ((l.length : Nat) : Int)) = false := decide_eq_false (by omega)
    rw [List.take_length] at hF'
    have hld : ldB l last mark = true := by
      simp only [ldB, d1, d2, d3, d4, Bool.not_false, Bool.true_and]
      exact all_yes hall
    repeat (first
      | ((first | apply Wp.seqItemsR | apply Wp.itemsR); (· simp only [go_sem, reduceIte, Nat.reduceEqDiff, Nat.reduceAdd, bx, ax, if_true, if_false, Nat.reduceMul, Nat.reduceLeDiff, g1]; exact rfl))
      | (refine WpItems.nil ⟨?_, ?_⟩; (· first | trivial | simp [pairsQ, pairsOk, apart, ent0]))
      | (apply Wp.cond_lit; (· simp only [go_sem, reduceIte, Nat.reduceEqDiff, Nat.reduceAdd, bx, ax, if_true, if_false, Nat.reduceMul, Nat.reduceLeDiff, g1]; exact rfl); (· rfl))
      | refine Wp.skip ?_
      | refine Wp.label ?_
      | refine Wp.block ?_
      | refine Wp.exit ?_
      | refine Wp.seq ?_)
    refine Wp.ret ⟨trivial, _, rfl, _, _, (on3.step on).ends (VSub.refl _) ?_⟩
    rw [if_pos hld]
    exact ⟨s, F', rfl, rfl, hF'⟩
end Go.Proofs.Ytpehfflehebmbaa.Space
end
section
set_option linter.unusedSimpArgs false
set_option linter.unusedVariables false
set_option maxRecDepth 10000
namespace Go.Proofs.Ytpehfflehebmbaa.Space
open Go Go.Av Go.Proofs Go.Proofs.Ytpehfflehebmbaa.C Go.Proofs.Ytpehfflehebmbaa.Batch
theorem keysOf_cons (p : It) (L : List It) : keysOf (p :: L) = p.1 :: keysOf L := rfl
theorem plK_cons (k : Bs) (ks : List Bs) (q : Bs) : plK (k :: ks) q = if Op.bytesLess k q = true then plK ks q + 1 else 0 := by
  simp only [plK, List.findIdx_cons]
  cases h : Op.bytesLess k q <;> simp
theorem thK_nil (q : Bs) : thK [] q = false := by simp [thK]
theorem thK_cons (k : Bs) (ks : List Bs) (q : Bs) : thK (k :: ks) q = if Op.bytesLess k q = true then thK ks q else decide (k = q) := by
  simp only [thK, plK_cons]
  cases h : Op.bytesLess k q <;> simp
theorem setL_nil (q : Bs) (v : List Ver) : setL [] q v = if v = [] then [] else [(q, v)] := by
  simp [setL, keysOf, thK_nil, plK]
theorem setL_cons (p : It) (L : List It) (q : Bs) (v : List Ver) : setL (p :: L) q v = if Op.bytesLess p.1 q = true then p :: setL L q v else if p.1 = q then (if v = [] then L else (q, v) :: L) else (if v = [] then p :: L else (q, v) :: p :: L) := by
  simp only [setL, keysOf_cons, thK_cons, plK_cons]
  by_cases h : Op.bytesLess p.1 q = true
  · simp only [if_pos h, List.take_succ_cons, List.drop_succ_cons, List.cons_append]
    split <;> split <;> rfl
  · simp only [if_neg h]
    by_cases e : p.1 = q
    · simp [e]
    · simp [e]
theorem setL_mid (q : Bs) (v : List Ver) (B : List It) : ∀ A : List It, (∀ p ∈ A, Op.bytesLess p.1 q = true) → setL (A ++ B) q v = A ++ setL B q v
  | [], _ => rfl
  | p :: A, h => by
    rw [List.cons_append, setL_cons, if_pos (h p (by simp)), setL_mid q v B A (fun x hx => h x (by simp [hx]))]; rfl
theorem rise_cons {p : It} {L : List It} : RiseL (p :: L) ↔ (∀ x ∈ L, Op.bytesLess p.1 x.1 = true) ∧ RiseL L := by
  simp [RiseL, Rise, keysOf, List.pairwise_cons]
theorem rise_app {A B : List It} : RiseL (A ++ B) ↔ RiseL A ∧ RiseL B ∧ ∀ x ∈ A, ∀ y ∈ B, Op.bytesLess x.1 y.1 = true := by
  unfold RiseL Rise keysOf
  rw [List.map_append, List.pairwise_append]
  simp
def wGo (q : Bs) (v : List Ver) : Bool → List It → List It
  | laid, [] => if laid then [] else [(q, v)]
  | laid, p :: l => (if laid = false ∧ Op.bytesLess p.1 q = false then [(q, v)] else []) ++ ((if p.1 = q then [] else [p]) ++ wGo q v (laid || !Op.bytesLess p.1 q) l)
def withB (L : List It) (q : Bs) (v : List Ver) : List It := wGo q v (decide (v = [])) L
theorem wGo_true (q : Bs) (v : List Ver) : ∀ L : List It, (∀ p ∈ L, p.1 ≠ q) → wGo q v true L = L
  | [], _ => rfl
  | p :: L, h => by
    rw [wGo, if_neg (h p (by simp))]
    simp only [Bool.true_eq_false, false_and, if_false, List.nil_append, Bool.true_or, List.singleton_append]
    rw [wGo_true q v L (fun x hx => h x (by simp [hx]))]
theorem less_ne {a b : Bs} (h : Op.bytesLess a b = true) : a ≠ b := fun e => by rw [e, less_irrefl] at h; cases h
theorem after {p : It} {L : List It} {q : Bs} (hr : RiseL (p :: L)) (h : Op.bytesLess p.1 q = false) : ∀ x ∈ L, x.1 ≠ q := by
  intro x hx e
  have := (rise_cons.1 hr).1 x hx
  rw [e, h] at this; cases this
theorem withB_eq {q : Bs} {v : List Ver} : ∀ L : List It, RiseL L → withB L q v = setL L q v
  | [], _ => by
    rw [setL_nil, withB, wGo]
    by_cases h : v = [] <;> simp [h]
  | p :: L, hr => by
    have ih := withB_eq (q := q) (v := v) L (rise_cons.1 hr).2
    rw [setL_cons, withB, wGo]
    by_cases h : Op.bytesLess p.1 q = true
    · have hn := less_ne h
      rw [if_pos h, ← ih, withB]
      simp [h, hn]
    · have h' : Op.bytesLess p.1 q = false := by simpa using h
      have ha := wGo_true q v L (after hr h')
      rw [if_neg h]
      by_cases hv : v = [] <;> by_cases e : p.1 = q <;> simp [hv, e, h', ha] <;> (try (rw [e] at h'; simp [h'])) <;> simp_all
def Full (L : List It) : Prop := ∀ p ∈ L, p.2 ≠ []
theorem layL_app : ∀ (l A : List It), RiseL (A ++ l) → Full l → layL A l = A ++ l
  | [], A, _, _ => by simp [layL]
  | p :: l, A, hr, hf => by
    have h1 := (rise_app.1 hr).2.2
    have hs : setL A p.1 p.2 = A ++ [p] := by
      have := setL_mid p.1 p.2 [] A (fun x hx => h1 x hx p (by simp))
      rw [List.append_nil, setL_nil, if_neg (hf p (by simp))] at this
      exact this
    have e : layL A (p :: l) = layL (setL A p.1 p.2) l := rfl
    rw [e, hs, layL_app l (A ++ [p]) (by simpa using hr) (fun x hx => hf x (by simp [hx]))]
    simp
theorem layL_self {L : List It} (hr : RiseL L) (hf : Full L) : layL [] L = L := by
  have := layL_app L [] (by simpa using hr) hf
  simpa using this
theorem setL_full {L : List It} (hf : Full L) (q : Bs) (v : List Ver) : Full (setL L q v) := by
  induction L with
  | nil => rw [setL_nil]; split <;> simp_all [Full]
  | cons p L ih =>
    have h1 : p.2 ≠ [] := hf p (by simp)
    have h2 : Full L := fun x hx => hf x (by simp [hx])
    have h3 := ih h2
    rw [setL_cons]
    intro x hx
    split at hx
    · rcases List.mem_cons.1 hx with rfl | hx
      · exact h1
      · exact h3 x hx
    · split at hx <;> split at hx
      · exact h2 x hx
      · rename_i hv
        rcases List.mem_cons.1 hx with rfl | hx
        · exact hv
        · exact h2 x hx
      · exact hf x hx
      · rename_i hv
        rcases List.mem_cons.1 hx with rfl | hx
        · exact hv
        · exact hf x hx
theorem mget_mem {L : List It} (hr : RiseL L) {p : It} (hp : p ∈ L) : mget L p.1 = p.2 := by
  induction L with
  | nil => simp at hp
  | cons x L ih =>
    obtain ⟨h1, h2⟩ := rise_cons.1 hr
    rcases List.mem_cons.1 hp with rfl | hp
    · simp [mget]
    · rw [mget, if_neg (less_ne (h1 p hp))]; exact ih h2 hp
theorem mget_app_ne {A B : List It} {q : Bs} (h : ∀ x ∈ A, x.1 ≠ q) : mget (A ++ B) q = mget B q := by
  rw [mget_app, if_neg]
  intro hm
  obtain ⟨p, hp, e⟩ := List.mem_map.1 hm
  exact h p hp e
def vacR (mark : Int) (L : List It) : List It := L.filterMap fun p => if vacB p.2 mark = [] then none else some (p.1, vacB p.2 mark)
theorem vacR_keys {mark : Int} {L : List It} {x : It} (h : x ∈ vacR mark L) : ∃ p ∈ L, p.1 = x.1 := by
  obtain ⟨p, hp, e⟩ := List.mem_filterMap.1 h
  split at e
  · cases e
  · cases e; exact ⟨p, hp, rfl⟩
theorem vacS_go (mark : Int) (a b : Int) : ∀ (B A : List It), RiseL (A ++ B) → vacS mark ⟨vacR mark A ++ B, a, b⟩ (keysOf B) = ⟨vacR mark (A ++ B), a, b⟩
  | [], A, _ => by simp [vacS, keysOf]
  | p :: B, A, hr => by
    have h1 := (rise_app.1 hr).2.2
    have hlt : ∀ x ∈ vacR mark A, Op.bytesLess x.1 p.1 = true := fun x hx => by
      obtain ⟨y, hy, e⟩ := vacR_keys hx
      rw [← e]; exact h1 y hy p (by simp)
    have hg : mget (vacR mark A ++ p :: B) p.1 = p.2 := by
      rw [mget_app_ne (fun x hx => less_ne (hlt x hx))]; simp [mget]
    have e1 : vacS mark ⟨vacR mark A ++ p :: B, a, b⟩ (keysOf (p :: B)) = vacS mark (vacStep mark ⟨vacR mark A ++ p :: B, a, b⟩ p.1) (keysOf B) := rfl
    have e2 : vacStep mark ⟨vacR mark A ++ p :: B, a, b⟩ p.1 = ⟨vacR mark (A ++ [p]) ++ B, a, b⟩ := by
      simp only [vacStep, setS, hg, setL_mid _ _ _ _ hlt, setL_cons, less_irrefl, Bool.false_eq_true, if_false, if_true]
      by_cases hv : vacB p.2 mark = []
      · simp [vacR, hv]
      · simp [vacR, hv]
    rw [e1, e2, vacS_go mark a b B (A ++ [p]) (by simpa using hr)]
    simp
theorem vacS_eq {S : Spc} (hr : RiseL S.L) (mark : Int) : vacS mark S (keysOf S.L) = { S with L := vacR mark S.L } := by
  have := vacS_go mark S.last S.mark S.L [] (by simpa using hr)
  simpa [vacR] using this
theorem vacR_full (mark : Int) (L : List It) : Full (vacR mark L) := by
  intro x hx
  obtain ⟨p, hp, e⟩ := List.mem_filterMap.1 hx
  split at e
  · cases e
  · cases e; assumption
def inB (k a b : Bs) : Bool := !Op.bytesLess k a && selP b k
theorem sel_none {b : Bs} : ∀ {ks : List Bs} {k : Bs}, (∀ x ∈ ks, Op.bytesLess k x = true) → selP b k = false → ∀ x ∈ ks, selP b x = false := by
  intro ks k h hk x hx
  simp only [selP, Bool.or_eq_false_iff, decide_eq_false_iff_not] at hk ⊢
  refine ⟨hk.1, ?_⟩
  cases hc : Op.bytesLess x b with
  | false => rfl
  | true => rw [less_trans (h x hx) hc] at hk; cases hk.2
theorem take_filter {b : Bs} : ∀ ks : List Bs, Rise ks → ks.takeWhile (selP b) = ks.filter (selP b)
  | [], _ => rfl
  | k :: ks, hr => by
    obtain ⟨h1, h2⟩ := List.pairwise_cons.1 hr
    rw [List.takeWhile_cons, List.filter_cons]
    cases hk : selP b k with
    | true => simp only [if_true]; rw [take_filter ks h2]
    | false =>
      simp only [Bool.false_eq_true, if_false]
      refine (List.filter_eq_nil_iff.2 fun x hx => ?_).symm
      rw [sel_none h1 hk x hx]; exact Bool.false_ne_true
theorem selK_eq {a b : Bs} : ∀ ks : List Bs, Rise ks → selK ks a b = ks.filter fun k => inB k a b
  | [], _ => by simp [selK]
  | k :: ks, hr => by
    obtain ⟨h1, h2⟩ := List.pairwise_cons.1 hr
    by_cases h : Op.bytesLess k a = true
    · have ih := selK_eq (a := a) (b := b) ks h2
      rw [selK, plK_cons, if_pos h, List.drop_succ_cons, List.filter_cons, if_neg (by simp [inB, h])]
      exact ih
    · have h' : Op.bytesLess k a = false := by simpa using h
      rw [selK, plK_cons, if_neg h, List.drop_zero, take_filter _ hr]
      refine List.filter_congr fun x hx => ?_
      have : Op.bytesLess x a = false := by
        rcases List.mem_cons.1 hx with rfl | hx
        · exact h'
        · cases hc : Op.bytesLess x a with
          | false => rfl
          | true => rw [less_trans (h1 x hx) hc] at h'; cases h'
      simp [inB, this]
theorem fmap_congr {α β : Type} {f g : α → Option β} : ∀ {l : List α}, (∀ x ∈ l, f x = g x) → l.filterMap f = l.filterMap g
  | [], _ => rfl
  | x :: l, h => by
    rw [List.filterMap_cons, List.filterMap_cons, h x (by simp), fmap_congr (fun y hy => h y (by simp [hy]))]
theorem sel_map {α : Type} {a b : Bs} {L : List It} (hr : RiseL L) (f : List Ver → Bs → Option α) : (selK (keysOf L) a b).filterMap (fun k => f (mget L k) k) = (L.filter fun p => inB p.1 a b).filterMap fun p => f p.2 p.1 := by
  rw [selK_eq _ hr, keysOf, List.filter_map, List.filterMap_map]
  refine fmap_congr fun p hp => ?_
  have := mget_mem hr (List.mem_filter.1 hp).1
  simp only [Function.comp, this]
def tellP (t : Int) (p : It) : Option Pr := if (atB p.2 t).2 = true then some ⟨p.1, (atB p.2 t).1⟩ else none
theorem allS_eq {S : Spc} (hr : RiseL S.L) (a b : Bs) (t : Int) : allS S a b t = (S.L.filter fun p => inB p.1 a b).filterMap (tellP t) := by
  have := sel_map (a := a) (b := b) hr (fun v k => if (atB v t).2 = true then some (⟨k, (atB v t).1⟩ : Pr) else none)
  exact this
end Go.Proofs.Ytpehfflehebmbaa.Space
end
section
set_option linter.unusedSimpArgs false
set_option linter.unusedVariables false
set_option maxRecDepth 10000
namespace Go.Proofs.Ytpehfflehebmbaa.Space
open Go Go.Av Go.Proofs Go.Proofs.Ytpehfflehebmbaa.C Go.Proofs.Ytpehfflehebmbaa.Batch
def encS (S : Spc) : AV := .agg [.sl 2 (S.L.map encI) .any, .int .i64 S.last, .int .i64 S.mark]
theorem encI_pure (p : It) : isPure (encI p) = true := by simp [allPure, isPure, capPure, encI, vAV, vers_pure]
theorem its_pure (l : List It) : allPure (l.map encI) = true := Av.allPure_map encI_pure l
theorem encS_pure (S : Spc) : isPure (encS S) = true := by simp [allPure, isPure, capPure, encS, its_pure]
theorem within_p (k a b : Bs) (lk : Ls k) (la : Ls a) (lb : Ls b) : PCalls Try.prog 113 [.str k, .str a, .str b] (.bool (inB k a b)) := by
  refine f113.pcalls0 (by simp) (by simp [allPure, isPure]) rfl ?_
  unfold c113
  have b1 := below_p k a lk la
  have b2 := below_p k b lk lb
  cases h1 : Op.bytesLess k a with
  | true =>
    rw [h1] at b1
    repeat (first
      | ((first | apply Wp.seqItemsR | apply Wp.itemsR | ((first
          | (refine WpItems.pcall ?_ ?_ (b1) ?_; (· simp only [go_sem, reduceIte, Nat.reduceEqDiff, Nat.reduceAdd, bx]); (· simp only [go_sem, reduceIte, Nat.reduceEqDiff, Nat.reduceAdd, bx, List.map]; first | exact VSubs.refl _ | (repeat (first | exact VSubs.nil | refine VSubs.cons (by first | exact VSub.refl _ | assumption | exact VSub.cap | exact VSub.any _) ?_))))); apply WpItems.evR)); (· simp only [go_sem, reduceIte, Nat.reduceEqDiff, Nat.reduceAdd, bx, ax, if_true, if_false, Nat.reduceMul, Nat.reduceLeDiff, h1]; exact rfl))
      | (refine WpItems.nil ⟨?_, ?_⟩; (· first | trivial | simp [pairsQ, pairsOk, apart, ent0]))
      | (apply Wp.cond_lit; (· simp only [go_sem, reduceIte, Nat.reduceEqDiff, Nat.reduceAdd, bx, ax, if_true, if_false, Nat.reduceMul, Nat.reduceLeDiff, h1]; exact rfl); (· rfl))
      | refine Wp.skip ?_
      | refine Wp.label ?_
      | refine Wp.block ?_
      | refine Wp.exit ?_
      | refine Wp.seq ?_)
    refine Wp.ret ⟨trivial, _, rfl, ?_⟩
    simp only [go_sem, reduceIte, Nat.reduceEqDiff, Nat.reduceAdd, bx]
    rw [inB, h1]; exact VSub.refl _
  | false =>
    rw [h1] at b1
    by_cases h2 : b = []
    · have d2 := decide_eq_true h2
      repeat (first
        | ((first | apply Wp.seqItemsR | apply Wp.itemsR | ((first
            | (refine WpItems.pcall ?_ ?_ (b1) ?_; (· simp only [go_sem, reduceIte, Nat.reduceEqDiff, Nat.reduceAdd, bx]); (· simp only [go_sem, reduceIte, Nat.reduceEqDiff, Nat.reduceAdd, bx, List.map]; first | exact VSubs.refl _ | (repeat (first | exact VSubs.nil | refine VSubs.cons (by first | exact VSub.refl _ | assumption | exact VSub.cap | exact VSub.any _) ?_))))); apply WpItems.evR)); (· simp only [go_sem, reduceIte, Nat.reduceEqDiff, Nat.reduceAdd, bx, ax, if_true, if_false, Nat.reduceMul, Nat.reduceLeDiff, d2]; exact rfl))
        | (refine WpItems.nil ⟨?_, ?_⟩; (· first | trivial | simp [pairsQ, pairsOk, apart, ent0]))
        | (apply Wp.cond_lit; (· simp only [go_sem, reduceIte, Nat.reduceEqDiff, Nat.reduceAdd, bx, ax, if_true, if_false, Nat.reduceMul, Nat.reduceLeDiff, d2]; exact rfl); (· rfl))
        | refine Wp.skip ?_
        | refine Wp.label ?_
        | refine Wp.block ?_
        | refine Wp.exit ?_
        | refine Wp.seq ?_)
      refine Wp.ret ⟨trivial, _, rfl, ?_⟩
      simp only [go_sem, reduceIte, Nat.reduceEqDiff, Nat.reduceAdd, bx]
      rw [inB, selP, h1, d2]; exact VSub.refl _
    · have d2 := decide_eq_false h2
      repeat (first
        | ((first | apply Wp.seqItemsR | apply Wp.itemsR | ((first
            | (refine WpItems.pcall ?_ ?_ (b1) ?_; (· simp only [go_sem, reduceIte, Nat.reduceEqDiff, Nat.reduceAdd, bx]); (· simp only [go_sem, reduceIte, Nat.reduceEqDiff, Nat.reduceAdd, bx, List.map]; first | exact VSubs.refl _ | (repeat (first | exact VSubs.nil | refine VSubs.cons (by first | exact VSub.refl _ | assumption | exact VSub.cap | exact VSub.any _) ?_))))
            | (refine WpItems.pcall ?_ ?_ (b2) ?_; (· simp only [go_sem, reduceIte, Nat.reduceEqDiff, Nat.reduceAdd, bx]); (· simp only [go_sem, reduceIte, Nat.reduceEqDiff, Nat.reduceAdd, bx, List.map]; first | exact VSubs.refl _ | (repeat (first | exact VSubs.nil | refine VSubs.cons (by first | exact VSub.refl _ | assumption | exact VSub.cap | exact VSub.any _) ?_))))); apply WpItems.evR)); (· simp only [go_sem, reduceIte, Nat.reduceEqDiff, Nat.reduceAdd, bx, ax, if_true, if_false, Nat.reduceMul, Nat.reduceLeDiff, d2]; exact rfl))
        | (refine WpItems.nil ⟨?_, ?_⟩; (· first | trivial | simp [pairsQ, pairsOk, apart, ent0]))
        | (apply Wp.cond_lit; (· simp only [go_sem, reduceIte, Nat.reduceEqDiff, Nat.reduceAdd, bx, ax, if_true, if_false, Nat.reduceMul, Nat.reduceLeDiff, d2]; exact rfl); (· rfl))
        | refine Wp.skip ?_
        | refine Wp.label ?_
        | refine Wp.block ?_
        | refine Wp.exit ?_
        | refine Wp.seq ?_)
      refine Wp.ret ⟨trivial, _, rfl, ?_⟩
      simp only [go_sem, reduceIte, Nat.reduceEqDiff, Nat.reduceAdd, bx]
      rw [inB, selP, h1, d2]; exact VSub.refl _
theorem mget_first {L : List It} {q : Bs} {j : Nat} (h : ∀ i, i < j → (L.getD i default).1 ≠ q) (hj : j < L.length) (he : (L.getD j default).1 = q) : mget L q = (L.getD j default).2 := by
  induction L generalizing j with
  | nil => simp at hj
  | cons p L ih =>
    cases j with
    | zero => simp only [List.getD_cons_zero] at he ⊢; simp [mget, he]
    | succ j =>
      have h0 := h 0 (by omega)
      simp only [List.getD_cons_zero] at h0
      simp only [List.getD_cons_succ] at he ⊢
      rw [mget, if_neg h0]
      exact ih (fun i hi => by have := h (i + 1) (by omega); simpa using this) (by simpa using hj) he
theorem mget_nowhere {L : List It} {q : Bs} (h : ∀ i, i < L.length → (L.getD i default).1 ≠ q) : mget L q = [] := by
  refine mget_none _ _ fun hm => ?_
  obtain ⟨p, hp, e⟩ := List.mem_map.1 hm
  obtain ⟨i, hi, rfl⟩ := List.mem_iff_getElem.1 hp
  exact h i hi (by rw [getD_el hi]; exact e)
theorem find_p (S : Spc) (hl : S.L.length ≤ 1000000) (q : Bs) : PCalls Try.prog 112 [encS S, .str q] (.sl 3 ((mget S.L q).map encV) .any) := by
  refine f112.pcalls0 (by simp) (by simp [allPure, isPure, encS_pure]) (by simp [isPure, capPure, vers_pure]) ?_
  unfold c112
  have hil : (S.L.map encI).length = S.L.length := by simp
  repeat (first
    | ((first | apply Wp.seqItemsR | apply Wp.itemsR); (· simp only [go_sem, reduceIte, Nat.reduceEqDiff, Nat.reduceAdd, bx, ax, if_true, if_false, Nat.reduceMul, Nat.reduceLeDiff, encS]; exact rfl))
    | (refine WpItems.nil ⟨?_, ?_⟩; (· first | trivial | simp [pairsQ, pairsOk, apart, ent0]))
    | (apply Wp.cond_lit; (· simp only [go_sem, reduceIte, Nat.reduceEqDiff, Nat.reduceAdd, bx, ax, if_true, if_false, Nat.reduceMul, Nat.reduceLeDiff, encS]; exact rfl); (· rfl))
    | refine Wp.skip ?_
    | refine Wp.label ?_
    | refine Wp.block ?_
    | refine Wp.exit ?_
    | refine Wp.seq ?_)
  refine Wp.loopK [1, 2] (by simp only [go_sem, reduceIte, Nat.reduceEqDiff, Nat.reduceAdd, bx, List.map]; exact rfl) (fun j : Nat => [(5, .int .i64 (j : Nat))]) (fun j => j ≤ S.L.length ∧ ∀ i, i < j → (S.L.getD i default).1 ≠ q) (fun j => S.L.length - j) 0 ⟨Nat.zero_le _, fun i h => absurd h (by omega)⟩ ?_ ?_
  · simp only [AllSub, go_sem, reduceIte, Nat.reduceEqDiff, Nat.reduceAdd, bx]; and_intros <;> first | exact trivial | exact VSub.refl _ | exact VSub.any _ | (refine VSub.int ?_; omega)
  rintro j ⟨hj, hno⟩
  by_cases hj2 : j < S.L.length
  · have g1 : decide (((j : Nat) : Int) < ((S.L.length : Nat) : Int)) = true := decide_eq_true (by omega)
    have h2 : (0 : Int) ≤ ((j : Nat) : Int) := by omega
    have h3 : ((j : Nat) : Int) < ((S.L.length : Nat) : Int) := by omega
    have e1 : IntKind.i64.wrap (((j : Nat) : Int) + 1) = ((j + 1 : Nat) : Int) := by rw [IntWalk.i64_in _ (by omega)]; omega
    have hat := enc_at encI S.L j .any hj2
    by_cases he : (S.L.getD j default).1 = q
    · have d1 := decide_eq_true he
      have hm := mget_first hno hj2 he
      generalize S.L.getD j default = x at *
      repeat (first
        | ((first | apply Wp.seqItemsR | apply Wp.itemsR); (· simp only [go_sem, reduceIte, Nat.reduceEqDiff, Nat.reduceAdd, bx, ax, if_true, if_false, Nat.reduceMul, Nat.reduceLeDiff, g1, h2, h3, hat, hil, encI, vAV, d1]; exact rfl))
        | (refine WpItems.nil ⟨?_, ?_⟩; (· first | trivial | simp [pairsQ, pairsOk, apart, ent0]))
        | (apply Wp.cond_lit; (· simp only [go_sem, reduceIte, Nat.reduceEqDiff, Nat.reduceAdd, bx, ax, if_true, if_false, Nat.reduceMul, Nat.reduceLeDiff, g1, h2, h3, hat, hil, encI, vAV, d1]; exact rfl); (· rfl))
        | refine Wp.skip ?_
        | refine Wp.label ?_
        | refine Wp.block ?_
        | refine Wp.exit ?_
        | refine Wp.seq ?_)
      refine Wp.ret ⟨trivial, _, rfl, ?_⟩
      simp only [go_sem, reduceIte, Nat.reduceEqDiff, Nat.reduceAdd, bx]
      rw [hm]; exact VSub.refl _
    · have d1 := decide_eq_false he
      have hno2 : ∀ i, i < j + 1 → (S.L.getD i default).1 ≠ q := fun i hi => by
        by_cases e : i = j
        · rw [e]; exact he
        · exact hno i (by omega)
      generalize S.L.getD j default = x at *
      repeat (first
        | ((first | apply Wp.seqItemsR | apply Wp.itemsR); (· simp only [go_sem, reduceIte, Nat.reduceEqDiff, Nat.reduceAdd, bx, ax, if_true, if_false, Nat.reduceMul, Nat.reduceLeDiff, g1, h2, h3, hat, hil, encI, vAV, d1, e1]; exact rfl))
        | (refine WpItems.nil ⟨?_, ?_⟩; (· first | trivial | simp [pairsQ, pairsOk, apart, ent0]))
        | (apply Wp.cond_lit; (· simp only [go_sem, reduceIte, Nat.reduceEqDiff, Nat.reduceAdd, bx, ax, if_true, if_false, Nat.reduceMul, Nat.reduceLeDiff, g1, h2, h3, hat, hil, encI, vAV, d1, e1]; exact rfl); (· rfl))
        | refine Wp.skip ?_
        | refine Wp.label ?_
        | refine Wp.block ?_
        | refine Wp.exit ?_
        | refine Wp.seq ?_)
      refine ⟨j + 1, ⟨by omega, hno2⟩, by omega, ?_⟩
      refine StLe.tm (by simp only [AllSub, go_sem, reduceIte, Nat.reduceEqDiff, Nat.reduceAdd, bx]; and_intros <;> first | exact trivial | exact VSub.refl _ | exact VSub.any _ | (refine VSub.int ?_; omega))
  · have hje : j = S.L.length := by omega
    subst hje
    have g1 : decide (((S.L.length : Nat) : Int) < ((S.L.length : Nat) : Int)) = false := decide_eq_false (by omega)
    repeat (first
      | ((first | apply Wp.seqItemsR | apply Wp.itemsR); (· simp only [go_sem, reduceIte, Nat.reduceEqDiff, Nat.reduceAdd, bx, ax, if_true, if_false, Nat.reduceMul, Nat.reduceLeDiff, g1, hil]; exact rfl))
      | (refine WpItems.nil ⟨?_, ?_⟩; (· first | trivial | simp [pairsQ, pairsOk, apart, ent0]))
      | (apply Wp.cond_lit; (· simp only [go_sem, reduceIte, Nat.reduceEqDiff, Nat.reduceAdd, bx, ax, if_true, if_false, Nat.reduceMul, Nat.reduceLeDiff, g1, hil]; exact rfl); (· rfl))
      | refine Wp.skip ?_
      | refine Wp.label ?_
      | refine Wp.block ?_
      | refine Wp.exit ?_
      | refine Wp.seq ?_)
    refine Wp.ret ⟨trivial, _, rfl, ?_⟩
    simp only [go_sem, reduceIte, Nat.reduceEqDiff, Nat.reduceAdd, bx]
    rw [mget_nowhere hno]; exact VSub.cap
end Go.Proofs.Ytpehfflehebmbaa.Space
end
section
set_option linter.unusedSimpArgs false
set_option linter.unusedVariables false
set_option maxRecDepth 10000
namespace Go.Proofs.Ytpehfflehebmbaa.Space
open Go Go.Av Go.Proofs Go.Proofs.Ytpehfflehebmbaa.C Go.Proofs.Ytpehfflehebmbaa.Batch
theorem encI_snoc (l : List It) (q : Bs) (v : List Ver) : l.map encI ++ [.agg [.str q, .sl 3 (v.map encV) .any]] = (l ++ [(q, v)]).map encI := by simp [encI, vAV]
theorem encI_snoc2 (l : List It) (p : It) : l.map encI ++ [.agg [.str p.1, .sl 3 (p.2.map encV) .any]] = (l ++ [p]).map encI := by simp [encI, vAV]
theorem drop_it {l : List It} {j : Nat} (h : j < l.length) : l.drop j = l.getD j default :: l.drop (j + 1) := by
  rw [List.drop_eq_getElem_cons h, List.getD_eq_getElem?_getD, List.getElem?_eq_getElem h]; rfl
theorem rooms40 {n : Nat} (h : n ≤ 2000000) : (n + 1) * 40 ≤ 140737488355328 ∧ n + 1 < 4611686018427387904 ∧ (n + 1 + 1) * 40 ≤ 140737488355328 ∧ n + 1 + 1 < 4611686018427387904 := by omega
theorem lsI {L : List It} (h : ∀ p ∈ L, Ls p.1) {j : Nat} (hj : j < L.length) : Ls (L.getD j default).1 := by
  rw [getD_el hj]; exact h _ (List.getElem_mem hj)
set_option maxHeartbeats 2000000 in
theorem with_p (l : List It) (hl : l.length ≤ 1000000) (lk : ∀ p ∈ l, Ls p.1) (q : Bs) (hq : Ls q) (v : List Ver) (hv : v.length ≤ 1000001) : PCalls Try.prog 118 [.sl 2 (l.map encI) .any, .str q, .sl 3 (v.map encV) .any] (.sl 2 ((withB l q v).map encI) .any) := by
  refine f118.pcalls0 (by simp) (by simp [allPure, isPure, capPure, its_pure, vers_pure]) (by simp [isPure, capPure, its_pure]) ?_
  unfold c118
  have z : decide ((v.length : Int) = 0) = decide (v = []) := by cases v <;> simp; omega
  have hil : (l.map encI).length = l.length := by simp
  repeat (first
    | ((first | apply Wp.seqItemsR | apply Wp.itemsR); (· simp only [go_sem, reduceIte, Nat.reduceEqDiff, Nat.reduceAdd, bx, ax, if_true, if_false, Nat.reduceMul, Nat.reduceLeDiff, z, List.length_map]; exact rfl))
    | (refine WpItems.nil ⟨?_, ?_⟩; (· first | trivial | simp [pairsQ, pairsOk, apart, ent0]))
    | (apply Wp.cond_lit; (· simp only [go_sem, reduceIte, Nat.reduceEqDiff, Nat.reduceAdd, bx, ax, if_true, if_false, Nat.reduceMul, Nat.reduceLeDiff, z, List.length_map]; exact rfl); (· rfl))
    | refine Wp.skip ?_
    | refine Wp.label ?_
    | refine Wp.block ?_
    | refine Wp.exit ?_
    | refine Wp.seq ?_)
  refine Wp.le (StLe.tok _ _) ?_
  refine Wp.loopTok [0, 1, 2] (by simp only [go_sem, reduceIte, Nat.reduceEqDiff, List.map]; exact rfl) (fun (j : Nat × List It × Bool) tk => [(7, .sl 2 (j.2.1.map encI) (.own tk)), (8, .bool j.2.2), (9, .int .i64 (j.1 : Nat))]) (fun j => j.1 ≤ l.length ∧ j.2.1 ++ wGo q v j.2.2 (l.drop j.1) = withB l q v ∧ j.2.1.length ≤ 2 * j.1) (fun j => l.length - j.1) (0, [], decide (v = [])) _ ⟨Nat.zero_le _, by simp [withB], Nat.le_refl _⟩ rfl ?_ ?_
  · simp only [AllSub, go_sem, reduceIte, Nat.reduceEqDiff, Nat.reduceAdd, bx]; and_intros <;> first | exact trivial | exact VSub.refl _ | exact VSub.any _ | exact VSub.own_of rfl | (refine VSub.int ?_; omega)
  rintro ⟨j, o, b⟩ tk m ⟨hj, ho, hol⟩
  simp only at hj ho hol
  obtain ⟨g0, g0', g1', g1''⟩ := rooms40 (show o.length ≤ 2000000 by omega)
  by_cases hc : j < l.length
  · have g1 : decide (((j : Nat) : Int) < ((l.length : Nat) : Int)) = true := decide_eq_true (by omega)
    have h2 : (0 : Int) ≤ ((j : Nat) : Int) := by omega
    have h3 : ((j : Nat) : Int) < ((l.length : Nat) : Int) := by omega
    have e1 : IntKind.i64.wrap (((j : Nat) : Int) + 1) = ((j + 1 : Nat) : Int) := by rw [IntWalk.i64_in _ (by omega)]; omega
    have hat := enc_at encI l j .any hc
    rw [drop_it hc, wGo] at ho
    have hbel := below_p (l.getD j default).1 q (lsI lk hc) hq
    have hsn := encI_snoc2 o (l.getD j default)
    have hsq := encI_snoc o q v
    have hsn3 := encI_snoc2 (o ++ [(q, v)]) (l.getD j default)
    rw [← hsq] at hsn3
    by_cases hk : (l.getD j default).1 = q
    · have q4 : decide ((l.getD j default).1 = q) = true := decide_eq_true hk
      rw [if_pos hk, List.nil_append] at ho
      cases b with
      | true =>
        simp only [Bool.true_eq_false, false_and, if_false, List.nil_append, Bool.true_or] at ho
        generalize l.getD j default = x at *
        repeat (first
          | ((first | apply Wp.seqItemsR | apply Wp.itemsR); (· simp only [go_sem, reduceIte, Nat.reduceEqDiff, Nat.reduceAdd, bx, ax, if_true, if_false, Nat.reduceMul, Nat.reduceLeDiff, hil, g1, h2, h3, q4, e1, hat, encI, vAV]; exact rfl))
          | (refine WpItems.nil ⟨?_, ?_⟩; (· first | trivial | simp [pairsQ, pairsOk, apart, ent0]))
          | (apply Wp.cond_lit; (· simp only [go_sem, reduceIte, Nat.reduceEqDiff, Nat.reduceAdd, bx, ax, if_true, if_false, Nat.reduceMul, Nat.reduceLeDiff, hil, g1, h2, h3, q4, e1, hat, encI, vAV]; exact rfl); (· rfl))
          | refine Wp.skip ?_
          | refine Wp.label ?_
          | refine Wp.block ?_
          | refine Wp.exit ?_
          | refine Wp.seq ?_)
        refine ⟨(j + 1, o, true), tk, m, ⟨by simp only; omega, ho, by simp only; omega⟩, by simp only; omega, ?_⟩
        refine StLe.tm (by simp only [AllSub, go_sem, reduceIte, Nat.reduceEqDiff, Nat.reduceAdd, bx]; and_intros <;> first | exact trivial | exact VSub.refl _ | exact VSub.any _ | (refine VSub.int ?_; omega))
      | false =>
        cases hb : Op.bytesLess (l.getD j default).1 q with
        | true => rw [hk, less_irrefl] at hb; cases hb
        | false =>
          rw [hb] at hbel ho
          simp only [true_and, and_self, if_true, Bool.not_false, Bool.or_true] at ho
          generalize l.getD j default = x at *
          repeat (first
            | ((first | apply Wp.seqItemsR | apply Wp.itemsR | ((first
                | (refine WpItems.pcall ?_ ?_ (hbel) ?_; (· simp only [go_sem, reduceIte, Nat.reduceEqDiff, Nat.reduceAdd, bx]); (· simp only [go_sem, reduceIte, Nat.reduceEqDiff, Nat.reduceAdd, bx, List.map]; first | exact VSubs.refl _ | (repeat (first | exact VSubs.nil | refine VSubs.cons (by first | exact VSub.refl _ | assumption | exact VSub.cap | exact VSub.any _) ?_))))); apply WpItems.evR)); (· simp only [go_sem, reduceIte, Nat.reduceEqDiff, Nat.reduceAdd, bx, ax, if_true, if_false, Nat.reduceMul, Nat.reduceLeDiff, hil, g1, h2, h3, q4, e1, hat, encI, vAV, List.length_map, g0, g0']; exact rfl))
            | (refine WpItems.nil ⟨?_, ?_⟩; (· first | trivial | simp [pairsQ, pairsOk, apart, ent0]))
            | (apply Wp.cond_lit; (· simp only [go_sem, reduceIte, Nat.reduceEqDiff, Nat.reduceAdd, bx, ax, if_true, if_false, Nat.reduceMul, Nat.reduceLeDiff, hil, g1, h2, h3, q4, e1, hat, encI, vAV, List.length_map, g0, g0']; exact rfl); (· rfl))
            | refine Wp.skip ?_
            | refine Wp.label ?_
            | refine Wp.block ?_
            | refine Wp.exit ?_
            | refine Wp.seq ?_)
          refine ⟨(j + 1, o ++ [(q, v)], true), m, m + 1, ⟨by simp only; omega, by rw [← ho]; simp, by simp; omega⟩, by simp only; omega, ?_⟩
          refine StLe.tm (by simp only [AllSub, go_sem, reduceIte, Nat.reduceEqDiff, Nat.reduceAdd, bx]; and_intros <;> first | exact trivial | exact VSub.refl _ | exact VSub.any _ | exact VSub.of_eq (by rw [← hsq]) | (refine VSub.int ?_; omega))
    · have q4 : decide ((l.getD j default).1 = q) = false := decide_eq_false hk
      rw [if_neg hk] at ho
      cases b with
      | true =>
        simp only [Bool.true_eq_false, false_and, if_false, List.nil_append, Bool.true_or] at ho
        generalize l.getD j default = x at *
        repeat (first
          | ((first | apply Wp.seqItemsR | apply Wp.itemsR); (· simp only [go_sem, reduceIte, Nat.reduceEqDiff, Nat.reduceAdd, bx, ax, if_true, if_false, Nat.reduceMul, Nat.reduceLeDiff, hil, g1, h2, h3, q4, e1, hat, encI, vAV, List.length_map, g0, g0']; exact rfl))
          | (refine WpItems.nil ⟨?_, ?_⟩; (· first | trivial | simp [pairsQ, pairsOk, apart, ent0]))
          | (apply Wp.cond_lit; (· simp only [go_sem, reduceIte, Nat.reduceEqDiff, Nat.reduceAdd, bx, ax, if_true, if_false, Nat.reduceMul, Nat.reduceLeDiff, hil, g1, h2, h3, q4, e1, hat, encI, vAV, List.length_map, g0, g0']; exact rfl); (· rfl))
          | refine Wp.skip ?_
          | refine Wp.label ?_
          | refine Wp.block ?_
          | refine Wp.exit ?_
          | refine Wp.seq ?_)
        refine ⟨(j + 1, o ++ [x], true), m, m + 1, ⟨by simp only; omega, by rw [← ho]; simp, by simp; omega⟩, by simp only; omega, ?_⟩
        refine StLe.tm (by simp only [AllSub, go_sem, reduceIte, Nat.reduceEqDiff, Nat.reduceAdd, bx]; and_intros <;> first | exact trivial | exact VSub.refl _ | exact VSub.any _ | exact VSub.of_eq (by rw [← hsn]) | (refine VSub.int ?_; omega))
      | false =>
        cases hb : Op.bytesLess (l.getD j default).1 q with
        | true =>
          rw [hb] at hbel ho
          simp only [Bool.true_eq_false, and_false, if_false, List.nil_append, Bool.not_true, Bool.or_self] at ho
          generalize l.getD j default = x at *
          repeat (first
            | ((first | apply Wp.seqItemsR | apply Wp.itemsR | ((first
                | (refine WpItems.pcall ?_ ?_ (hbel) ?_; (· simp only [go_sem, reduceIte, Nat.reduceEqDiff, Nat.reduceAdd, bx]); (· simp only [go_sem, reduceIte, Nat.reduceEqDiff, Nat.reduceAdd, bx, List.map]; first | exact VSubs.refl _ | (repeat (first | exact VSubs.nil | refine VSubs.cons (by first | exact VSub.refl _ | assumption | exact VSub.cap | exact VSub.any _) ?_))))); apply WpItems.evR)); (· simp only [go_sem, reduceIte, Nat.reduceEqDiff, Nat.reduceAdd, bx, ax, if_true, if_false, Nat.reduceMul, Nat.reduceLeDiff, hil, g1, h2, h3, q4, e1, hat, encI, vAV, List.length_map, g0, g0']; exact rfl))
            | (refine WpItems.nil ⟨?_, ?_⟩; (· first | trivial | simp [pairsQ, pairsOk, apart, ent0]))
            | (apply Wp.cond_lit; (· simp only [go_sem, reduceIte, Nat.reduceEqDiff, Nat.reduceAdd, bx, ax, if_true, if_false, Nat.reduceMul, Nat.reduceLeDiff, hil, g1, h2, h3, q4, e1, hat, encI, vAV, List.length_map, g0, g0']; exact rfl); (· rfl))
            | refine Wp.skip ?_
            | refine Wp.label ?_
            | refine Wp.block ?_
            | refine Wp.exit ?_
            | refine Wp.seq ?_)
          refine ⟨(j + 1, o ++ [x], false), m, m + 1, ⟨by simp only; omega, by rw [← ho]; simp, by simp; omega⟩, by simp only; omega, ?_⟩
          refine StLe.tm (by simp only [AllSub, go_sem, reduceIte, Nat.reduceEqDiff, Nat.reduceAdd, bx]; and_intros <;> first | exact trivial | exact VSub.refl _ | exact VSub.any _ | exact VSub.of_eq (by rw [← hsn]) | (refine VSub.int ?_; omega))
        | false =>
          rw [hb] at hbel ho
          simp only [true_and, and_self, if_true, Bool.not_false, Bool.or_true] at ho
          generalize l.getD j default = x at *
          repeat (first
            | ((first | apply Wp.seqItemsR | apply Wp.itemsR | ((first
                | (refine WpItems.pcall ?_ ?_ (hbel) ?_; (· simp only [go_sem, reduceIte, Nat.reduceEqDiff, Nat.reduceAdd, bx]); (· simp only [go_sem, reduceIte, Nat.reduceEqDiff, Nat.reduceAdd, bx, List.map]; first | exact VSubs.refl _ | (repeat (first | exact VSubs.nil | refine VSubs.cons (by first | exact VSub.refl _ | assumption | exact VSub.cap | exact VSub.any _) ?_))))); apply WpItems.evR)); (· simp only [go_sem, reduceIte, Nat.reduceEqDiff, Nat.reduceAdd, bx, ax, if_true, if_false, Nat.reduceMul, Nat.reduceLeDiff, hil, g1, h2, h3, q4, e1, hat, encI, vAV, List.length_map, List.length_cons, List.length_nil, Nat.zero_add, g0, g0', g1', g1'']; exact rfl))
            | (refine WpItems.nil ⟨?_, ?_⟩; (· first | trivial | simp [pairsQ, pairsOk, apart, ent0]))
            | (apply Wp.cond_lit; (· simp only [go_sem, reduceIte, Nat.reduceEqDiff, Nat.reduceAdd, bx, ax, if_true, if_false, Nat.reduceMul, Nat.reduceLeDiff, hil, g1, h2, h3, q4, e1, hat, encI, vAV, List.length_map, List.length_cons, List.length_nil, Nat.zero_add, g0, g0', g1', g1'']; exact rfl); (· rfl))
            | refine Wp.skip ?_
            | refine Wp.label ?_
            | refine Wp.block ?_
            | refine Wp.exit ?_
            | refine Wp.seq ?_)
          refine ⟨(j + 1, o ++ [(q, v)] ++ [x], true), m + 1, m + 2, ⟨by simp only; omega, by rw [← ho]; simp, by simp; omega⟩, by simp only; omega, ?_⟩
          refine StLe.tm (by simp only [AllSub, go_sem, reduceIte, Nat.reduceEqDiff, Nat.reduceAdd, bx]; and_intros <;> first | exact trivial | exact VSub.refl _ | exact VSub.any _ | exact VSub.of_eq (by rw [← hsn3]) | (refine VSub.int ?_; omega))
  · obtain rfl : j = l.length := by omega
    have g1 : decide (((l.length : Nat) : Int) < ((l.length : Nat) : Int)) = false := decide_eq_false (by omega)
    rw [List.drop_length, wGo] at ho
    cases b with
    | true =>
      simp only [if_true, List.append_nil] at ho
      repeat (first
        | ((first | apply Wp.seqItemsR | apply Wp.itemsR); (· simp only [go_sem, reduceIte, Nat.reduceEqDiff, Nat.reduceAdd, bx, ax, if_true, if_false, Nat.reduceMul, Nat.reduceLeDiff, hil, g1]; exact rfl))
        | (refine WpItems.nil ⟨?_, ?_⟩; (· first | trivial | simp [pairsQ, pairsOk, apart, ent0]))
        | (apply Wp.cond_lit; (· simp only [go_sem, reduceIte, Nat.reduceEqDiff, Nat.reduceAdd, bx, ax, if_true, if_false, Nat.reduceMul, Nat.reduceLeDiff, hil, g1]; exact rfl); (· rfl))
        | refine Wp.skip ?_
        | refine Wp.label ?_
        | refine Wp.block ?_
        | refine Wp.exit ?_
        | refine Wp.seq ?_)
      refine Wp.ret ⟨trivial, _, rfl, ?_⟩
      simp only [go_sem, reduceIte, Nat.reduceEqDiff, Nat.reduceAdd, bx]
      rw [← ho]; exact VSub.cap
    | false =>
      simp only [Bool.false_eq_true, if_false] at ho
      have hsq := encI_snoc o q v
      repeat (first
        | ((first | apply Wp.seqItemsR | apply Wp.itemsR); (· simp only [go_sem, reduceIte, Nat.reduceEqDiff, Nat.reduceAdd, bx, ax, if_true, if_false, Nat.reduceMul, Nat.reduceLeDiff, hil, g1, List.length_map, g0, g0']; exact rfl))
        | (refine WpItems.nil ⟨?_, ?_⟩; (· first | trivial | simp [pairsQ, pairsOk, apart, ent0]))
        | (apply Wp.cond_lit; (· simp only [go_sem, reduceIte, Nat.reduceEqDiff, Nat.reduceAdd, bx, ax, if_true, if_false, Nat.reduceMul, Nat.reduceLeDiff, hil, g1, List.length_map, g0, g0']; exact rfl); (· rfl))
        | refine Wp.skip ?_
        | refine Wp.label ?_
        | refine Wp.block ?_
        | refine Wp.exit ?_
        | refine Wp.seq ?_)
      refine Wp.ret ⟨trivial, _, rfl, ?_⟩
      simp only [go_sem, reduceIte, Nat.reduceEqDiff, Nat.reduceAdd, bx]
      rw [← ho, ← hsq]; exact VSub.cap
theorem samePr_p (a b : List Pr) (ha : a.length ≤ 1000000) : PCalls Try.prog 18 [.sl 2 (prs a) .any, .sl 2 (prs b) .any] (.bool (decide (a = b))) := by
  refine f18.pcalls0 (by simp) (by simp [allPure, isPure, capPure, prs_pure]) rfl ?_
  unfold c18
  by_cases hab : a.length = b.length
  · have g0 : decide ((a.length : Int) = (b.length : Int)) = true := decide_eq_true (by omega)
    repeat (first
      | ((first | apply Wp.seqItemsR | apply Wp.itemsR); (· simp only [go_sem, reduceIte, Nat.reduceEqDiff, Nat.reduceAdd, bx, ax, if_true, if_false, Nat.reduceMul, Nat.reduceLeDiff, g0, prs_length]; exact rfl))
      | (refine WpItems.nil ⟨?_, ?_⟩; (· first | trivial | simp [pairsQ, pairsOk, apart, ent0]))
      | (apply Wp.cond_lit; (· simp only [go_sem, reduceIte, Nat.reduceEqDiff, Nat.reduceAdd, bx, ax, if_true, if_false, Nat.reduceMul, Nat.reduceLeDiff, g0, prs_length]; exact rfl); (· rfl))
      | refine Wp.skip ?_
      | refine Wp.label ?_
      | refine Wp.block ?_
      | refine Wp.exit ?_
      | refine Wp.seq ?_)
    refine Wp.loopK [0, 1] (by simp only [go_sem, reduceIte, Nat.reduceEqDiff, Nat.reduceAdd, bx, List.map]; exact rfl) (fun j : Nat => [(5, .int .i64 (j : Nat))]) (fun j => j ≤ a.length ∧ ∀ i, i < j → a.getD i default = b.getD i default) (fun j => a.length - j) 0 ⟨Nat.zero_le _, fun i h => absurd h (by omega)⟩ ?_ ?_
    · simp only [AllSub, go_sem, reduceIte, Nat.reduceEqDiff, Nat.reduceAdd, bx]; and_intros <;> first | exact trivial | exact VSub.refl _ | exact VSub.any _ | (refine VSub.int ?_; omega)
    rintro j ⟨hj, hs⟩
    by_cases hc : j < a.length
    · have g1 : decide (((j : Nat) : Int) < ((a.length : Nat) : Int)) = true := decide_eq_true (by omega)
      have h2 : (0 : Int) ≤ ((j : Nat) : Int) := by omega
      have h3 : ((j : Nat) : Int) < ((a.length : Nat) : Int) := by omega
      have e1 : IntKind.i64.wrap (((j : Nat) : Int) + 1) = ((j + 1 : Nat) : Int) := by rw [IntWalk.i64_in _ (by omega)]; omega
      have h3' : (j : Int) < (b.length : Int) := by omega
      have he : ∀ (x y : Pr), (decide (x.k = y.k) && decide (x.v = y.v)) = decide (x = y) := by
        rintro ⟨x1, x2⟩ ⟨y1, y2⟩
        rw [Bool.eq_iff_iff]; simp
      cases hp : decide (a.getD j default = b.getD j default) with
      | true =>
        have hp' := (he _ _).trans hp
        repeat (first
          | ((first | apply Wp.seqItemsR | apply Wp.itemsR); (· simp only [go_sem, reduceIte, Nat.reduceEqDiff, Nat.reduceAdd, bx, ax, if_true, if_false, Nat.reduceMul, Nat.reduceLeDiff, g1, h2, h3, h3', e1, hp', prs_length, prs_getD _ _ _ hc, prs_getD b j _ (show j < b.length by omega), encPr]; exact rfl))
          | (refine WpItems.nil ⟨?_, ?_⟩; (· first | trivial | simp [pairsQ, pairsOk, apart, ent0]))
          | (apply Wp.cond_lit; (· simp only [go_sem, reduceIte, Nat.reduceEqDiff, Nat.reduceAdd, bx, ax, if_true, if_false, Nat.reduceMul, Nat.reduceLeDiff, g1, h2, h3, h3', e1, hp', prs_length, prs_getD _ _ _ hc, prs_getD b j _ (show j < b.length by omega), encPr]; exact rfl); (· rfl))
          | refine Wp.skip ?_
          | refine Wp.label ?_
          | refine Wp.block ?_
          | refine Wp.exit ?_
          | refine Wp.seq ?_)
        refine ⟨j + 1, ⟨by omega, fun i hi => ?_⟩, by omega, ?_⟩
        · by_cases e : i = j
          · subst e; exact of_decide_eq_true hp
          · exact hs i (by omega)
        · refine StLe.tm (by simp only [AllSub, go_sem, reduceIte, Nat.reduceEqDiff, Nat.reduceAdd, bx]; and_intros <;> first | exact trivial | exact VSub.refl _ | exact VSub.any _ | (refine VSub.int ?_; omega))
      | false =>
        have hp' := (he _ _).trans hp
        repeat (first
          | ((first | apply Wp.seqItemsR | apply Wp.itemsR); (· simp only [go_sem, reduceIte, Nat.reduceEqDiff, Nat.reduceAdd, bx, ax, if_true, if_false, Nat.reduceMul, Nat.reduceLeDiff, g1, h2, h3, h3', e1, hp', prs_length, prs_getD _ _ _ hc, prs_getD b j _ (show j < b.length by omega), encPr]; exact rfl))
          | (refine WpItems.nil ⟨?_, ?_⟩; (· first | trivial | simp [pairsQ, pairsOk, apart, ent0]))
          | (apply Wp.cond_lit; (· simp only [go_sem, reduceIte, Nat.reduceEqDiff, Nat.reduceAdd, bx, ax, if_true, if_false, Nat.reduceMul, Nat.reduceLeDiff, g1, h2, h3, h3', e1, hp', prs_length, prs_getD _ _ _ hc, prs_getD b j _ (show j < b.length by omega), encPr]; exact rfl); (· rfl))
          | refine Wp.skip ?_
          | refine Wp.label ?_
          | refine Wp.block ?_
          | refine Wp.exit ?_
          | refine Wp.seq ?_)
        refine Wp.ret ⟨trivial, _, rfl, ?_⟩
        simp only [go_sem, reduceIte, Nat.reduceEqDiff, Nat.reduceAdd, bx]
        rw [decide_eq_false (fun e => of_decide_eq_false hp (by rw [e]))]; exact VSub.refl _
    · obtain rfl : j = a.length := by omega
      have g1 : decide (((a.length : Nat) : Int) < ((a.length : Nat) : Int)) = false := decide_eq_false (by omega)
      repeat (first
        | ((first | apply Wp.seqItemsR | apply Wp.itemsR); (· simp only [go_sem, reduceIte, Nat.reduceEqDiff, Nat.reduceAdd, bx, ax, if_true, if_false, Nat.reduceMul, Nat.reduceLeDiff, g1, prs_length]; exact rfl))
        | (refine WpItems.nil ⟨?_, ?_⟩; (· first | trivial | simp [pairsQ, pairsOk, apart, ent0]))
        | (apply Wp.cond_lit; (· simp only [go_sem, reduceIte, Nat.reduceEqDiff, Nat.reduceAdd, bx, ax, if_true, if_false, Nat.reduceMul, Nat.reduceLeDiff, g1, prs_length]; exact rfl); (· rfl))
        | refine Wp.skip ?_
        | refine Wp.label ?_
        | refine Wp.block ?_
        | refine Wp.exit ?_
        | refine Wp.seq ?_)
      refine Wp.ret ⟨trivial, _, rfl, ?_⟩
      simp only [go_sem, reduceIte, Nat.reduceEqDiff, Nat.reduceAdd, bx]
      have : a = b := by
        refine List.ext_getElem hab fun i h1 h2 => ?_
        have := hs i h1
        rwa [getD_el h1, getD_el h2] at this
      rw [decide_eq_true this]; exact VSub.refl _
  · have g0 : decide ((a.length : Int) = (b.length : Int)) = false := decide_eq_false (by omega)
    repeat (first
      | ((first | apply Wp.seqItemsR | apply Wp.itemsR); (· simp only [go_sem, reduceIte, Nat.reduceEqDiff, Nat.reduceAdd, bx, ax, if_true, if_false, Nat.reduceMul, Nat.reduceLeDiff, g0, prs_length]; exact rfl))
      | (refine WpItems.nil ⟨?_, ?_⟩; (· first | trivial | simp [pairsQ, pairsOk, apart, ent0]))
      | (apply Wp.cond_lit; (· simp only [go_sem, reduceIte, Nat.reduceEqDiff, Nat.reduceAdd, bx, ax, if_true, if_false, Nat.reduceMul, Nat.reduceLeDiff, g0, prs_length]; exact rfl); (· rfl))
      | refine Wp.skip ?_
      | refine Wp.label ?_
      | refine Wp.block ?_
      | refine Wp.exit ?_
      | refine Wp.seq ?_)
    refine Wp.ret ⟨trivial, _, rfl, ?_⟩
    simp only [go_sem, reduceIte, Nat.reduceEqDiff, Nat.reduceAdd, bx]
    rw [decide_eq_false (fun e => hab (by rw [e]))]; exact VSub.refl _
end Go.Proofs.Ytpehfflehebmbaa.Space
end
section
set_option linter.unusedSimpArgs false
set_option linter.unusedVariables false
set_option maxRecDepth 10000
namespace Go.Proofs.Ytpehfflehebmbaa.Space
open Go Go.Av Go.Proofs Go.Proofs.Ytpehfflehebmbaa.C Go.Proofs.Ytpehfflehebmbaa.Batch
theorem dup_iff {l : List Ch} {j : Nat} {q : Bs} (hj : j ≤ l.length) : q ∈ (l.take j).map (·.k) ↔ ∃ i, i < j ∧ (l.getD i default).k = q := by
  constructor
  · intro h
    obtain ⟨c, hc, e⟩ := List.mem_map.1 h
    obtain ⟨i, hi, rfl⟩ := List.mem_iff_getElem.1 hc
    rw [List.length_take] at hi
    refine ⟨i, by omega, ?_⟩
    rw [getD_el (by omega)]
    rw [List.getElem_take] at e; exact e
  · rintro ⟨i, hi, e⟩
    refine List.mem_map.2 ⟨l.getD i default, ?_, e⟩
    rw [getD_el (by omega)]
    exact List.mem_iff_getElem.2 ⟨i, by rw [List.length_take]; omega, by rw [List.getElem_take]⟩
set_option maxHeartbeats 2000000 in
theorem mayC_p (l : List Ch) (hl : l.length ≤ 1000000) : PCalls Try.prog 116 [.sl 3 (chs l) .any] (.bool (fitB l)) := by
  refine f116.pcalls0 (by simp) (by simp [allPure, isPure, capPure, chs_pure]) rfl ?_
  unfold c116
  repeat (first
    | ((first | apply Wp.seqItemsR | apply Wp.itemsR); (· simp only [go_sem, reduceIte, Nat.reduceEqDiff, Nat.reduceAdd, bx, ax, if_true, if_false, Nat.reduceMul, Nat.reduceLeDiff, chs_length]; exact rfl))
    | (refine WpItems.nil ⟨?_, ?_⟩; (· first | trivial | simp [pairsQ, pairsOk, apart, ent0]))
    | (apply Wp.cond_lit; (· simp only [go_sem, reduceIte, Nat.reduceEqDiff, Nat.reduceAdd, bx, ax, if_true, if_false, Nat.reduceMul, Nat.reduceLeDiff, chs_length]; exact rfl); (· rfl))
    | refine Wp.skip ?_
    | refine Wp.label ?_
    | refine Wp.block ?_
    | refine Wp.exit ?_
    | refine Wp.seq ?_)
  refine Wp.loopK [0] (by simp only [go_sem, reduceIte, Nat.reduceEqDiff, Nat.reduceAdd, bx, List.map]; exact rfl) (fun j : Nat => [(3, .int .i64 (j : Nat))]) (fun j => j ≤ l.length ∧ ∀ i, i < j → fitAt l i = true) (fun j => l.length - j) 0 ⟨Nat.zero_le _, fun i h => absurd h (by omega)⟩ ?_ ?_
  · simp only [AllSub, go_sem, reduceIte, Nat.reduceEqDiff, Nat.reduceAdd, bx]; and_intros <;> first | exact trivial | exact VSub.refl _ | exact VSub.any _ | (refine VSub.int ?_; omega)
  rintro j ⟨hj, hs⟩
  by_cases hcj : j < l.length
  · have g1 : decide (((j : Nat) : Int) < ((l.length : Nat) : Int)) = true := decide_eq_true (by omega)
    have h2 : (0 : Int) ≤ ((j : Nat) : Int) := by omega
    have h3 : ((j : Nat) : Int) < ((l.length : Nat) : Int) := by omega
    have e1 : IntKind.i64.wrap (((j : Nat) : Int) + 1) = ((j + 1 : Nat) : Int) := by rw [IntWalk.i64_in _ (by omega)]; omega
    have hat := chs_getD l j .any hcj
    have no : fitAt l j = false → fitB l = false := fun h => by rw [fitB, all_no hcj h]
    have def0 : fitAt l j = (!decide ((l.getD j default).k ∈ (l.take j).map (·.k)) && decide (((l.getD j default).k.length : Int) ≤ 128) && decide (((l.getD j default).v.length : Int) ≤ 200) && (!(l.getD j default).d || decide ((l.getD j default).v = []))) := rfl
    have hdup := dup_iff (q := (l.getD j default).k) hj
    by_cases q1 : 128 < ((l.getD j default).k.length : Int)
    · have d1 := decide_eq_true q1
      have hf : fitB l = false := no (by rw [def0, decide_eq_false (show ¬ ((l.getD j default).k.length : Int) ≤ 128 by omega)]; simp)
      generalize l.getD j default = x at *
      repeat (first
        | ((first | apply Wp.seqItemsR | apply Wp.itemsR); (· simp only [go_sem, reduceIte, Nat.reduceEqDiff, Nat.reduceAdd, bx, ax, if_true, if_false, Nat.reduceMul, Nat.reduceLeDiff, g1, h2, h3, hat, encCh, chs_length, d1]; exact rfl))
        | (refine WpItems.nil ⟨?_, ?_⟩; (· first | trivial | simp [pairsQ, pairsOk, apart, ent0]))
        | (apply Wp.cond_lit; (· simp only [go_sem, reduceIte, Nat.reduceEqDiff, Nat.reduceAdd, bx, ax, if_true, if_false, Nat.reduceMul, Nat.reduceLeDiff, g1, h2, h3, hat, encCh, chs_length, d1]; exact rfl); (· rfl))
        | refine Wp.skip ?_
        | refine Wp.label ?_
        | refine Wp.block ?_
        | refine Wp.exit ?_
        | refine Wp.seq ?_)
      refine Wp.ret ⟨trivial, _, rfl, ?_⟩
      simp only [go_sem, reduceIte, Nat.reduceEqDiff, Nat.reduceAdd, bx]
      rw [hf]; exact VSub.refl _
    have d1 := decide_eq_false q1
    by_cases q2 : 200 < ((l.getD j default).v.length : Int)
    · have d2 := decide_eq_true q2
      have hf : fitB l = false := no (by rw [def0, decide_eq_false (show ¬ ((l.getD j default).v.length : Int) ≤ 200 by omega)]; simp)
      generalize l.getD j default = x at *
      repeat (first
        | ((first | apply Wp.seqItemsR | apply Wp.itemsR); (· simp only [go_sem, reduceIte, Nat.reduceEqDiff, Nat.reduceAdd, bx, ax, if_true, if_false, Nat.reduceMul, Nat.reduceLeDiff, g1, h2, h3, hat, encCh, chs_length, d1, d2]; exact rfl))
        | (refine WpItems.nil ⟨?_, ?_⟩; (· first | trivial | simp [pairsQ, pairsOk, apart, ent0]))
        | (apply Wp.cond_lit; (· simp only [go_sem, reduceIte, Nat.reduceEqDiff, Nat.reduceAdd, bx, ax, if_true, if_false, Nat.reduceMul, Nat.reduceLeDiff, g1, h2, h3, hat, encCh, chs_length, d1, d2]; exact rfl); (· rfl))
        | refine Wp.skip ?_
        | refine Wp.label ?_
        | refine Wp.block ?_
        | refine Wp.exit ?_
        | refine Wp.seq ?_)
      refine Wp.ret ⟨trivial, _, rfl, ?_⟩
      simp only [go_sem, reduceIte, Nat.reduceEqDiff, Nat.reduceAdd, bx]
      rw [hf]; exact VSub.refl _
    have d2 := decide_eq_false q2
    by_cases q3 : (l.getD j default).d = true ∧ (l.getD j default).v ≠ []
    · have hd := q3.1
      have d4 := decide_eq_false q3.2
      have hf : fitB l = false := no (by rw [def0, hd, d4]; simp)
      generalize l.getD j default = x at *
      repeat (first
        | ((first | apply Wp.seqItemsR | apply Wp.itemsR); (· simp only [go_sem, reduceIte, Nat.reduceEqDiff, Nat.reduceAdd, bx, ax, if_true, if_false, Nat.reduceMul, Nat.reduceLeDiff, g1, h2, h3, hat, encCh, chs_length, d1, d2, hd, d4]; exact rfl))
        | (refine WpItems.nil ⟨?_, ?_⟩; (· first | trivial | simp [pairsQ, pairsOk, apart, ent0]))
        | (apply Wp.cond_lit; (· simp only [go_sem, reduceIte, Nat.reduceEqDiff, Nat.reduceAdd, bx, ax, if_true, if_false, Nat.reduceMul, Nat.reduceLeDiff, g1, h2, h3, hat, encCh, chs_length, d1, d2, hd, d4]; exact rfl); (· rfl))
        | refine Wp.skip ?_
        | refine Wp.label ?_
        | refine Wp.block ?_
        | refine Wp.exit ?_
        | refine Wp.seq ?_)
      refine Wp.ret ⟨trivial, _, rfl, ?_⟩
      simp only [go_sem, reduceIte, Nat.reduceEqDiff, Nat.reduceAdd, bx]
      rw [hf]; exact VSub.refl _
    have q6 : (l.getD j default).d = false ∨ ((l.getD j default).d = true ∧ (l.getD j default).v = []) := by
      cases hd : (l.getD j default).d with
      | false => exact .inl rfl
      | true => exact .inr ⟨rfl, Classical.byContradiction fun e => q3 ⟨hd, e⟩⟩
    rcases q6 with hd | ⟨hd, q4⟩
    · repeat (first
        | ((first | apply Wp.seqItemsR | apply Wp.itemsR); (· simp only [go_sem, reduceIte, Nat.reduceEqDiff, Nat.reduceAdd, bx, ax, if_true, if_false, Nat.reduceMul, Nat.reduceLeDiff, g1, h2, h3, hat, encCh, chs_length, d1, d2, hd]; exact rfl))
        | (refine WpItems.nil ⟨?_, ?_⟩; (· first | trivial | simp [pairsQ, pairsOk, apart, ent0]))
        | (apply Wp.cond_lit; (· simp only [go_sem, reduceIte, Nat.reduceEqDiff, Nat.reduceAdd, bx, ax, if_true, if_false, Nat.reduceMul, Nat.reduceLeDiff, g1, h2, h3, hat, encCh, chs_length, d1, d2, hd]; exact rfl); (· rfl))
        | refine Wp.skip ?_
        | refine Wp.label ?_
        | refine Wp.block ?_
        | refine Wp.exit ?_
        | refine Wp.seq ?_)
      refine Wp.loopK [0, 3] (by simp only [go_sem, reduceIte, Nat.reduceEqDiff, Nat.reduceAdd, bx, List.map]; exact rfl) (fun i : Nat => [(4, .int .i64 (i : Nat))]) (fun i => i ≤ j ∧ ∀ i', i' < i → (l.getD i' default).k ≠ (l.getD j default).k) (fun i => j - i) 0 ⟨Nat.zero_le _, fun i h => absurd h (by omega)⟩ ?_ ?_
      · simp only [AllSub, go_sem, reduceIte, Nat.reduceEqDiff, Nat.reduceAdd, bx]; and_intros <;> first | exact trivial | exact VSub.refl _ | exact VSub.any _ | (refine VSub.int ?_; omega)
      rintro i ⟨hi, hn⟩
      by_cases hi2 : i < j
      · have k1 : decide ((i : Int) < (j : Int)) = true := decide_eq_true (by omega)
        have k2 : (0 : Int) ≤ (i : Int) := by omega
        have k3 : (i : Int) < (l.length : Int) := by omega
        have k4 : IntKind.i64.wrap ((i : Int) + 1) = ((i + 1 : Nat) : Int) := by rw [IntWalk.i64_in _ (by omega)]; omega
        have hat2 := chs_getD l i .any (by omega)
        by_cases q5 : (l.getD i default).k = (l.getD j default).k
        · have d5 := decide_eq_true q5
          have hf : fitB l = false := no (by rw [def0, decide_eq_true (hdup.2 ⟨i, hi2, q5⟩)]; rfl)
          repeat (first
            | ((first | apply Wp.seqItemsR | apply Wp.itemsR); (· simp only [go_sem, reduceIte, Nat.reduceEqDiff, Nat.reduceAdd, bx, ax, if_true, if_false, Nat.reduceMul, Nat.reduceLeDiff, k1, k2, k3, h2, h3, hat, hat2, encCh, chs_length, d5]; exact rfl))
            | (refine WpItems.nil ⟨?_, ?_⟩; (· first | trivial | simp [pairsQ, pairsOk, apart, ent0]))
            | (apply Wp.cond_lit; (· simp only [go_sem, reduceIte, Nat.reduceEqDiff, Nat.reduceAdd, bx, ax, if_true, if_false, Nat.reduceMul, Nat.reduceLeDiff, k1, k2, k3, h2, h3, hat, hat2, encCh, chs_length, d5]; exact rfl); (· rfl))
            | refine Wp.skip ?_
            | refine Wp.label ?_
            | refine Wp.block ?_
            | refine Wp.exit ?_
            | refine Wp.seq ?_)
          refine Wp.ret ⟨trivial, _, rfl, ?_⟩
          simp only [go_sem, reduceIte, Nat.reduceEqDiff, Nat.reduceAdd, bx]
          rw [hf]; exact VSub.refl _
        · have d5 := decide_eq_false q5
          have hn2 : ∀ i', i' < i + 1 → (l.getD i' default).k ≠ (l.getD j default).k := fun i' hi' => by
            by_cases e : i' = i
            · rw [e]; exact q5
            · exact hn i' (by omega)
          repeat (first
            | ((first | apply Wp.seqItemsR | apply Wp.itemsR); (· simp only [go_sem, reduceIte, Nat.reduceEqDiff, Nat.reduceAdd, bx, ax, if_true, if_false, Nat.reduceMul, Nat.reduceLeDiff, k1, k2, k3, h2, h3, hat, hat2, encCh, chs_length, d5, k4]; exact rfl))
            | (refine WpItems.nil ⟨?_, ?_⟩; (· first | trivial | simp [pairsQ, pairsOk, apart, ent0]))
            | (apply Wp.cond_lit; (· simp only [go_sem, reduceIte, Nat.reduceEqDiff, Nat.reduceAdd, bx, ax, if_true, if_false, Nat.reduceMul, Nat.reduceLeDiff, k1, k2, k3, h2, h3, hat, hat2, encCh, chs_length, d5, k4]; exact rfl); (· rfl))
            | refine Wp.skip ?_
            | refine Wp.label ?_
            | refine Wp.block ?_
            | refine Wp.exit ?_
            | refine Wp.seq ?_)
          refine ⟨i + 1, ⟨by omega, hn2⟩, by omega, ?_⟩
          refine StLe.tm (by simp only [AllSub, go_sem, reduceIte, Nat.reduceEqDiff, Nat.reduceAdd, bx]; and_intros <;> first | exact trivial | exact VSub.refl _ | exact VSub.any _ | (refine VSub.int ?_; omega))
      · have hij : i = j := by omega
        subst hij
        have k1 : decide ((i : Int) < (i : Int)) = false := decide_eq_false (by omega)
        have hyes : fitAt l i = true := by
          rw [def0, decide_eq_false (fun h => by obtain ⟨i', h1', h2'⟩ := hdup.1 h; exact hn i' h1' h2'), decide_eq_true (show ((l.getD i default).k.length : Int) ≤ 128 by omega), decide_eq_true (show ((l.getD i default).v.length : Int) ≤ 200 by omega)]
          rw [hd]; rfl
        repeat (first
          | ((first | apply Wp.seqItemsR | apply Wp.itemsR); (· simp only [go_sem, reduceIte, Nat.reduceEqDiff, Nat.reduceAdd, bx, ax, if_true, if_false, Nat.reduceMul, Nat.reduceLeDiff, k1, e1]; exact rfl))
          | (refine WpItems.nil ⟨?_, ?_⟩; (· first | trivial | simp [pairsQ, pairsOk, apart, ent0]))
          | (apply Wp.cond_lit; (· simp only [go_sem, reduceIte, Nat.reduceEqDiff, Nat.reduceAdd, bx, ax, if_true, if_false, Nat.reduceMul, Nat.reduceLeDiff, k1, e1]; exact rfl); (· rfl))
          | refine Wp.skip ?_
          | refine Wp.label ?_
          | refine Wp.block ?_
          | refine Wp.exit ?_
          | refine Wp.seq ?_)
        refine ⟨i + 1, ⟨by omega, all_step hs hyes⟩, by omega, ?_⟩
        refine StLe.tm (by simp only [AllSub, go_sem, reduceIte, Nat.reduceEqDiff, Nat.reduceAdd, bx]; and_intros <;> first | exact trivial | exact VSub.refl _ | exact VSub.any _ | (refine VSub.int ?_; omega))
    · have d4 := decide_eq_true q4
      repeat (first
        | ((first | apply Wp.seqItemsR | apply Wp.itemsR); (· simp only [go_sem, reduceIte, Nat.reduceEqDiff, Nat.reduceAdd, bx, ax, if_true, if_false, Nat.reduceMul, Nat.reduceLeDiff, g1, h2, h3, hat, encCh, chs_length, d1, d2, hd, d4]; exact rfl))
        | (refine WpItems.nil ⟨?_, ?_⟩; (· first | trivial | simp [pairsQ, pairsOk, apart, ent0]))
        | (apply Wp.cond_lit; (· simp only [go_sem, reduceIte, Nat.reduceEqDiff, Nat.reduceAdd, bx, ax, if_true, if_false, Nat.reduceMul, Nat.reduceLeDiff, g1, h2, h3, hat, encCh, chs_length, d1, d2, hd, d4]; exact rfl); (· rfl))
        | refine Wp.skip ?_
        | refine Wp.label ?_
        | refine Wp.block ?_
        | refine Wp.exit ?_
        | refine Wp.seq ?_)
      refine Wp.loopK [0, 3] (by simp only [go_sem, reduceIte, Nat.reduceEqDiff, Nat.reduceAdd, bx, List.map]; exact rfl) (fun i : Nat => [(4, .int .i64 (i : Nat))]) (fun i => i ≤ j ∧ ∀ i', i' < i → (l.getD i' default).k ≠ (l.getD j default).k) (fun i => j - i) 0 ⟨Nat.zero_le _, fun i h => absurd h (by omega)⟩ ?_ ?_
      · simp only [AllSub, go_sem, reduceIte, Nat.reduceEqDiff, Nat.reduceAdd, bx]; and_intros <;> first | exact trivial | exact VSub.refl _ | exact VSub.any _ | (refine VSub.int ?_; omega)
      rintro i ⟨hi, hn⟩
      by_cases hi2 : i < j
      · have k1 : decide ((i : Int) < (j : Int)) = true := decide_eq_true (by omega)
        have k2 : (0 : Int) ≤ (i : Int) := by omega
        have k3 : (i : Int) < (l.length : Int) := by omega
        have k4 : IntKind.i64.wrap ((i : Int) + 1) = ((i + 1 : Nat) : Int) := by rw [IntWalk.i64_in _ (by omega)]; omega
        have hat2 := chs_getD l i .any (by omega)
        by_cases q5 : (l.getD i default).k = (l.getD j default).k
        · have d5 := decide_eq_true q5
          have hf : fitB l = false := no (by rw [def0, decide_eq_true (hdup.2 ⟨i, hi2, q5⟩)]; rfl)
          repeat (first
            | ((first | apply Wp.seqItemsR | apply Wp.itemsR); (· simp only [go_sem, reduceIte, Nat.reduceEqDiff, Nat.reduceAdd, bx, ax, if_true, if_false, Nat.reduceMul, Nat.reduceLeDiff, k1, k2, k3, h2, h3, hat, hat2, encCh, chs_length, d5]; exact rfl))
            | (refine WpItems.nil ⟨?_, ?_⟩; (· first | trivial | simp [pairsQ, pairsOk, apart, ent0]))
            | (apply Wp.cond_lit; (· simp only [go_sem, reduceIte, Nat.reduceEqDiff, Nat.reduceAdd, bx, ax, if_true, if_false, Nat.reduceMul, Nat.reduceLeDiff, k1, k2, k3, h2, h3, hat, hat2, encCh, chs_length, d5]; exact rfl); (· rfl))
            | refine Wp.skip ?_
            | refine Wp.label ?_
            | refine Wp.block ?_
            | refine Wp.exit ?_
            | refine Wp.seq ?_)
          refine Wp.ret ⟨trivial, _, rfl, ?_⟩
          simp only [go_sem, reduceIte, Nat.reduceEqDiff, Nat.reduceAdd, bx]
          rw [hf]; exact VSub.refl _
        · have d5 := decide_eq_false q5
          have hn2 : ∀ i', i' < i + 1 → (l.getD i' default).k ≠ (l.getD j default).k := fun i' hi' => by
            by_cases e : i' = i
            · rw [e]; exact q5
            · exact hn i' (by omega)
          repeat (first
            | ((first | apply Wp.seqItemsR | apply Wp.itemsR); (· simp only [go_sem, reduceIte, Nat.reduceEqDiff, Nat.reduceAdd, bx, ax, if_true, if_false, Nat.reduceMul, Nat.reduceLeDiff, k1, k2, k3, h2, h3, hat, hat2, encCh, chs_length, d5, k4]; exact rfl))
            | (refine WpItems.nil ⟨?_, ?_⟩; (· first | trivial | simp [pairsQ, pairsOk, apart, ent0]))
            | (apply Wp.cond_lit; (· simp only [go_sem, reduceIte, Nat.reduceEqDiff, Nat.reduceAdd, bx, ax, if_true, if_false, Nat.reduceMul, Nat.reduceLeDiff, k1, k2, k3, h2, h3, hat, hat2, encCh, chs_length, d5, k4]; exact rfl); (· rfl))
            | refine Wp.skip ?_
            | refine Wp.label ?_
            | refine Wp.block ?_
            | refine Wp.exit ?_
            | refine Wp.seq ?_)
          refine ⟨i + 1, ⟨by omega, hn2⟩, by omega, ?_⟩
          refine StLe.tm (by simp only [AllSub, go_sem, reduceIte, Nat.reduceEqDiff, Nat.reduceAdd, bx]; and_intros <;> first | exact trivial | exact VSub.refl _ | exact VSub.any _ | (refine VSub.int ?_; omega))
      · have hij : i = j := by omega
        subst hij
        have k1 : decide ((i : Int) < (i : Int)) = false := decide_eq_false (by omega)
        have hyes : fitAt l i = true := by
          rw [def0, decide_eq_false (fun h => by obtain ⟨i', h1', h2'⟩ := hdup.1 h; exact hn i' h1' h2'), decide_eq_true (show ((l.getD i default).k.length : Int) ≤ 128 by omega), decide_eq_true (show ((l.getD i default).v.length : Int) ≤ 200 by omega)]
          rw [hd, decide_eq_true q4]; rfl
        repeat (first
          | ((first | apply Wp.seqItemsR | apply Wp.itemsR); (· simp only [go_sem, reduceIte, Nat.reduceEqDiff, Nat.reduceAdd, bx, ax, if_true, if_false, Nat.reduceMul, Nat.reduceLeDiff, k1, e1]; exact rfl))
          | (refine WpItems.nil ⟨?_, ?_⟩; (· first | trivial | simp [pairsQ, pairsOk, apart, ent0]))
          | (apply Wp.cond_lit; (· simp only [go_sem, reduceIte, Nat.reduceEqDiff, Nat.reduceAdd, bx, ax, if_true, if_false, Nat.reduceMul, Nat.reduceLeDiff, k1, e1]; exact rfl); (· rfl))
          | refine Wp.skip ?_
          | refine Wp.label ?_
          | refine Wp.block ?_
          | refine Wp.exit ?_
          | refine Wp.seq ?_)
        refine ⟨i + 1, ⟨by omega, all_step hs hyes⟩, by omega, ?_⟩
        refine StLe.tm (by simp only [AllSub, go_sem, reduceIte, Nat.reduceEqDiff, Nat.reduceAdd, bx]; and_intros <;> first | exact trivial | exact VSub.refl _ | exact VSub.any _ | (refine VSub.int ?_; omega))
  · have hje : j = l.length := by omega
    subst hje
    have g1 : decide (((l.length : Nat) : Int) < ((l.length : Nat) : Int)) = false := decide_eq_false (by omega)
    repeat (first
      | ((first | apply Wp.seqItemsR | apply Wp.itemsR); (· simp only [go_sem, reduceIte, Nat.reduceEqDiff, Nat.reduceAdd, bx, ax, if_true, if_false, Nat.reduceMul, Nat.reduceLeDiff, g1, chs_length]; exact rfl))
      | (refine WpItems.nil ⟨?_, ?_⟩; (· first | trivial | simp [pairsQ, pairsOk, apart, ent0]))
      | (apply Wp.cond_lit; (· simp only [go_sem, reduceIte, Nat.reduceEqDiff, Nat.reduceAdd, bx, ax, if_true, if_false, Nat.reduceMul, Nat.reduceLeDiff, g1, chs_length]; exact rfl); (· rfl))
      | refine Wp.skip ?_
      | refine Wp.label ?_
      | refine Wp.block ?_
      | refine Wp.exit ?_
      | refine Wp.seq ?_)
    refine Wp.ret ⟨trivial, _, rfl, ?_⟩
    simp only [go_sem, reduceIte, Nat.reduceEqDiff, Nat.reduceAdd, bx]
    rw [fitB, all_yes hs]
    exact VSub.refl _
end Go.Proofs.Ytpehfflehebmbaa.Space
end
section
set_option linter.unusedSimpArgs false
set_option linter.unusedVariables false
set_option maxRecDepth 10000
namespace Go.Proofs.Ytpehfflehebmbaa.Space
open Go Go.Av Go.Proofs Go.Proofs.Ytpehfflehebmbaa.C Go.Proofs.Ytpehfflehebmbaa.Batch
theorem small_at {S : Spc} (hr : RiseL S.L) (hS : Small S) {j : Nat} (hj : j < S.L.length) : (S.L.getD j default).2.length ≤ 500000 := by
  have := hS.2 (S.L.getD j default).1
  rwa [mget_mem hr (by rw [getD_el hj]; exact List.getElem_mem hj)] at this
def tellW (a b : Bs) (t : Int) (p : It) : Option Pr := if inB p.1 a b = true then tellP t p else none
theorem filter_tell (a b : Bs) (t : Int) : ∀ L : List It, (L.filter fun p => inB p.1 a b).filterMap (tellP t) = L.filterMap (tellW a b t)
  | [] => rfl
  | p :: L => by
    have ih := filter_tell a b t L
    by_cases h : inB p.1 a b = true
    · rw [List.filter_cons, if_pos h, List.filterMap_cons, List.filterMap_cons, ih, tellW, if_pos h]
    · rw [List.filter_cons, if_neg h, List.filterMap_cons, ih, tellW, if_neg h]
theorem fmap_snoc {α β : Type} [Inhabited α] (f : α → Option β) {l : List α} {j : Nat} (h : j < l.length) : (l.take (j + 1)).filterMap f = (l.take j).filterMap f ++ (f (l.getD j default)).toList := by
  rw [take_snoc default h, List.filterMap_append]
  congr 1
end Go.Proofs.Ytpehfflehebmbaa.Space
end
section
set_option linter.unusedSimpArgs false
set_option linter.unusedVariables false
set_option maxRecDepth 10000
namespace Go.Proofs.Ytpehfflehebmbaa.Space
open Go Go.Av Go.Proofs Go.Proofs.Ytpehfflehebmbaa.C Go.Proofs.Ytpehfflehebmbaa.Batch
def vacW (mark : Int) (p : It) : Option It := if vacB p.2 mark = [] then none else some (p.1, vacB p.2 mark)
set_option maxHeartbeats 1000000 in
theorem vacRR_p (S : Spc) (hr : RiseL S.L) (hS : Small S) (mark : Int) : PCalls Try.prog 72 [encS S, .int .i64 mark] (.tup [encS (vacuumB S mark).1, .int .i64 (vacuumB S mark).2]) := by
  refine f72.pcalls0 (by simp) (by simp [allPure, isPure, encS_pure]) (by simp [isPure, allPure, encS_pure]) ?_
  unfold c72
  have hil : (S.L.map encI).length = S.L.length := by simp
  have hS1 := hS.1
  by_cases p1 : mark < S.mark
  · have d1 := decide_eq_true p1
    have hres : vacuumB S mark = (S, 2) := by rw [vacuumB, if_pos (.inl p1)]
    rw [hres]
    repeat (first
      | ((first | apply Wp.seqItemsR | apply Wp.itemsR); (· simp only [go_sem, reduceIte, Nat.reduceEqDiff, Nat.reduceAdd, bx, ax, if_true, if_false, Nat.reduceMul, Nat.reduceLeDiff, encS, d1]; exact rfl))
      | (refine WpItems.nil ⟨?_, ?_⟩; (· first | trivial | simp [pairsQ, pairsOk, apart, ent0]))
      | (apply Wp.cond_lit; (· simp only [go_sem, reduceIte, Nat.reduceEqDiff, Nat.reduceAdd, bx, ax, if_true, if_false, Nat.reduceMul, Nat.reduceLeDiff, encS, d1]; exact rfl); (· rfl))
      | refine Wp.skip ?_
      | refine Wp.label ?_
      | refine Wp.block ?_
      | refine Wp.exit ?_
      | refine Wp.seq ?_)
    refine Wp.ret ⟨trivial, _, rfl, ?_⟩
    simp only [go_sem, reduceIte, Nat.reduceEqDiff, Nat.reduceAdd, bx]
    exact VSub.refl _
  have d1 := decide_eq_false p1
  by_cases p2 : S.last < mark
  · have d2 := decide_eq_true p2
    have hres : vacuumB S mark = (S, 2) := by rw [vacuumB, if_pos (.inr p2)]
    rw [hres]
    repeat (first
      | ((first | apply Wp.seqItemsR | apply Wp.itemsR); (· simp only [go_sem, reduceIte, Nat.reduceEqDiff, Nat.reduceAdd, bx, ax, if_true, if_false, Nat.reduceMul, Nat.reduceLeDiff, encS, d1, d2]; exact rfl))
      | (refine WpItems.nil ⟨?_, ?_⟩; (· first | trivial | simp [pairsQ, pairsOk, apart, ent0]))
      | (apply Wp.cond_lit; (· simp only [go_sem, reduceIte, Nat.reduceEqDiff, Nat.reduceAdd, bx, ax, if_true, if_false, Nat.reduceMul, Nat.reduceLeDiff, encS, d1, d2]; exact rfl); (· rfl))
      | refine Wp.skip ?_
      | refine Wp.label ?_
      | refine Wp.block ?_
      | refine Wp.exit ?_
      | refine Wp.seq ?_)
    refine Wp.ret ⟨trivial, _, rfl, ?_⟩
    simp only [go_sem, reduceIte, Nat.reduceEqDiff, Nat.reduceAdd, bx]
    exact VSub.refl _
  have d2 := decide_eq_false p2
  have hres : vacuumB S mark = (⟨S.L.filterMap (vacW mark), S.last, mark⟩, 0) := by
    rw [vacuumB, if_neg (by omega), vacS_eq hr]; rfl
  rw [hres]
  repeat (first
    | ((first | apply Wp.seqItemsR | apply Wp.itemsR); (· simp only [go_sem, reduceIte, Nat.reduceEqDiff, Nat.reduceAdd, bx, ax, if_true, if_false, Nat.reduceMul, Nat.reduceLeDiff, encS, d1, d2]; exact rfl))
    | (refine WpItems.nil ⟨?_, ?_⟩; (· first | trivial | simp [pairsQ, pairsOk, apart, ent0]))
    | (apply Wp.cond_lit; (· simp only [go_sem, reduceIte, Nat.reduceEqDiff, Nat.reduceAdd, bx, ax, if_true, if_false, Nat.reduceMul, Nat.reduceLeDiff, encS, d1, d2]; exact rfl); (· rfl))
    | refine Wp.skip ?_
    | refine Wp.label ?_
    | refine Wp.block ?_
    | refine Wp.exit ?_
    | refine Wp.seq ?_)
  refine Wp.le (StLe.tok _ _) ?_
  refine Wp.loopTok [1, 2, 4, 5] (by simp only [go_sem, reduceIte, Nat.reduceEqDiff, List.map]; exact rfl) (fun (j : Nat) tk => [(6, .sl 2 (((S.L.take j).filterMap (vacW mark)).map encI) (.own tk)), (7, .int .i64 (j : Nat))]) (fun j => j ≤ S.L.length) (fun j => S.L.length - j) 0 _ (Nat.zero_le _) rfl ?_ ?_
  · simp only [AllSub, go_sem, reduceIte, Nat.reduceEqDiff, Nat.reduceAdd, bx, List.take_zero, List.filterMap_nil, List.map_nil]; and_intros <;> first | exact trivial | exact VSub.refl _ | exact VSub.any _ | exact VSub.own_of rfl | (refine VSub.int ?_; omega)
  rintro j tk m hj
  by_cases hj2 : j < S.L.length
  · have g1 : decide (((j : Nat) : Int) < ((S.L.length : Nat) : Int)) = true := decide_eq_true (by omega)
    have h2 : (0 : Int) ≤ ((j : Nat) : Int) := by omega
    have h3 : ((j : Nat) : Int) < ((S.L.length : Nat) : Int) := by omega
    have e1 : IntKind.i64.wrap (((j : Nat) : Int) + 1) = ((j + 1 : Nat) : Int) := by rw [IntWalk.i64_in _ (by omega)]; omega
    have hat := enc_at encI S.L j .any hj2
    have hva := vacuumR_p (S.L.getD j default).2 (by have := small_at hr hS hj2; omega) mark
    have hsn := fmap_snoc (vacW mark) hj2
    have hol : ((S.L.take j).filterMap (vacW mark)).length ≤ 500000 := by
      have h2 := List.length_filterMap_le (vacW mark) (S.L.take j)
      rw [List.length_take] at h2
      omega
    obtain ⟨g0, g0', g1', g1''⟩ := rooms40 (show ((S.L.take j).filterMap (vacW mark)).length ≤ 2000000 by omega)
    have hvw : vacW mark (S.L.getD j default) = if vacB (S.L.getD j default).2 mark = [] then none else some ((S.L.getD j default).1, vacB (S.L.getD j default).2 mark) := rfl
    generalize hnx : (S.L.take (j + 1)).filterMap (vacW mark) = nx at *
    generalize (S.L.take j).filterMap (vacW mark) = o at *
    generalize S.L.getD j default = x at *
    have hsq := encI_snoc o x.1 (vacB x.2 mark)
    generalize vacB x.2 mark = v at *
    by_cases hv : v = []
    · rw [hvw, if_pos hv] at hsn
      have z : decide ((0 : Int) < (v.length : Int)) = false := by rw [hv]; rfl
      repeat (first
        | ((first | apply Wp.seqItemsR | apply Wp.itemsR | ((first
            | (refine WpItems.pcall ?_ ?_ (hva) ?_; (· simp only [go_sem, reduceIte, Nat.reduceEqDiff, Nat.reduceAdd, bx]); (· simp only [go_sem, reduceIte, Nat.reduceEqDiff, Nat.reduceAdd, bx, List.map]; first | exact VSubs.refl _ | (repeat (first | exact VSubs.nil | refine VSubs.cons (by first | exact VSub.refl _ | assumption | exact VSub.cap | exact VSub.any _) ?_))))); apply WpItems.evR)); (· simp only [go_sem, reduceIte, Nat.reduceEqDiff, Nat.reduceAdd, bx, ax, if_true, if_false, Nat.reduceMul, Nat.reduceLeDiff, g1, h2, h3, e1, hat, hil, encI, vAV, List.length_map, z]; exact rfl))
        | (refine WpItems.nil ⟨?_, ?_⟩; (· first | trivial | simp [pairsQ, pairsOk, apart, ent0]))
        | (apply Wp.cond_lit; (· simp only [go_sem, reduceIte, Nat.reduceEqDiff, Nat.reduceAdd, bx, ax, if_true, if_false, Nat.reduceMul, Nat.reduceLeDiff, g1, h2, h3, e1, hat, hil, encI, vAV, List.length_map, z]; exact rfl); (· rfl))
        | refine Wp.skip ?_
        | refine Wp.label ?_
        | refine Wp.block ?_
        | refine Wp.exit ?_
        | refine Wp.seq ?_)
      refine ⟨j + 1, tk, m, by omega, by omega, ?_⟩
      rw [hnx, hsn]
      refine StLe.tm (by simp only [AllSub, go_sem, reduceIte, Nat.reduceEqDiff, Nat.reduceAdd, bx, Option.toList, List.append_nil]; and_intros <;> first | exact trivial | exact VSub.refl _ | exact VSub.any _ | (refine VSub.int ?_; omega))
    · rw [hvw, if_neg hv] at hsn
      have z : decide ((0 : Int) < (v.length : Int)) = true := by
        refine decide_eq_true ?_
        have := List.length_pos_iff.2 hv
        omega
      repeat (first
        | ((first | apply Wp.seqItemsR | apply Wp.itemsR | ((first
            | (refine WpItems.pcall ?_ ?_ (hva) ?_; (· simp only [go_sem, reduceIte, Nat.reduceEqDiff, Nat.reduceAdd, bx]); (· simp only [go_sem, reduceIte, Nat.reduceEqDiff, Nat.reduceAdd, bx, List.map]; first | exact VSubs.refl _ | (repeat (first | exact VSubs.nil | refine VSubs.cons (by first | exact VSub.refl _ | assumption | exact VSub.cap | exact VSub.any _) ?_))))); apply WpItems.evR)); (· simp only [go_sem, reduceIte, Nat.reduceEqDiff, Nat.reduceAdd, bx, ax, if_true, if_false, Nat.reduceMul, Nat.reduceLeDiff, g1, h2, h3, e1, hat, hil, encI, vAV, List.length_map, z, g0, g0']; exact rfl))
        | (refine WpItems.nil ⟨?_, ?_⟩; (· first | trivial | simp [pairsQ, pairsOk, apart, ent0]))
        | (apply Wp.cond_lit; (· simp only [go_sem, reduceIte, Nat.reduceEqDiff, Nat.reduceAdd, bx, ax, if_true, if_false, Nat.reduceMul, Nat.reduceLeDiff, g1, h2, h3, e1, hat, hil, encI, vAV, List.length_map, z, g0, g0']; exact rfl); (· rfl))
        | refine Wp.skip ?_
        | refine Wp.label ?_
        | refine Wp.block ?_
        | refine Wp.exit ?_
        | refine Wp.seq ?_)
      refine ⟨j + 1, m, m + 1, by omega, by omega, ?_⟩
      rw [hnx, hsn]
      refine StLe.tm (by simp only [AllSub, go_sem, reduceIte, Nat.reduceEqDiff, Nat.reduceAdd, bx, Option.toList]; and_intros <;> first | exact trivial | exact VSub.refl _ | exact VSub.any _ | exact VSub.of_eq (by rw [← hsq]) | (refine VSub.int ?_; omega))
  · have hje : j = S.L.length := by omega
    subst hje
    have g1 : decide (((S.L.length : Nat) : Int) < ((S.L.length : Nat) : Int)) = false := decide_eq_false (by omega)
    repeat (first
      | ((first | apply Wp.seqItemsR | apply Wp.itemsR); (· simp only [go_sem, reduceIte, Nat.reduceEqDiff, Nat.reduceAdd, bx, ax, if_true, if_false, Nat.reduceMul, Nat.reduceLeDiff, g1, hil]; exact rfl))
      | (refine WpItems.nil ⟨?_, ?_⟩; (· first | trivial | simp [pairsQ, pairsOk, apart, ent0]))
      | (apply Wp.cond_lit; (· simp only [go_sem, reduceIte, Nat.reduceEqDiff, Nat.reduceAdd, bx, ax, if_true, if_false, Nat.reduceMul, Nat.reduceLeDiff, g1, hil]; exact rfl); (· rfl))
      | refine Wp.skip ?_
      | refine Wp.label ?_
      | refine Wp.block ?_
      | refine Wp.exit ?_
      | refine Wp.seq ?_)
    refine Wp.ret ⟨trivial, _, rfl, ?_⟩
    simp only [go_sem, reduceIte, Nat.reduceEqDiff, Nat.reduceAdd, bx]
    rw [List.take_length]; exact VSub.tup (VSubs.cons (VSub.agg (VSubs.cons VSub.cap (VSubs.refl _))) (VSubs.refl _))
def upR (t : Int) (S : Spc) (A : List It) (c : Ch) : List It := setL A c.k (addB (mget S.L c.k) ⟨t, c.v, c.d⟩).1
theorem fit_at {l : List Ch} (h : fitB l = true) {j : Nat} (hj : j < l.length) : fitAt l j = true := List.all_eq_true.1 h j (List.mem_range.2 hj)
theorem fit_new {l : List Ch} (h : fitB l = true) {j : Nat} (hj : j < l.length) : (l.getD j default).k ∉ (l.take j).map (·.k) := by
  have := fit_at h hj
  simp only [fitAt, Bool.and_eq_true, Bool.not_eq_true', decide_eq_false_iff_not] at this
  exact this.1.1.1
theorem fit_len {l : List Ch} (h : fitB l = true) {j : Nat} (hj : j < l.length) : (l.getD j default).k.length ≤ 128 := by
  have := fit_at h hj
  simp only [fitAt, Bool.and_eq_true, decide_eq_true_eq] at this
  omega
theorem do_eq (t : Int) (S : Spc) (hr : RiseL S.L) (l : List Ch) (h : fitB l = true) : ∀ j, j ≤ l.length → RiseL ((l.take j).foldl (upR t S) S.L) ∧ (∀ q, q ∉ (l.take j).map (·.k) → mget ((l.take j).foldl (upR t S) S.L) q = mget S.L q) ∧ doS t S (l.take j) = { S with L := (l.take j).foldl (upR t S) S.L }
  | 0, _ => by simp [doS, hr]
  | j + 1, hj => by
    obtain ⟨h1, h2, h3⟩ := do_eq t S hr l h j (by omega)
    have e : (l.take (j + 1)).foldl (upR t S) S.L = upR t S ((l.take j).foldl (upR t S) S.L) (l.getD j default) := by
      rw [take_snoc default (show j < l.length by omega), List.foldl_append]; rfl
    have hn := fit_new h (show j < l.length by omega)
    rw [e]
    refine ⟨setL_rise h1 _ _, fun q hq => ?_, ?_⟩
    · rw [take_snoc default (show j < l.length by omega), List.map_append, List.mem_append, not_or] at hq
      rw [upR, setL_get h1, if_neg (fun e => hq.2 (by rw [List.map_cons, e]; exact List.mem_cons_self))]
      exact h2 q hq.1
    · rw [do_snoc t S l (show j < l.length by omega), h3, stepS, setS]
      simp only [upR, h2 _ hn]
theorem setL_mem {L : List It} {q : Bs} {v : List Ver} {x : It} (h : x ∈ setL L q v) : x = (q, v) ∨ x ∈ L := by
  unfold setL at h
  split at h <;> split at h
  · rcases List.mem_append.1 h with h | h
    · exact .inr (List.mem_of_mem_take h)
    · exact .inr (List.mem_of_mem_drop h)
  · exact .inr h
  · rcases List.mem_append.1 h with h | h
    · exact .inr (List.mem_of_mem_take h)
    · rcases List.mem_cons.1 h with h | h
      · exact .inl h
      · exact .inr (List.mem_of_mem_drop h)
  · rcases List.mem_append.1 h with h | h
    · exact .inr (List.mem_of_mem_take h)
    · rcases List.mem_cons.1 h with h | h
      · exact .inl h
      · exact .inr (List.mem_of_mem_drop h)
theorem setL_ls {L : List It} (lk : ∀ p ∈ L, Ls p.1) {q : Bs} (hq : Ls q) (v : List Ver) : ∀ p ∈ setL L q v, Ls p.1 := fun p hp => by
  rcases setL_mem hp with rfl | hp
  · exact hq
  · exact lk p hp
theorem up_len (t : Int) (S : Spc) : ∀ (l : List Ch) (A : List It), (l.foldl (upR t S) A).length ≤ A.length + l.length
  | [], A => by simp
  | c :: l, A => by
    have h1 := up_len t S l (upR t S A c)
    have h2 := setL_len A c.k (addB (mget S.L c.k) ⟨t, c.v, c.d⟩).1
    simp only [upR] at h1 h2
    simp only [List.foldl_cons, List.length_cons, upR]
    omega
set_option maxHeartbeats 2000000 in
theorem applyR_p (S : Spc) (hr : RiseL S.L) (hS : Small S) (lk : ∀ p ∈ S.L, Ls p.1) (t : Int) (l : List Ch) (hl : l.length ≤ 500000) : PCalls Try.prog 73 [encS S, .int .i64 t, .sl 3 (chs l) .any] (.tup [encS (applyB S t l).1, .int .i64 (applyB S t l).2]) := by
  refine f73.pcalls0 (by simp) (by simp [allPure, isPure, capPure, encS_pure, chs_pure]) (by simp [isPure, allPure, encS_pure]) ?_
  unfold c73
  have hS1 := hS.1
  by_cases p1 : t ≤ S.last
  · have d1 := decide_eq_true p1
    have hres : applyB S t l = (S, 18) := by rw [applyB, if_pos (.inl p1)]
    rw [hres]
    repeat (first
      | ((first | apply Wp.seqItemsR | apply Wp.itemsR); (· simp only [go_sem, reduceIte, Nat.reduceEqDiff, Nat.reduceAdd, bx, ax, if_true, if_false, Nat.reduceMul, Nat.reduceLeDiff, encS, d1]; exact rfl))
      | (refine WpItems.nil ⟨?_, ?_⟩; (· first | trivial | simp [pairsQ, pairsOk, apart, ent0]))
      | (apply Wp.cond_lit; (· simp only [go_sem, reduceIte, Nat.reduceEqDiff, Nat.reduceAdd, bx, ax, if_true, if_false, Nat.reduceMul, Nat.reduceLeDiff, encS, d1]; exact rfl); (· rfl))
      | refine Wp.skip ?_
      | refine Wp.label ?_
      | refine Wp.block ?_
      | refine Wp.exit ?_
      | refine Wp.seq ?_)
    refine Wp.ret ⟨trivial, _, rfl, ?_⟩
    simp only [go_sem, reduceIte, Nat.reduceEqDiff, Nat.reduceAdd, bx]
    exact VSub.refl _
  have d1 := decide_eq_false p1
  by_cases p2 : 1152921504606846976 < t
  · have d2 := decide_eq_true p2
    have hres : applyB S t l = (S, 18) := by rw [applyB, if_pos (.inr p2)]
    rw [hres]
    repeat (first
      | ((first | apply Wp.seqItemsR | apply Wp.itemsR); (· simp only [go_sem, reduceIte, Nat.reduceEqDiff, Nat.reduceAdd, bx, ax, if_true, if_false, Nat.reduceMul, Nat.reduceLeDiff, encS, d1, d2]; exact rfl))
      | (refine WpItems.nil ⟨?_, ?_⟩; (· first | trivial | simp [pairsQ, pairsOk, apart, ent0]))
      | (apply Wp.cond_lit; (· simp only [go_sem, reduceIte, Nat.reduceEqDiff, Nat.reduceAdd, bx, ax, if_true, if_false, Nat.reduceMul, Nat.reduceLeDiff, encS, d1, d2]; exact rfl); (· rfl))
      | refine Wp.skip ?_
      | refine Wp.label ?_
      | refine Wp.block ?_
      | refine Wp.exit ?_
      | refine Wp.seq ?_)
    refine Wp.ret ⟨trivial, _, rfl, ?_⟩
    simp only [go_sem, reduceIte, Nat.reduceEqDiff, Nat.reduceAdd, bx]
    exact VSub.refl _
  have d2 := decide_eq_false p2
  have hmc := mayC_p l (by omega)
  cases hf : fitB l with
  | false =>
    have hres : applyB S t l = (S, 2) := by rw [applyB, if_neg (by omega), if_pos hf]
    rw [hres]
    rw [hf] at hmc
    repeat (first
      | ((first | apply Wp.seqItemsR | apply Wp.itemsR | ((first
          | (refine WpItems.pcall ?_ ?_ (hmc) ?_; (· simp only [go_sem, reduceIte, Nat.reduceEqDiff, Nat.reduceAdd, bx]); (· simp only [go_sem, reduceIte, Nat.reduceEqDiff, Nat.reduceAdd, bx, List.map]; first | exact VSubs.refl _ | (repeat (first | exact VSubs.nil | refine VSubs.cons (by first | exact VSub.refl _ | assumption | exact VSub.cap | exact VSub.any _) ?_))))); apply WpItems.evR)); (· simp only [go_sem, reduceIte, Nat.reduceEqDiff, Nat.reduceAdd, bx, ax, if_true, if_false, Nat.reduceMul, Nat.reduceLeDiff, encS, d1, d2]; exact rfl))
      | (refine WpItems.nil ⟨?_, ?_⟩; (· first | trivial | simp [pairsQ, pairsOk, apart, ent0]))
      | (apply Wp.cond_lit; (· simp only [go_sem, reduceIte, Nat.reduceEqDiff, Nat.reduceAdd, bx, ax, if_true, if_false, Nat.reduceMul, Nat.reduceLeDiff, encS, d1, d2]; exact rfl); (· rfl))
      | refine Wp.skip ?_
      | refine Wp.label ?_
      | refine Wp.block ?_
      | refine Wp.exit ?_
      | refine Wp.seq ?_)
    refine Wp.ret ⟨trivial, _, rfl, ?_⟩
    simp only [go_sem, reduceIte, Nat.reduceEqDiff, Nat.reduceAdd, bx]
    exact VSub.refl _
  | true =>
    have hdo := do_eq t S hr l hf
    have hres : applyB S t l = (⟨l.foldl (upR t S) S.L, t, S.mark⟩, 0) := by
      have := (hdo l.length (Nat.le_refl _)).2.2
      rw [List.take_length] at this
      rw [applyB, if_neg (by omega), if_neg (by rw [hf]; exact Bool.false_ne_true.symm), this]
    rw [hres]
    rw [hf] at hmc
    repeat (first
      | ((first | apply Wp.seqItemsR | apply Wp.itemsR | ((first
          | (refine WpItems.pcall ?_ ?_ (hmc) ?_; (· simp only [go_sem, reduceIte, Nat.reduceEqDiff, Nat.reduceAdd, bx]); (· simp only [go_sem, reduceIte, Nat.reduceEqDiff, Nat.reduceAdd, bx, List.map]; first | exact VSubs.refl _ | (repeat (first | exact VSubs.nil | refine VSubs.cons (by first | exact VSub.refl _ | assumption | exact VSub.cap | exact VSub.any _) ?_))))); apply WpItems.evR)); (· simp only [go_sem, reduceIte, Nat.reduceEqDiff, Nat.reduceAdd, bx, ax, if_true, if_false, Nat.reduceMul, Nat.reduceLeDiff, encS, d1, d2]; exact rfl))
      | (refine WpItems.nil ⟨?_, ?_⟩; (· first | trivial | simp [pairsQ, pairsOk, apart, ent0]))
      | (apply Wp.cond_lit; (· simp only [go_sem, reduceIte, Nat.reduceEqDiff, Nat.reduceAdd, bx, ax, if_true, if_false, Nat.reduceMul, Nat.reduceLeDiff, encS, d1, d2]; exact rfl); (· rfl))
      | refine Wp.skip ?_
      | refine Wp.label ?_
      | refine Wp.block ?_
      | refine Wp.exit ?_
      | refine Wp.seq ?_)
    refine Wp.loopK [1, 2, 3, 6, 7] (by simp only [go_sem, reduceIte, Nat.reduceEqDiff, Nat.reduceAdd, bx, List.map]; exact rfl) (fun j : Nat => [(8, .sl 2 (((l.take j).foldl (upR t S) S.L).map encI) .any), (9, .int .i64 (j : Nat))]) (fun j => j ≤ l.length ∧ ∀ p ∈ (l.take j).foldl (upR t S) S.L, Ls p.1) (fun j => l.length - j) 0 ⟨Nat.zero_le _, lk⟩ ?_ ?_
    · simp only [AllSub, go_sem, reduceIte, Nat.reduceEqDiff, Nat.reduceAdd, bx]; and_intros <;> first | exact trivial | exact VSub.refl _ | exact VSub.any _ | (refine VSub.int ?_; omega)
    rintro j ⟨hj, hls⟩
    by_cases hj2 : j < l.length
    · have g1 : decide (((j : Nat) : Int) < ((l.length : Nat) : Int)) = true := decide_eq_true (by omega)
      have h2 : (0 : Int) ≤ ((j : Nat) : Int) := by omega
      have h3 : ((j : Nat) : Int) < ((l.length : Nat) : Int) := by omega
      have e1 : IntKind.i64.wrap (((j : Nat) : Int) + 1) = ((j + 1 : Nat) : Int) := by rw [IntWalk.i64_in _ (by omega)]; omega
      have hat := chs_getD l j .any hj2
      obtain ⟨hr1, hg1, -⟩ := hdo j hj
      have hlen := up_len t S (l.take j) S.L
      rw [List.length_take] at hlen
      have hkl := fit_len hf hj2
      have hup : (l.take (j + 1)).foldl (upR t S) S.L = upR t S ((l.take j).foldl (upR t S) S.L) (l.getD j default) := by
        rw [take_snoc default hj2, List.foldl_append]; rfl
      have hul : ∀ A c, upR t S A c = setL A c.k (addB (mget S.L c.k) ⟨t, c.v, c.d⟩).1 := fun _ _ => rfl
      rw [hul] at hup
      generalize hnx : (l.take (j + 1)).foldl (upR t S) S.L = nx at *
      generalize (l.take j).foldl (upR t S) S.L = A at *
      generalize l.getD j default = c at *
      have hfd := find_p S (by omega) c.k
      have had := addR_p (mget S.L c.k) (by have := hS.2 c.k; omega) ⟨t, c.v, c.d⟩
      have hal := add_len (mget S.L c.k) ⟨t, c.v, c.d⟩
      have hml := hS.2 c.k
      have hlk : Ls c.k := by unfold Ls; omega
      generalize addB (mget S.L c.k) ⟨t, c.v, c.d⟩ = w at *
      have hwi := with_p A (by omega) hls c.k hlk w.1 (by omega)
      rw [withB_eq A hr1] at hwi
      simp only [encV] at had
      unfold encS at hfd
      have hlsn : ∀ p ∈ nx, Ls p.1 := by rw [hup]; exact setL_ls hls hlk _
      repeat (first
        | ((first | apply Wp.seqItemsR | apply Wp.itemsR | ((first
            | (refine WpItems.pcall ?_ ?_ (hfd) ?_; (· simp only [go_sem, reduceIte, Nat.reduceEqDiff, Nat.reduceAdd, bx]); (· simp only [go_sem, reduceIte, Nat.reduceEqDiff, Nat.reduceAdd, bx, List.map]; first | exact VSubs.refl _ | (repeat (first | exact VSubs.nil | refine VSubs.cons (by first | exact VSub.refl _ | assumption | exact VSub.cap | exact VSub.any _) ?_))))
            | (refine WpItems.pcall ?_ ?_ (had) ?_; (· simp only [go_sem, reduceIte, Nat.reduceEqDiff, Nat.reduceAdd, bx]); (· simp only [go_sem, reduceIte, Nat.reduceEqDiff, Nat.reduceAdd, bx, List.map]; first | exact VSubs.refl _ | (repeat (first | exact VSubs.nil | refine VSubs.cons (by first | exact VSub.refl _ | assumption | exact VSub.cap | exact VSub.any _) ?_))))
            | (refine WpItems.pcall ?_ ?_ (hwi) ?_; (· simp only [go_sem, reduceIte, Nat.reduceEqDiff, Nat.reduceAdd, bx]); (· simp only [go_sem, reduceIte, Nat.reduceEqDiff, Nat.reduceAdd, bx, List.map]; first | exact VSubs.refl _ | (repeat (first | exact VSubs.nil | refine VSubs.cons (by first | exact VSub.refl _ | assumption | exact VSub.cap | exact VSub.any _) ?_))))); apply WpItems.evR)); (· simp only [go_sem, reduceIte, Nat.reduceEqDiff, Nat.reduceAdd, bx, ax, if_true, if_false, Nat.reduceMul, Nat.reduceLeDiff, g1, h2, h3, e1, hat, encCh, chs_length]; exact rfl))
        | (refine WpItems.nil ⟨?_, ?_⟩; (· first | trivial | simp [pairsQ, pairsOk, apart, ent0]))
        | (apply Wp.cond_lit; (· simp only [go_sem, reduceIte, Nat.reduceEqDiff, Nat.reduceAdd, bx, ax, if_true, if_false, Nat.reduceMul, Nat.reduceLeDiff, g1, h2, h3, e1, hat, encCh, chs_length]; exact rfl); (· rfl))
        | refine Wp.skip ?_
        | refine Wp.label ?_
        | refine Wp.block ?_
        | refine Wp.exit ?_
        | refine Wp.seq ?_)
      refine ⟨j + 1, ⟨by omega, by rw [hnx]; exact hlsn⟩, by omega, ?_⟩
      rw [hnx, hup]
      refine StLe.tm (by simp only [AllSub, go_sem, reduceIte, Nat.reduceEqDiff, Nat.reduceAdd, bx]; and_intros <;> first | exact trivial | exact VSub.refl _ | exact VSub.any _ | (refine VSub.int ?_; omega))
    · have hje : j = l.length := by omega
      subst hje
      have g1 : decide (((l.length : Nat) : Int) < ((l.length : Nat) : Int)) = false := decide_eq_false (by omega)
      repeat (first
        | ((first | apply Wp.seqItemsR | apply Wp.itemsR); (· simp only [go_sem, reduceIte, Nat.reduceEqDiff, Nat.reduceAdd, bx, ax, if_true, if_false, Nat.reduceMul, Nat.reduceLeDiff, g1, chs_length]; exact rfl))
        | (refine WpItems.nil ⟨?_, ?_⟩; (· first | trivial | simp [pairsQ, pairsOk, apart, ent0]))
        | (apply Wp.cond_lit; (· simp only [go_sem, reduceIte, Nat.reduceEqDiff, Nat.reduceAdd, bx, ax, if_true, if_false, Nat.reduceMul, Nat.reduceLeDiff, g1, chs_length]; exact rfl); (· rfl))
        | refine Wp.skip ?_
        | refine Wp.label ?_
        | refine Wp.block ?_
        | refine Wp.exit ?_
        | refine Wp.seq ?_)
      refine Wp.ret ⟨trivial, _, rfl, ?_⟩
      simp only [go_sem, reduceIte, Nat.reduceEqDiff, Nat.reduceAdd, bx]
      rw [List.take_length]; exact VSub.refl _
end Go.Proofs.Ytpehfflehebmbaa.Space
end
section
set_option linter.unusedSimpArgs false
set_option linter.unusedVariables false
set_option maxRecDepth 10000
namespace Go.Proofs.Ytpehfflehebmbaa.Space
open Go Go.Av Go.Proofs Go.Proofs.Ytpehfflehebmbaa.C Go.Proofs.Ytpehfflehebmbaa.Batch
theorem ld_key {l : List It} {last : Int} {j : Nat} (h : ldAt l last j = true) : (l.getD j default).1.length ≤ 128 := by
  simp only [ldAt, mayB, Bool.and_eq_true, decide_eq_true_eq] at h
  omega
theorem ld_next {l : List It} {last : Int} {j : Nat} (h : ldAt l last (j + 1) = true) : Op.bytesLess (l.getD j default).1 (l.getD (j + 1) default).1 = true := by
  simp only [ldAt, mayB, aheadAt, Bool.and_eq_true, Bool.or_eq_true, decide_eq_true_eq, Nat.add_one_ne_zero, false_or, if_false, Nat.add_sub_cancel] at h
  exact h.1.1.1.2
theorem ld_full {l : List It} {last : Int} {j : Nat} (h : ldAt l last j = true) : (l.getD j default).2 ≠ [] := by
  simp only [ldAt, mayB, Bool.and_eq_true, decide_eq_true_eq] at h
  exact List.length_pos_iff.1 h.1.1.2
theorem ld_all {l : List It} {last mark : Int} (h : ldB l last mark = true) {j : Nat} (hj : j < l.length) : ldAt l last j = true := by
  simp only [ldB, Bool.and_eq_true] at h
  exact List.all_eq_true.1 h.2 j (List.mem_range.2 hj)
theorem ld_rise {l : List It} {last mark : Int} (h : ldB l last mark = true) : RiseL l ∧ Full l := by
  have up : ∀ i j, i < j → j < l.length → Op.bytesLess (l.getD i default).1 (l.getD j default).1 = true := by
    intro i j hij
    induction j with
    | zero => omega
    | succ j ih =>
      intro hj
      have h1 := ld_next (ld_all h hj)
      by_cases e : i = j
      · rw [e]; exact h1
      · exact less_trans (ih (by omega) (by omega)) h1
  refine ⟨List.pairwise_iff_getElem.2 fun i j hi hj hij => ?_, fun p hp => ?_⟩
  · simp only [keysOf, List.length_map] at hi hj
    have := up i j hij hj
    rw [getD_el hi, getD_el hj] at this
    simpa [keysOf] using this
  · obtain ⟨i, hi, rfl⟩ := List.mem_iff_getElem.1 hp
    have := ld_full (ld_all h hi)
    rwa [getD_el hi] at this
end Go.Proofs.Ytpehfflehebmbaa.Space
end
section
set_option linter.unusedVariables false
set_option linter.unusedSimpArgs false
namespace Go.Av
section
variable {P : Program} {N : Nat}
theorem touch_swapI {A G G' B : List Fr} {n n' m m' : Nat} {T : List Nat} (ok : Ok (A ++ G ++ B) n T m) (ok' : Ok G' n' (ks G') m') (hn : n ≤ n') (hm : m ≤ m') (hw : ∀ j, n ≤ j ∨ (lay G j).isSome = true ∨ lay G' j = none) :
    ∃ ids, Touch ⟨lay (A ++ G ++ B), n, T, m⟩ ⟨lay G, n, ks G, m⟩ ⟨lay G', n', ks G', m'⟩ ⟨lay (A ++ G' ++ B), n', ks G' ++ T.filter (fun t => !(ks G).contains t), m'⟩ ⟨[], ids, ks G ++ ks G'⟩ ∧ ∀ id ∈ ids, (lay G id).isSome = true ∨ (n ≤ id ∧ id < n') := by
  have bG : ∀ j, n ≤ j → lay G j = none := fun j hj => lay_none.2 fun F hF => ok.bd F (by simp [hF]) j hj
  obtain ⟨ids, hi⟩ := ids_of bG
  refine ⟨ids ++ (List.range (n' - n)).map (n + ·), ?_, ?_⟩
  · have d1 := List.pairwise_append.1 (List.pairwise_append.1 ok.dj).1
    have tc := touch_gen (h := ⟨lay (A ++ G ++ B), n, T, m⟩) (h1 := ⟨lay G, n, ks G, m⟩) (h1' := ⟨lay G', n', ks G', m'⟩) (ids := ids) ⟨fun j o hj => ?_, fun t ht => ok.tk t ?_⟩ rfl rfl (fun id h => (hi id).1 h) hn hm
    · have e : (⟨lay (A ++ G' ++ B), n', ks G' ++ T.filter (fun t => !(ks G).contains t), m'⟩ : H) = H.patch ⟨lay (A ++ G ++ B), n, T, m⟩ ⟨lay G, n, ks G, m⟩ ⟨lay G', n', ks G', m'⟩ :=
        H.ext (fun j => (lay_patch ok ok' hn hw j).symm) rfl rfl rfl
      rw [e]; exact tc
    · show lay (A ++ G ++ B) j = some o
      have hj' : lay G j = some o := hj
      rw [lay_append, lay_append]
      have : lay A j = none := by
        cases hA : lay A j with
        | none => rfl
        | some o' =>
          obtain ⟨F, a, b⟩ := lay_some hA
          obtain ⟨F', a', b'⟩ := lay_some hj'
          rcases d1.2.2 F a F' a' j with e | e
          · rw [e] at b; cases b
          · rw [e] at b'; cases b'
      rw [this, hj']; rfl
    · have ht' : t ∈ ks G := ht
      rw [ks_append, ks_append]; simp [ht']
  · intro id hid
    rcases List.mem_append.1 hid with h | h
    · exact .inl ((hi id).2 h)
    · obtain ⟨k, hk, rfl⟩ := List.mem_map.1 h
      have := List.mem_range.1 hk
      exact .inr (by omega)
theorem WpItems.gkeepI {dst : Option Nat} {g : Option (Nat × Bool)} {f : FuncId} {l : List Opd} {its : List AItem} {t : Tm} {log : List Ent} {K : Tm → H → List Ent → Prop} {vals : List AV} {r : AV} {F : Fr} (A B : List Fr) {n m : Nat} {T : List Nat}
    (hg : guardOf t g = some true) (hs : VSubs (l.map (ev t)) vals) (hc : GCalls P f vals [F] fun r' l' => r' = r ∧ l' = [F]) (hk : F.k = []) (ok : Ok (A ++ F :: B) n T m)
    (rest : ∀ n' m' ids, n ≤ n' → m ≤ m' → (∀ id ∈ ids, (F.o id).isSome = true ∨ (n ≤ id ∧ id < n')) → Ok (A ++ F :: B) n' T m' → WpItems P N its (putT t dst r) ⟨lay (A ++ F :: B), n', T, m'⟩ (⟨[], ids, []⟩ :: log) K) :
    WpItems P N (⟨dst, g, .call f l⟩ :: its) t ⟨lay (A ++ F :: B), n, T, m⟩ log K := by
  have e : A ++ F :: B = A ++ [F] ++ B := by simp
  rw [e] at ok ⊢
  have okG : Ok [F] n (ks [F]) m := by
    have d1 := List.pairwise_append.1 (List.pairwise_append.1 ok.dj).1
    have t1 := List.pairwise_append.1 (List.pairwise_append.1 ok.td).1
    exact ⟨fun F hF => ok.bd F (by simp [List.mem_singleton.1 hF]), d1.2.1, fun t ht => ht, t1.2.1, fun t ht => ok.tb t (ok.tk t (by rw [ks_append, ks_append]; simp [ht]))⟩
  obtain ⟨r', G', n', m', h1, h2, h3, h4, h5, h6, rfl, rfl⟩ := hc n m okG
  obtain ⟨ids, tc, hi⟩ := touch_swapI ok h4 h2 h3 h5
  have k0 : ks [F] = [] := by simp [ks, hk]
  have f0 : T.filter (fun _ : Nat => true) = T := by simp
  have ok2 := ok.swap h4 h2 h3 h5 h6
  simp only [k0, List.nil_append, List.contains_nil, Bool.not_false, f0] at ok2 tc h1 ⊢
  have hi' : ∀ id ∈ ids, (F.o id).isSome = true ∨ (n ≤ id ∧ id < n') := fun id h => by
    have := hi id h
    rwa [lay_cons, show lay ([] : List Fr) id = none from rfl, Option.or_none] at this
  refine WpItems.acall hg hs h1 tc ?_
  rw [← e] at ok2 ⊢
  exact rest n' m' ids h2 h3 hi' ok2
theorem WpItems.gcallI {dst : Option Nat} {g : Option (Nat × Bool)} {f : FuncId} {l : List Opd} {its : List AItem} {t : Tm} {log : List Ent} {K : Tm → H → List Ent → Prop} {vals : List AV} {Q : AV → List Fr → Prop} (A G B : List Fr) {n m : Nat} {T : List Nat}
    (hg : guardOf t g = some true) (hs : VSubs (l.map (ev t)) vals) (hc : GCalls P f vals G Q) (ok : Ok (A ++ G ++ B) n T m)
    (rest : ∀ r G' n' T' m' ids, Q r G' → On (A ++ G ++ B) n m (A ++ G' ++ B) n' T' m' → (∀ id ∈ ids, (lay G id).isSome = true ∨ (n ≤ id ∧ id < n')) → WpItems P N its (putT t dst r) ⟨lay (A ++ G' ++ B), n', T', m'⟩ (⟨[], ids, ks G ++ ks G'⟩ :: log) K) :
    WpItems P N (⟨dst, g, .call f l⟩ :: its) t ⟨lay (A ++ G ++ B), n, T, m⟩ log K := by
  have okG : Ok G n (ks G) m := by
    have d1 := List.pairwise_append.1 (List.pairwise_append.1 ok.dj).1
    have t1 := List.pairwise_append.1 (List.pairwise_append.1 ok.td).1
    exact ⟨fun F hF => ok.bd F (by simp [hF]), d1.2.1, fun t ht => ht, t1.2.1, fun t ht => ok.tb t (ok.tk t (by rw [ks_append, ks_append]; simp [ht]))⟩
  obtain ⟨r, G', n', m', h1, h2, h3, h4, h5, h6, h7⟩ := hc n m okG
  obtain ⟨ids, tc, hi⟩ := touch_swapI ok h4 h2 h3 h5
  exact WpItems.acall hg hs h1 tc (rest r G' n' _ m' ids h7 ⟨h2, h3, ok.swap h4 h2 h3 h5 h6, .mid h5, .mid h6⟩ hi)
theorem On.grown {l L : List Fr} {n m n' m' : Nat} {T : List Nat} {o : Obj} (a : On (ob n o :: l) (n + 1) m L n' T m') : On l n m L n' T m' := by
  refine ⟨by have := a.gn; omega, a.gm, a.ok, fun j => ?_, fun t ht => ?_⟩
  · by_cases e : j = n
    · exact .inl (by omega)
    · rcases a.wi j with h | h | h
      · exact .inl (by omega)
      · rw [lay_ob_ne _ _ e] at h; exact .inr (.inl h)
      · exact .inr (.inr h)
  · have := a.ki t ht
    rwa [ks_ob] at this
theorem On.ends1 {l0 L : List Fr} {n0 m0 n m : Nat} {T : List Nat} {q r : AV} {QQ : AV → List Fr → Prop} {F : Fr} (a : On l0 n0 m0 L n T m) (hF : F ∈ L) (hk : F.k = []) (hs : VSub q r) (hq : QQ r [F]) : Ends l0 n0 m0 QQ q ⟨lay L, n, T, m⟩ r [F] where
  sub := hs
  ole j o hj := by
    rw [lay_cons, show lay ([] : List Fr) j = none from rfl, Option.or_none] at hj
    exact ⟨o, a.ok.sub hF j o hj, OSub.refl _⟩
  tk t ht := by simp [ks, hk] at ht
  ok := ⟨fun F' hF' => by rw [List.mem_singleton.1 hF']; exact a.ok.bd F hF, by simp, fun t ht => ht, by simp, fun t ht => by simp [ks, hk] at ht⟩
  new j := by
    cases h : F.o j with
    | none => right; right; rw [lay_cons, h]; rfl
    | some o =>
      rcases a.wi j with e | e | e
      · exact .inl e
      · exact .inr (.inl e)
      · rw [a.ok.sub hF j o h] at e; cases e
  knew t ht := by simp [ks, hk] at ht
  q := hq
theorem WpItems.gkeep0 {dst : Option Nat} {g : Option (Nat × Bool)} {f : FuncId} {l : List Opd} {its : List AItem} {t : Tm} {log : List Ent} {K : Tm → H → List Ent → Prop} {vals : List AV} {r : AV} {F : Fr} {n m : Nat} {T : List Nat}
    (hg : guardOf t g = some true) (hs : VSubs (l.map (ev t)) vals) (hc : GCalls P f vals [F] fun r' l' => r' = r ∧ l' = [F]) (hk : F.k = []) (ok : Ok [F] n T m)
    (rest : ∀ n' m' ids, On [F] n m [F] n' T m' → (∀ id ∈ ids, (F.o id).isSome = true ∨ (n ≤ id ∧ id < n')) → WpItems P N its (putT t dst r) ⟨lay [F], n', T, m'⟩ (⟨[], ids, []⟩ :: log) K) :
    WpItems P N (⟨dst, g, .call f l⟩ :: its) t ⟨lay [F], n, T, m⟩ log K :=
  WpItems.gkeepI [] [] hg hs hc hk ok fun n' m' ids a b c d => rest n' m' ids ⟨a, b, d, .refl, .refl⟩ c
end
end Go.Av
end
section
set_option linter.unusedSimpArgs false
set_option linter.unusedVariables false
set_option maxRecDepth 10000
namespace Go.Proofs.Ytpehfflehebmbaa.Space
open Go Go.Av Go.Proofs Go.Proofs.Ytpehfflehebmbaa.C Go.Proofs.Ytpehfflehebmbaa.Batch
structure Fit (S : Spc) (k : Nat) : Prop where
  ri : RiseL S.L
  fu : Full S.L
  ln : S.L.length ≤ k
  vs : ∀ p ∈ S.L, p.2.length ≤ k
  ls : ∀ p ∈ S.L, Ls p.1
theorem Fit.mono {S : Spc} {k j : Nat} (h : Fit S k) (hk : k ≤ j) : Fit S j := ⟨h.ri, h.fu, Nat.le_trans h.ln hk, fun p hp => Nat.le_trans (h.vs p hp) hk, h.ls⟩
theorem mget_len {L : List It} {k : Nat} (h : ∀ p ∈ L, p.2.length ≤ k) (q : Bs) : (mget L q).length ≤ k := by
  induction L with
  | nil => simp [mget]
  | cons p L ih =>
    rw [mget]
    split
    · exact h p (by simp)
    · exact ih (fun x hx => h x (by simp [hx]))
theorem Fit.room {S : Spc} {k j : Nat} (h : Fit S k) (hk : k + j ≤ 500000) : Room S j := ⟨by have := h.ln; omega, fun q => by have := mget_len h.vs q; omega⟩
theorem Fit.small {S : Spc} {k : Nat} (h : Fit S k) (hk : k ≤ 500000) : Small S := ⟨by have := h.ln; omega, fun q => by have := mget_len h.vs q; omega⟩
theorem Fit.zero : Fit ⟨[], 0, 0⟩ 0 := ⟨by simp [RiseL, Rise, keysOf], fun p hp => by simp at hp, Nat.le_refl _, fun p hp => by simp at hp, fun p hp => by simp at hp⟩
theorem Fit.lay {S : Spc} {k : Nat} (h : Fit S k) : layL [] S.L = S.L := layL_self h.ri h.fu
theorem Fit.times {S : Spc} {k : Nat} (h : Fit S k) (a b : Int) : Fit { S with last := a, mark := b } k := ⟨h.ri, h.fu, h.ln, h.vs, h.ls⟩
theorem Fit.step {S : Spc} {k : Nat} (h : Fit S k) (t : Int) (c : Ch) (hc : Ls c.k) : Fit (stepS t S c) (k + 1) := by
  refine ⟨setL_rise h.ri _ _, setL_full h.fu _ _, ?_, fun p hp => ?_, setL_ls h.ls hc _⟩
  · have := setL_len S.L c.k (addB (mget S.L c.k) ⟨t, c.v, c.d⟩).1
    have := h.ln
    simp only [stepS, setS]; omega
  · simp only [stepS, setS] at hp
    rcases setL_mem hp with rfl | hp
    · have h1 := add_len (mget S.L c.k) ⟨t, c.v, c.d⟩
      have h2 := mget_len h.vs c.k
      simp only; omega
    · have := h.vs p hp; omega
theorem Fit.dos : ∀ (l : List Ch) {S : Spc} {k : Nat} (h : Fit S k) (t : Int) (hc : ∀ c ∈ l, Ls c.k), Fit (doS t S l) (k + l.length)
  | [], S, k, h, t, hc => h
  | c :: l, S, k, h, t, hc => by
    have := Fit.dos l (h.step t c (hc c (by simp))) t (fun x hx => hc x (by simp [hx]))
    exact this.mono (by simp only [List.length_cons]; omega)
theorem Fit.apply {S : Spc} {k : Nat} (h : Fit S k) (t : Int) (l : List Ch) (hc : ∀ c ∈ l, Ls c.k) : Fit (applyB S t l).1 (k + l.length) := by
  unfold applyB
  split
  · exact h.mono (by omega)
  · split
    · exact h.mono (by omega)
    · have := Fit.dos l h t hc
      exact ⟨this.ri, this.fu, this.ln, this.vs, this.ls⟩
theorem vacR_mem {mark : Int} {L : List It} {x : It} (h : x ∈ vacR mark L) : ∃ p ∈ L, p.1 = x.1 ∧ x.2 = vacB p.2 mark := by
  obtain ⟨p, hp, e⟩ := List.mem_filterMap.1 h
  split at e
  · cases e
  · cases e; exact ⟨p, hp, rfl, rfl⟩
theorem vacR_rise (mark : Int) : ∀ L : List It, RiseL L → RiseL (vacR mark L)
  | [], _ => by simp [vacR, RiseL, Rise, keysOf]
  | p :: L, h => by
    obtain ⟨h1, h2⟩ := rise_cons.1 h
    have ih := vacR_rise mark L h2
    by_cases hv : vacB p.2 mark = []
    · have e : vacR mark (p :: L) = vacR mark L := by simp [vacR, hv]
      rw [e]; exact ih
    · have e : vacR mark (p :: L) = (p.1, vacB p.2 mark) :: vacR mark L := by simp [vacR, hv]
      rw [e]
      refine rise_cons.2 ⟨fun x hx => ?_, ih⟩
      obtain ⟨y, hy, e2, -⟩ := vacR_mem hx
      rw [← e2]; exact h1 y hy
theorem Fit.vac {S : Spc} {k : Nat} (h : Fit S k) (mark : Int) : Fit (vacuumB S mark).1 k := by
  unfold vacuumB
  split
  · exact h
  · rw [vacS_eq h.ri]
    refine ⟨vacR_rise mark S.L h.ri, vacR_full mark S.L, ?_, fun p hp => ?_, fun p hp => ?_⟩
    · have := List.length_filterMap_le (fun p : It => if vacB p.2 mark = [] then none else some (p.1, vacB p.2 mark)) S.L
      exact Nat.le_trans this h.ln
    · obtain ⟨y, hy, -, e⟩ := vacR_mem hp
      rw [e]
      exact Nat.le_trans (vac_len _ _) (h.vs y hy)
    · obtain ⟨y, hy, e, -⟩ := vacR_mem hp
      rw [← e]; exact h.ls y hy
theorem ld_ls {l : List It} {last mark : Int} (h : ldB l last mark = true) : ∀ p ∈ l, Ls p.1 := fun p hp => by
  obtain ⟨i, hi, rfl⟩ := List.mem_iff_getElem.1 hp
  have := ld_key (ld_all h hi)
  rw [getD_el hi] at this
  unfold Ls; omega
theorem Fit.load {l : List It} {last mark : Int} {k : Nat} (h : ldB l last mark = true) (hl : l.length ≤ k) (hv : ∀ p ∈ l, p.2.length ≤ k) : Fit ⟨l, last, mark⟩ k := ⟨(ld_rise h).1, (ld_rise h).2, hl, hv, ld_ls h⟩
end Go.Proofs.Ytpehfflehebmbaa.Space
end
section
set_option linter.unusedSimpArgs false
set_option linter.unusedVariables false
set_option maxRecDepth 10000
namespace Go.Proofs.Ytpehfflehebmbaa.Space
open Go Go.Av Go.Proofs Go.Proofs.Ytpehfflehebmbaa.C Go.Proofs.Ytpehfflehebmbaa.Batch
def exA : List Ch := [⟨[97], [120], false⟩, ⟨[98], [121], false⟩]
def exB : List Ch := [⟨[97], [], true⟩]
def exS1 : Spc := (applyB ⟨[], 0, 0⟩ 1 exA).1
def exS2 : Spc := (applyB exS1 3 exB).1
def exS3 : Spc := (vacuumB exS2 3).1
theorem ex1 : (applyB ⟨[], 0, 0⟩ 1 exA).2 = 0 := by kernel_rfl
theorem ex2 : (applyB exS1 3 exB).2 = 0 := by kernel_rfl
theorem ex3 : getB exS2 [97] 2 = ([120], 0) := by kernel_rfl
theorem ex4 : getB exS2 [97] 3 = ([], 7) := by kernel_rfl
theorem ex5 : scanB exS2 [] [] 3 (-1) = ([⟨[98], [121]⟩], 0) := by kernel_rfl
theorem ex6 : sinceS exS2 [97] [98] 1 = true := by kernel_rfl
theorem ex7 : (vacuumB exS2 3).2 = 0 := by kernel_rfl
theorem ex8 : getB exS3 [97] 2 = ([], 12) := by kernel_rfl
theorem ex9 : exS3.L = [([98], [⟨1, [121], false⟩])] := by kernel_rfl
theorem exF1 : Fit exS1 2 := Fit.zero.apply 1 exA (by intro c hc; simp [exA] at hc; rcases hc with rfl | rfl <;> simp [Ls])
theorem exF2 : Fit exS2 3 := exF1.apply 3 exB (by intro c hc; simp [exB] at hc; subst hc; simp [Ls])
theorem exF3 : Fit exS3 3 := exF2.vac 3
set_option maxHeartbeats 2000000 in
theorem lives_p : PCalls Try.prog 14 [] (.bool true) := by
  refine f14.pcalls0 (by simp) (by simp [allPure]) rfl ?_
  unfold c14
  have ok0 : Ok [] 0 [] 0 := Ok.nil
  repeat (first
    | ((first | apply Wp.seqItemsR | apply Wp.itemsR); (· simp only [go_sem, reduceIte, Nat.reduceEqDiff, Nat.reduceAdd, bx, ax, if_true, if_false, Nat.reduceMul, Nat.reduceLeDiff]; exact rfl))
    | (refine WpItems.nil ⟨?_, ?_⟩; (· first | trivial | simp [pairsQ, pairsOk, apart, ent0]))
    | (apply Wp.cond_lit; (· simp only [go_sem, reduceIte, Nat.reduceEqDiff, Nat.reduceAdd, bx, ax, if_true, if_false, Nat.reduceMul, Nat.reduceLeDiff]; exact rfl); (· rfl))
    | refine Wp.skip ?_
    | refine Wp.label ?_
    | refine Wp.block ?_
    | refine Wp.exit ?_
    | refine Wp.seq ?_)
  show WpItems _ _ _ _ ⟨lay [], 0, [], 0⟩ _ _
  refine WpItems.gcall1 (by simp only [go_sem, reduceIte, Nat.reduceEqDiff, Nat.reduceAdd, bx]) (by simp only [go_sem, reduceIte, Nat.reduceEqDiff, Nat.reduceAdd, bx, List.map]; first | exact VSubs.refl _ | (repeat (first | exact VSubs.nil | refine VSubs.cons (by first | exact VSub.refl _ | assumption | exact VSub.cap | exact VSub.any _) ?_))) (new_g) (ok0) fun r1 G1 n1 T1 m1 ids1 hq1 on1 => ?_
  obtain ⟨s, F0, rfl, rfl, hF0⟩ := hq1
  refine WpItems.evR (by simp only [go_sem, reduceIte, Nat.reduceEqDiff, Nat.reduceAdd, bx]; exact rfl) ?_
  repeat (first
    | ((first | apply Wp.seqItemsR | apply Wp.itemsR); (· simp only [go_sem, reduceIte, Nat.reduceEqDiff, Nat.reduceAdd, bx, ax, if_true, if_false, Nat.reduceMul, Nat.reduceLeDiff]; exact rfl))
    | (refine WpItems.nil ⟨?_, ?_⟩; (· first | trivial | simp [pairsQ, pairsOk, apart, ent0]))
    | (apply Wp.cond_lit; (· simp only [go_sem, reduceIte, Nat.reduceEqDiff, Nat.reduceAdd, bx, ax, if_true, if_false, Nat.reduceMul, Nat.reduceLeDiff]; exact rfl); (· rfl))
    | refine Wp.skip ?_
    | refine Wp.label ?_
    | refine Wp.block ?_
    | refine Wp.exit ?_
    | refine Wp.seq ?_)
  have ap1 := apply_g hF0 Fit.zero.ri 1 exA (by decide) (Fit.zero.room (by decide))
  rw [ex1] at ap1
  refine WpItems.gcall1 (by simp only [go_sem, reduceIte, Nat.reduceEqDiff, Nat.reduceAdd, bx]) (by simp only [go_sem, reduceIte, Nat.reduceEqDiff, Nat.reduceAdd, bx, List.map]; first | exact VSubs.refl _ | (repeat (first | exact VSubs.nil | refine VSubs.cons (by first | exact VSub.refl _ | assumption | exact VSub.cap | exact VSub.any _) ?_))) (ap1) (on1.ok) fun r2 G2 n2 T2 m2 ids2 hq2 on2 => ?_
  obtain ⟨rfl, F1, rfl, hF1⟩ := hq2
  refine WpItems.evR (by simp only [go_sem, reduceIte, Nat.reduceEqDiff, Nat.reduceAdd, bx]; exact rfl) ?_
  repeat (first
    | ((first | apply Wp.seqItemsR | apply Wp.itemsR); (· simp only [go_sem, reduceIte, Nat.reduceEqDiff, Nat.reduceAdd, bx, ax, if_true, if_false, Nat.reduceMul, Nat.reduceLeDiff]; exact rfl))
    | (refine WpItems.nil ⟨?_, ?_⟩; (· first | trivial | simp [pairsQ, pairsOk, apart, ent0]))
    | (apply Wp.cond_lit; (· simp only [go_sem, reduceIte, Nat.reduceEqDiff, Nat.reduceAdd, bx, ax, if_true, if_false, Nat.reduceMul, Nat.reduceLeDiff]; exact rfl); (· rfl))
    | refine Wp.skip ?_
    | refine Wp.label ?_
    | refine Wp.block ?_
    | refine Wp.exit ?_
    | refine Wp.seq ?_)
  have ap2 := apply_g (S := exS1) hF1 exF1.ri 3 exB (by decide) (exF1.room (by decide))
  rw [ex2] at ap2
  refine WpItems.gcall1 (by simp only [go_sem, reduceIte, Nat.reduceEqDiff, Nat.reduceAdd, bx]) (by simp only [go_sem, reduceIte, Nat.reduceEqDiff, Nat.reduceAdd, bx, List.map]; first | exact VSubs.refl _ | (repeat (first | exact VSubs.nil | refine VSubs.cons (by first | exact VSub.refl _ | assumption | exact VSub.cap | exact VSub.any _) ?_))) (ap2) (on2.ok) fun r3 G3 n3 T3 m3 ids3 hq3 on3 => ?_
  obtain ⟨rfl, F2, rfl, hF2⟩ := hq3
  refine WpItems.evR (by simp only [go_sem, reduceIte, Nat.reduceEqDiff, Nat.reduceAdd, bx]; exact rfl) ?_
  have ok := on3.ok
  have sm2 := exF2.small (by decide)
  have g1 := get_r (S := exS2) hF2 sm2 [97] 2
  have g2 := get_r (S := exS2) hF2 sm2 [97] 3
  rw [ex3] at g1
  rw [ex4] at g2
  repeat (first
    | ((first | apply Wp.seqItemsR | apply Wp.itemsR | ((first
        | (refine WpItems.glook ?_ ?_ (g1) (by first | exact fun j o h => h | exact ok.sub (by simp) | assumption) (fun ids => ?_); (· simp only [go_sem, reduceIte, Nat.reduceEqDiff, Nat.reduceAdd, bx]); (· simp only [go_sem, reduceIte, Nat.reduceEqDiff, Nat.reduceAdd, bx, List.map]; first | exact VSubs.refl _ | (repeat (first | exact VSubs.nil | refine VSubs.cons (by first | exact VSub.refl _ | assumption | exact VSub.cap | exact VSub.any _) ?_))))
        | (refine WpItems.glook ?_ ?_ (g2) (by first | exact fun j o h => h | exact ok.sub (by simp) | assumption) (fun ids => ?_); (· simp only [go_sem, reduceIte, Nat.reduceEqDiff, Nat.reduceAdd, bx]); (· simp only [go_sem, reduceIte, Nat.reduceEqDiff, Nat.reduceAdd, bx, List.map]; first | exact VSubs.refl _ | (repeat (first | exact VSubs.nil | refine VSubs.cons (by first | exact VSub.refl _ | assumption | exact VSub.cap | exact VSub.any _) ?_))))); apply WpItems.evR)); (· simp only [go_sem, reduceIte, Nat.reduceEqDiff, Nat.reduceAdd, bx, ax, if_true, if_false, Nat.reduceMul, Nat.reduceLeDiff, ok]; exact rfl))
    | (refine WpItems.nil ⟨?_, ?_⟩; (· first | trivial | simp [pairsQ, pairsOk, apart, ent0]))
    | (apply Wp.cond_lit; (· simp only [go_sem, reduceIte, Nat.reduceEqDiff, Nat.reduceAdd, bx, ax, if_true, if_false, Nat.reduceMul, Nat.reduceLeDiff, ok]; exact rfl); (· rfl))
    | refine Wp.skip ?_
    | refine Wp.label ?_
    | refine Wp.block ?_
    | refine Wp.exit ?_
    | refine Wp.seq ?_)
  have sc := scan_g (S := exS2) hF2 exF2.ri sm2 [] [] 3 (-1)
  rw [ex5] at sc
  refine WpItems.gkeep0 (by simp only [go_sem, reduceIte, Nat.reduceEqDiff, Nat.reduceAdd, bx]) (by simp only [go_sem, reduceIte, Nat.reduceEqDiff, Nat.reduceAdd, bx, List.map]; first | exact VSubs.refl _ | (repeat (first | exact VSubs.nil | refine VSubs.cons (by first | exact VSub.refl _ | assumption | exact VSub.cap | exact VSub.any _) ?_))) (sc) (hF2.k) (on3.ok) fun n4 m4 ids4 on4 hids4 => ?_
  refine WpItems.evR (by simp only [go_sem, reduceIte, Nat.reduceEqDiff, Nat.reduceAdd, bx]; exact rfl) ?_
  repeat (first
    | ((first | apply Wp.seqItemsR | apply Wp.itemsR); (· simp only [go_sem, reduceIte, Nat.reduceEqDiff, Nat.reduceAdd, bx, ax, if_true, if_false, Nat.reduceMul, Nat.reduceLeDiff]; exact rfl))
    | (refine WpItems.nil ⟨?_, ?_⟩; (· first | trivial | simp [pairsQ, pairsOk, apart, ent0]))
    | (apply Wp.cond_lit; (· simp only [go_sem, reduceIte, Nat.reduceEqDiff, Nat.reduceAdd, bx, ax, if_true, if_false, Nat.reduceMul, Nat.reduceLeDiff]; exact rfl); (· rfl))
    | refine Wp.skip ?_
    | refine Wp.label ?_
    | refine Wp.block ?_
    | refine Wp.exit ?_
    | refine Wp.seq ?_)
  have si := since_g (S := exS2) hF2 exF2.ri sm2 [97] [98] 1
  rw [ex6] at si
  refine WpItems.gkeep0 (by simp only [go_sem, reduceIte, Nat.reduceEqDiff, Nat.reduceAdd, bx]) (by simp only [go_sem, reduceIte, Nat.reduceEqDiff, Nat.reduceAdd, bx, List.map]; first | exact VSubs.refl _ | (repeat (first | exact VSubs.nil | refine VSubs.cons (by first | exact VSub.refl _ | assumption | exact VSub.cap | exact VSub.any _) ?_))) (si) (hF2.k) (on4.ok) fun n5 m5 ids5 on5 hids5 => ?_
  refine WpItems.evR (by simp only [go_sem, reduceIte, Nat.reduceEqDiff, Nat.reduceAdd, bx]; exact rfl) ?_
  repeat (first
    | ((first | apply Wp.seqItemsR | apply Wp.itemsR); (· simp only [go_sem, reduceIte, Nat.reduceEqDiff, Nat.reduceAdd, bx, ax, if_true, if_false, Nat.reduceMul, Nat.reduceLeDiff]; exact rfl))
    | (refine WpItems.nil ⟨?_, ?_⟩; (· first | trivial | simp [pairsQ, pairsOk, apart, ent0]))
    | (apply Wp.cond_lit; (· simp only [go_sem, reduceIte, Nat.reduceEqDiff, Nat.reduceAdd, bx, ax, if_true, if_false, Nat.reduceMul, Nat.reduceLeDiff]; exact rfl); (· rfl))
    | refine Wp.skip ?_
    | refine Wp.label ?_
    | refine Wp.block ?_
    | refine Wp.exit ?_
    | refine Wp.seq ?_)
  have va := vacuum_g (S := exS2) hF2 exF2.ri sm2 3
  rw [ex7] at va
  refine WpItems.gcall1 (by simp only [go_sem, reduceIte, Nat.reduceEqDiff, Nat.reduceAdd, bx]) (by simp only [go_sem, reduceIte, Nat.reduceEqDiff, Nat.reduceAdd, bx, List.map]; first | exact VSubs.refl _ | (repeat (first | exact VSubs.nil | refine VSubs.cons (by first | exact VSub.refl _ | assumption | exact VSub.cap | exact VSub.any _) ?_))) (va) (on5.ok) fun r6 G6 n6 T6 m6 ids6 hq6 on6 => ?_
  obtain ⟨rfl, F3, rfl, hF3⟩ := hq6
  refine WpItems.evR (by simp only [go_sem, reduceIte, Nat.reduceEqDiff, Nat.reduceAdd, bx]; exact rfl) ?_
  have ok := on6.ok
  have sm3 := exF3.small (by decide)
  have g3 := get_r (S := exS3) hF3 sm3 [97] 2
  rw [ex8] at g3
  repeat (first
    | ((first | apply Wp.seqItemsR | apply Wp.itemsR | ((first
        | (refine WpItems.glook ?_ ?_ (g3) (by first | exact fun j o h => h | exact ok.sub (by simp) | assumption) (fun ids => ?_); (· simp only [go_sem, reduceIte, Nat.reduceEqDiff, Nat.reduceAdd, bx]); (· simp only [go_sem, reduceIte, Nat.reduceEqDiff, Nat.reduceAdd, bx, List.map]; first | exact VSubs.refl _ | (repeat (first | exact VSubs.nil | refine VSubs.cons (by first | exact VSub.refl _ | assumption | exact VSub.cap | exact VSub.any _) ?_))))); apply WpItems.evR)); (· simp only [go_sem, reduceIte, Nat.reduceEqDiff, Nat.reduceAdd, bx, ax, if_true, if_false, Nat.reduceMul, Nat.reduceLeDiff, ok]; exact rfl))
    | (refine WpItems.nil ⟨?_, ?_⟩; (· first | trivial | simp [pairsQ, pairsOk, apart, ent0]))
    | (apply Wp.cond_lit; (· simp only [go_sem, reduceIte, Nat.reduceEqDiff, Nat.reduceAdd, bx, ax, if_true, if_false, Nat.reduceMul, Nat.reduceLeDiff, ok]; exact rfl); (· rfl))
    | refine Wp.skip ?_
    | refine Wp.label ?_
    | refine Wp.block ?_
    | refine Wp.exit ?_
    | refine Wp.seq ?_)
  have it := items_g (S := exS3) hF3 exF3.ri sm3
  rw [ex9] at it
  refine WpItems.gkeep0 (by simp only [go_sem, reduceIte, Nat.reduceEqDiff, Nat.reduceAdd, bx]) (by simp only [go_sem, reduceIte, Nat.reduceEqDiff, Nat.reduceAdd, bx, List.map]; first | exact VSubs.refl _ | (repeat (first | exact VSubs.nil | refine VSubs.cons (by first | exact VSub.refl _ | assumption | exact VSub.cap | exact VSub.any _) ?_))) (it) (hF3.k) (on6.ok) fun n7 m7 ids7 on7 hids7 => ?_
  refine WpItems.evR (by simp only [go_sem, reduceIte, Nat.reduceEqDiff, Nat.reduceAdd, bx]; exact rfl) ?_
  have sp := samePr_p [⟨[98], [121]⟩] [⟨[98], [121]⟩] (by decide)
  rw [decide_eq_true rfl] at sp
  have i1 : (0 : Int) ≤ 0 ∧ (0 : Int) < ((1 : Nat) : Int) := by decide
  have t0 : Int.toNat 0 = 0 := rfl
  have d0 : decide ((0 : Int) = 0) = true := rfl
  have d1 : decide (([120] : List UInt8) = [120]) = true := rfl
  have d2 : decide (([98] : List UInt8) = [98]) = true := rfl
  have d3 : decide ((12 : Int) = 12) = true := rfl
  have d4 : decide ((7 : Int) = 7) = true := rfl
  have d5 : decide (((1 : Nat) : Int) = 1) = true := rfl
  repeat (first
    | ((first | apply Wp.seqItemsR | apply Wp.itemsR | ((first
        | (refine WpItems.pcall ?_ ?_ (sp) ?_; (· simp only [go_sem, reduceIte, Nat.reduceEqDiff, Nat.reduceAdd, bx]); (· simp only [go_sem, reduceIte, Nat.reduceEqDiff, Nat.reduceAdd, bx, List.map]; first | exact VSubs.refl _ | (repeat (first | exact VSubs.nil | refine VSubs.cons (by first | exact VSub.refl _ | assumption | exact VSub.cap | exact VSub.any _) ?_))))); apply WpItems.evR)); (· simp only [go_sem, reduceIte, Nat.reduceEqDiff, Nat.reduceAdd, bx, ax, if_true, if_false, Nat.reduceMul, Nat.reduceLeDiff, List.map_cons, List.map_nil, List.length_cons, List.length_nil, Nat.zero_add, encI, vAV, d0, d1, d2, d3, d4, d5, i1, t0, List.getD_cons_zero]; exact rfl))
    | (refine WpItems.nil ⟨?_, ?_⟩; (· first | trivial | simp [pairsQ, pairsOk, apart, ent0]))
    | (apply Wp.cond_lit; (· simp only [go_sem, reduceIte, Nat.reduceEqDiff, Nat.reduceAdd, bx, ax, if_true, if_false, Nat.reduceMul, Nat.reduceLeDiff, List.map_cons, List.map_nil, List.length_cons, List.length_nil, Nat.zero_add, encI, vAV, d0, d1, d2, d3, d4, d5, i1, t0, List.getD_cons_zero]; exact rfl); (· rfl))
    | refine Wp.skip ?_
    | refine Wp.label ?_
    | refine Wp.block ?_
    | refine Wp.exit ?_
    | refine Wp.seq ?_)
  refine Wp.ret ⟨trivial, _, rfl, ?_⟩
  simp only [go_sem, reduceIte, Nat.reduceEqDiff, Nat.reduceAdd, bx]
  exact VSub.refl _
end Go.Proofs.Ytpehfflehebmbaa.Space
end
section
set_option linter.unusedVariables false
set_option linter.unusedSimpArgs false
namespace Go.Av
open Go.ChangeShapes Go.WideShapes Go.ChangeAt Go.RowKit
section
variable {H : Type} {enc : TypeId × Value → H} {P : Program} {w : World}
def G0 : Ghost := ⟨fun _ => False, fun _ => 0, fun _ => False, fun _ => none, fun _ => False, fun _ => none⟩
def wrapE (P : Program) (e : TypeId) (cs : List AV) : AV := if isAggT P e then .agg cs else cs.headD .any
/- how many values and letters stand in a value -/
mutual
def bulkA : AV → Nat
  | .int _ _ => 1
  | .bool _ => 1
  | .str l => l.length + 1
  | .sl _ xs _ => bulkAs xs + 1
  | .agg cs => bulkAs cs
  | _ => 0
def bulkAs : List AV → Nat
  | [] => 0
  | x :: xs => bulkA x + bulkAs xs
end
theorem bulkAs_append : ∀ l m : List AV, bulkAs (l ++ m) = bulkAs l + bulkAs m
  | [], m => by simp [bulkAs]
  | x :: l, m => by simp [bulkAs, bulkAs_append l m]; omega
theorem bulk_wrap (P : Program) (e : TypeId) (cs : List AV) : bulkA (wrapE P e cs) ≤ bulkAs cs := by
  unfold wrapE
  split
  · simp [bulkA]
  · cases cs with
    | nil => simp [bulkA, bulkAs]
    | cons x cs => simp [bulkAs]
structure Bulk (B : DataW H → Nat) (BL : List (DataW H) → Nat) : Prop where
  str : ∀ l, B (.lit (.string l)) = l.length + 1
  int : ∀ k n, B (.lit (.int k n)) = 1
  bool : ∀ b, B (.lit (.bool b)) = 1
  nil : B .nil = 1
  slice : ∀ a b, B (.slice a b) = BL a + BL b + 1
  agg : ∀ a, B (.agg a) = BL a + 1
  nils : BL [] = 0
  cons : ∀ d l, BL (d :: l) = B d + BL l
theorem Bulk.snoc {B : DataW H → Nat} {BL : List (DataW H) → Nat} (hB : Bulk B BL) : ∀ (l : List (DataW H)) (d : DataW H), BL (l ++ [d]) = BL l + B d
  | [], d => by simp [hB.cons, hB.nils]
  | x :: l, d => by simp [hB.cons, Bulk.snoc hB l d]; omega
theorem Bulk.take {B : DataW H → Nat} {BL : List (DataW H) → Nat} (hB : Bulk B BL) : ∀ (l : List (DataW H)) (m : Nat), BL (l.take m) ≤ BL l
  | [], m => by simp
  | x :: l, 0 => by simp [hB.nils]
  | x :: l, m + 1 => by simp [hB.cons, Bulk.take hB l m]
theorem weights_mem_all {P : Program} {e : TypeId} {n : Nat} : ∀ {l : List (DataW H)} {d : DataW H}, d ∈ l → n ∈ d.weights P e → n ∈ DataW.weightsAll P e l
  | x :: l, d, h, hn => by
    simp only [DataW.weightsAll, List.mem_append]
    rcases List.mem_cons.1 h with rfl | h
    · exact .inl hn
    · exact .inr (weights_mem_all h hn)
inductive All2 {α β : Type} (R : α → β → Prop) : List α → List β → Prop
  | nil : All2 R [] []
  | cons {a b l m} : R a b → All2 R l m → All2 R (a :: l) (b :: m)
def Fits (P : Program) : Nat → TypeId → List AV → Prop
  | 0, _, _ => False
  | k + 1, t, xs => match P.underlying t with
    | some .bool => ∃ b, xs = [.bool b]
    | some (.int q) => ∃ n, xs = [.int q n] ∧ (Lit.int q n).wf = true
    | some .string => ∃ l, xs = [.str l] ∧ l.length ≤ reachBytes
    | some (.slice e) => ∃ ys, xs = [.sl (P.cellsOf e) ys .any] ∧ ys.length * P.bytesOf e ≤ reachBytes ∧ ∀ y ∈ ys, ∃ cs, Fits P k e cs ∧ y = wrapE P e cs
    | some (.struct fs) => ∃ xss, xs = xss.flatten ∧ All2 (fun (f : Field) cs => Fits P k f.type cs) fs.toList xss
    | _ => False
def plainT (P : Program) : Nat → TypeId → Bool
  | 0, _ => false
  | k + 1, t => match P.underlying t with
    | some .bool | some (.int _) | some .string => true
    | some (.slice e) => decide (e < P.types.size) && decide (0 < P.cellsOf e) && (isAggT P e || decide (P.cellsOf e = 1)) && plainT P k e
    | some (.struct fs) => decide (t < P.types.size) && fs.all fun f => plainT P k f.type
    | _ => false
theorem cell_spot {a : Addr} {v : Value} (h : w.cell? a = some v) : a.spot = none := by
  unfold World.cell? at h
  split at h
  · split at h
    · cases h
    · rename_i hs; cases hh : a.spot with
      | none => rfl
      | some x => simp [hh] at hs
  · cases h
theorem one_of_bool (b : Bool) : One (.bool b) := ⟨fun _ => by simp, fun _ => by simp⟩
theorem one_of_int (k : IntKind) (n : Int) : One (.int k n) := ⟨fun _ => by simp, fun _ => by simp⟩
theorem one_of_str (s : ByteArray) : One (.string s) := ⟨fun _ => by simp, fun _ => by simp⟩
theorem one_of_sl (a : Option Addr) (l c : Nat) : One (.slice a l c) := ⟨fun _ => by simp, fun _ => by simp⟩
theorem fields_split {R : Field → List AV → Prop} {G : Ghost} {B : DataW H → Nat} {BL : List (DataW H) → Nat} (hB : Bulk B BL) (full : List Value) (rd : Field → List Value → DataW H → Prop)
    (hrd : ∀ f cs d, rd f cs d → ∃ xs, R f xs ∧ VRels G w xs cs ∧ (∀ v ∈ cs, One v) ∧ bulkAs xs ≤ B d) : ∀ (fs : List Field) (ds : List (DataW H)) (off : Nat), ds.length = fs.length →
    (∀ (j : Nat) f, fs[j]? = some f → f.offset = off + ((fs.take j).map fun f => P.cellsOf f.type).sum) → full.length = off + (fs.map fun f => P.cellsOf f.type).sum →
    (∀ (j : Nat) f d, fs[j]? = some f → ds[j]? = some d → rd f ((full.drop f.offset).take (P.cellsOf f.type)) d) → ∃ xss, All2 R fs xss ∧ VRels G w xss.flatten (full.drop off) ∧ (∀ v ∈ full.drop off, One v) ∧ bulkAs xss.flatten ≤ BL ds
  | [], ds, off, hl, h1, h2, h3 => by
    have e : full.drop off = [] := List.drop_eq_nil_of_le (by simp at h2; omega)
    exact ⟨[], .nil, by rw [e]; exact .nil, by rw [e]; simp, by simp [bulkAs]⟩
  | f :: fs, [], off, hl, h1, h2, h3 => by cases hl
  | f :: fs, d :: ds, off, hl, h1, h2, h3 => by
    have o0 : f.offset = off := by simpa using h1 0 f rfl
    have hf := h3 0 f d rfl rfl
    rw [o0] at hf
    obtain ⟨xs, r1, r2, r3, r4⟩ := hrd f _ d hf
    obtain ⟨xss, q1, q2, q3, q4⟩ := fields_split hB full rd hrd fs ds (off + P.cellsOf f.type) (by simpa using hl) (fun j g hj => by
      have := h1 (j + 1) g (by simpa using hj)
      simp only [List.take_succ_cons, List.map_cons, List.sum_cons] at this; omega) (by simp only [List.map_cons, List.sum_cons] at h2; omega) (fun j g d' hg hd => h3 (j + 1) g d' (by simpa using hg) (by simpa using hd))
    have e : full.drop off = (full.drop off).take (P.cellsOf f.type) ++ full.drop (off + P.cellsOf f.type) := by
      rw [← List.drop_drop, List.take_append_drop]
    refine ⟨xs :: xss, .cons r1 q1, ?_, ?_, ?_⟩
    · rw [e, List.flatten_cons]; exact r2.append q2
    · rw [e]; intro v hv
      rcases List.mem_append.1 hv with hv | hv
      · exact r3 v hv
      · exact q3 v hv
    · rw [List.flatten_cons, bulkAs_append, hB.cons]; omega
theorem wrapE_rel {e : TypeId} {cs : List AV} {vs : List Value} (hs : vs.length = P.cellsOf e) (hr : VRels G0 w cs vs) (ho : ∀ v ∈ vs, One v) (hc : isAggT P e = false → P.cellsOf e = 1) :
    ∃ v : Value, v.cells.toList = vs ∧ VRel G0 w (wrapE P e cs) v := by
  unfold wrapE
  cases ha : isAggT P e with
  | true => exact ⟨.agg vs.toArray, by simp [Value.cells], by simp only [if_true, VRel]; exact ⟨vs, rfl, hr⟩⟩
  | false =>
    rw [hc ha] at hs
    obtain ⟨v, rfl⟩ := List.length_eq_one_iff.1 hs
    have hl := hr.length
    obtain ⟨x, rfl⟩ := List.length_eq_one_iff.1 (show cs.length = 1 by simpa using hl.symm)
    simp only [VRels] at hr
    obtain ⟨v', us, e1, hv, e2⟩ := hr
    cases e1
    refine ⟨v, ?_, by simpa using hv⟩
    have := ho v (by simp)
    cases v <;> first | rfl | exact absurd rfl (this.1 _) | exact absurd rfl (this.2 _)
theorem Fits.slice {k : Nat} {t e : TypeId} {ys : List AV} (ht : P.underlying t = some (.slice e)) (h1 : ys.length * P.bytesOf e ≤ reachBytes) (h2 : ∀ y ∈ ys, ∃ cs, Fits P k e cs ∧ y = wrapE P e cs) : Fits P (k + 1) t [.sl (P.cellsOf e) ys .any] := by
  unfold Fits; rw [ht]; exact ⟨ys, rfl, h1, h2⟩
theorem trod_fits (hl : laidOutB P = true) {B : DataW H → Nat} {BL : List (DataW H) → Nat} (hB : Bulk B BL) : ∀ (k : Nat) (t : TypeId), plainT P k t = true → ∀ (fuel : Nat) (cs : List Value) (x : DataW H × List MemPlace),
    DataW.trod enc P w 0 (fun _ => true) true fuel t cs = some x → (∀ n ∈ x.1.weights P t, n ≤ reachBytes) → ∃ xs, Fits P k t xs ∧ VRels G0 w xs cs ∧ (∀ v ∈ cs, One v) ∧ bulkAs xs ≤ B x.1 := by
  intro k
  induction k with
  | zero => intro t h; cases h
  | succ k ih =>
    intro t hp fuel cs x hx hwt
    simp only [plainT] at hp
    split at hp
    · rename_i ht
      obtain ⟨b, rfl, rfl⟩ := DataW.trod_bool ht hx
      exact ⟨[.bool b], by simp only [Fits, ht]; exact ⟨b, rfl⟩, .cons (by simp [VRel]) .nil, by simp [one_of_bool], by simp [hB.bool, bulkAs, bulkA]⟩
    · rename_i q ht
      obtain ⟨n, rfl, rfl, hw⟩ := DataW.trod_int ht hx
      exact ⟨[.int q n], by simp only [Fits, ht]; exact ⟨n, rfl, hw⟩, .cons (by simp [VRel]) .nil, by simp [one_of_int], by simp [hB.int, bulkAs, bulkA]⟩
    · rename_i ht
      obtain ⟨s, rfl, rfl, -⟩ := DataW.trod_string ht hx
      refine ⟨[.str s.data.toList], by simp only [Fits, ht]; exact ⟨_, rfl, hwt _ (by simp [DataW.weights])⟩, .cons (by simp [VRel]) .nil, by simp [one_of_str], by simp [hB.str, bulkAs, bulkA]⟩
    · rename_i e ht
      simp only [Bool.and_eq_true, decide_eq_true_eq] at hp
      obtain ⟨⟨⟨-, hsz⟩, hag⟩, hpe⟩ := hp
      rcases DataW.trod_slice ht hx with ⟨rfl, rfl⟩ | ⟨a, len, cap, elems, rest, n, rfl, rfl, rfl, hb, hlc, hcm, hel, hread, hrest, -⟩
      · refine ⟨[.sl (P.cellsOf e) [] .any], Fits.slice ht (by simp) (fun y hy => by cases hy), .cons ?_ .nil, by simp [one_of_sl], by simp [hB.nil, bulkAs, bulkA]⟩
        unfold VRel; exact .inl ⟨rfl, ⟨none, rfl⟩, trivial⟩
      · have hone : isAggT P e = false → P.cellsOf e = 1 := by
          intro ha
          simpa [ha] using hag
        -- the cells of each element
        have each : ∀ i, i < len → ∃ vs xs, w.cells? 0 (a.add (i * P.cellsOf e)) (P.cellsOf e) = some vs ∧ Fits P k e xs ∧ VRels G0 w xs vs ∧ (∀ v ∈ vs, One v) ∧ ∀ y, elems[i]? = some y → bulkAs xs ≤ B y.1 := by
          intro i hi
          have h := hread i hi
          rw [List.getElem?_eq_getElem (by omega)] at h
          obtain ⟨vs, h1, h2⟩ := Option.bind_eq_some_iff.1 h
          obtain ⟨xs, h3, h4, h5, h6⟩ := ih e hpe n vs _ h2 (fun m hm => hwt m (by
            simp only [DataW.weights, ht, List.mem_cons, List.mem_append]
            exact .inr (.inl (weights_mem_all (List.mem_map.2 ⟨_, List.getElem_mem (by omega), rfl⟩) hm))))
          exact ⟨vs, xs, h1, h3, h4, h5, fun y hy => by rw [List.getElem?_eq_getElem (by omega)] at hy; cases hy; exact h6⟩
        have build : ∀ m, m ≤ len → ∃ ys vs, ys.length = m ∧ vs.length = m * P.cellsOf e ∧ (∀ y ∈ ys, ∃ cs, Fits P k e cs ∧ y = wrapE P e cs) ∧ VElems G0 w (P.cellsOf e) ys vs ∧ (∀ (i : Nat) v, vs[i]? = some v → w.cell? (a.add i) = some v ∧ One v) ∧ bulkAs ys ≤ BL ((elems.map (·.1)).take m) := by
          intro m
          induction m with
          | zero => intro _; exact ⟨[], [], rfl, by simp, by simp, by simp [VElems], by simp, by simp [bulkAs]⟩
          | succ m ihm =>
            intro hm
            obtain ⟨ys, vs, k1, k2, k3, k4, k5, k6⟩ := ihm (by omega)
            obtain ⟨us, xs, e1, e2, e3, e4, eb⟩ := each m (by omega)
            obtain ⟨-, e5, e6⟩ := World.cells?_some e1
            obtain ⟨v, hv1, hv2⟩ := wrapE_rel e5 e3 e4 hone
            refine ⟨ys ++ [wrapE P e xs], vs ++ us, by simp [k1], by simp [k2, e5, Nat.add_mul], ?_, ?_, ?_, ?_⟩
            · intro y hy
              rcases List.mem_append.1 hy with hy | hy
              · exact k3 y hy
              · simp at hy; exact ⟨xs, e2, hy⟩
            · refine k4.append ?_
              simp only [VElems]
              exact ⟨v, [], by simp [hv1], by rw [← Array.length_toList, hv1, e5], hv2, rfl⟩
            · intro i z hz
              rcases Nat.lt_or_ge i vs.length with hi | hi
              · rw [List.getElem?_append_left hi] at hz; exact k5 i z hz
              · rw [List.getElem?_append_right hi] at hz
                have hlt : i - vs.length < us.length := (List.getElem?_eq_some_iff.1 hz).1
                have := e6 (i - vs.length) (by omega)
                rw [hz] at this
                have ea : (a.add (m * P.cellsOf e)).add (i - vs.length) = a.add i := by
                  rw [← k2]
                  unfold Addr.add
                  by_cases h0 : vs.length = 0
                  · simp [h0]
                  · by_cases h1 : i - vs.length = 0
                    · have : i = vs.length := by omega
                      subst this; simp
                    · have : i ≠ 0 := by omega
                      simp [h0, h1, this]; omega
                rw [ea] at this
                exact ⟨this, e4 z (List.mem_of_getElem? hz)⟩
            · have hlt : m < (elems.map (·.1)).length := by simp; omega
              rw [List.take_succ_eq_append_getElem hlt, hB.snoc, bulkAs_append]
              have h1 := eb _ (List.getElem?_eq_getElem (by omega))
              have h2 := bulk_wrap P e xs
              simp only [List.getElem_map, bulkAs]
              omega
        obtain ⟨ys, vs, k1, k2, k3, k4, k5, k6⟩ := build len (Nat.le_refl _)
        refine ⟨[.sl (P.cellsOf e) ys .any], Fits.slice ht ?_ k3, .cons ?_ .nil, by simp [one_of_sl], ?_⟩
        · have := hwt ((elems.length + rest.length) * P.bytesOf e) (by simp [DataW.weights, ht])
          exact Nat.le_trans (Nat.mul_le_mul_right _ (by omega)) this
        rotate_left
        · have := hB.take (elems.map (·.1)) len
          simp only [hB.slice, bulkAs, bulkA]
          omega
        unfold VRel
        by_cases hcap : cap = 0
        · have : ys = [] := List.length_eq_zero_iff.1 (by omega)
          exact .inl ⟨this, ⟨some a, by simp; omega⟩, by simp [CapNil]⟩
        · have hspot : a.spot = none := by
            by_cases hl0 : len = 0
            · obtain ⟨hr1, hr2⟩ := hrest rfl
              have h := hr2 0 (by omega)
              rw [List.getElem?_eq_getElem (by omega)] at h
              obtain ⟨vs', h1, h2⟩ := Option.bind_eq_some_iff.1 h
              obtain ⟨-, g1, g2⟩ := World.cells?_some h1
              have := g2 0 hsz
              rw [List.getElem?_eq_getElem (by omega)] at this
              have := cell_spot this
              simpa [hl0, Addr.add] using this
            · obtain ⟨us, xs, e1, e2, e3, e4, -⟩ := each 0 (by omega)
              obtain ⟨-, g1, g2⟩ := World.cells?_some e1
              have := g2 0 hsz
              rw [List.getElem?_eq_getElem (by omega)] at this
              have := cell_spot this
              simpa [Addr.add] using this
          obtain ⟨B, off, sp⟩ := a
          simp only at hspot
          subst hspot
          refine .inr ⟨B, off, cap, vs, by simp [k1], by omega, by rw [k2, k1], k4, fun i v hv => ?_, by simp [CapOk]⟩
          obtain ⟨c1, c2⟩ := k5 i v hv
          rw [add_plain] at c1
          exact ⟨c1, c2, by simp [G0], by simp [G0]⟩
    · rename_i fs ht
      simp only [Bool.and_eq_true, decide_eq_true_eq] at hp
      obtain ⟨hlt, hp⟩ := hp
      rw [Array.all_eq_true_iff_forall_mem] at hp
      obtain ⟨xs, n, rfl, rfl, hlen, hxl, hread⟩ := DataW.trod_struct ht hx
      obtain ⟨-, hsum, hoff⟩ := kid_struct hl hlt ht
      obtain ⟨xss, q1, q2, q3, q4⟩ := fields_split (P := P) (R := fun (f : Field) cs => Fits P k f.type cs) (G := G0) (w := w) hB cs
        (fun f us d => plainT P k f.type = true ∧ ∃ y, DataW.trod enc P w 0 (fun _ => true) true n f.type us = some y ∧ y.1 = d ∧ ∀ m ∈ d.weights P f.type, m ≤ reachBytes)
        (fun f us d ⟨h1, y, h2, h3, h4⟩ => by subst h3; exact ih f.type h1 n us y h2 h4) fs.toList (xs.map (·.1)) 0 (by simp [hxl]) (fun j f hj => by rw [hoff j f hj]; omega) (by rw [hlen, hsum]; omega)
        (fun i f d hi hd => by
          refine ⟨hp f (by have := List.mem_of_getElem? hi; simpa using this), ?_⟩
          have h := hread i f (by simpa using hi)
          rw [List.getElem?_map] at hd
          cases hxi : xs[i]? with
          | none => rw [hxi] at hd; cases hd
          | some y =>
            rw [hxi] at h hd
            refine ⟨y, h, by simpa using hd, fun m hm => hwt m ?_⟩
            simp only [DataW.weights, ht]
            exact DataW.weights_mem_each (j := i) (t := f.type) (d := d) (by rw [List.getElem?_map, hi]; rfl) (by rw [List.getElem?_map, hxi]; exact hd) m hm)
      refine ⟨xss.flatten, by simp only [Fits, ht]; exact ⟨xss, rfl, q1⟩, by simpa using q2, by simpa using q3, ?_⟩
      rw [hB.agg]; omega
    · cases hp
def ArgFits (P : Program) (k : Nat) (t : TypeId) (a : AV) : Prop := ∃ cs, Fits P k t cs ∧ a = wrapE P t cs
theorem arg_rel {k : Nat} {t : TypeId} {v : Value} {xs : List AV} {base : Nat} (hp : plainT P k t = true) (hok : Value.okWide P w .any base t v) (hr : VRels G0 w xs v.cells.toList) (ho : ∀ u ∈ v.cells.toList, One u) : VRel G0 w (wrapE P t xs) v := by
  unfold wrapE
  cases ha : isAggT P t with
  | true =>
    have : ∃ cs, v = .agg cs := by
      unfold isAggT at ha
      unfold Value.okWide at hok
      split at ha
      · rename_i h; rw [h] at hok; obtain ⟨cs, h, -⟩ := hok; exact ⟨cs, h⟩
      · rename_i h; rw [h] at hok; obtain ⟨cs, h, -⟩ := hok; exact ⟨cs, h⟩
      · cases ha
    obtain ⟨cs, rfl⟩ := this
    simp only [if_true, VRel]
    exact ⟨cs.toList, by simp, by simpa [Value.cells] using hr⟩
  | false =>
    have hv : v.cells = #[v] := by
      cases v <;> try rfl
      exfalso
      cases k with
      | zero => cases hp
      | succ k =>
        unfold plainT at hp
        unfold isAggT at ha
        unfold Value.okWide Cell.okWide Cell.ok at hok
        split at hp
        all_goals (try (rename_i h; rw [h] at hok ha; simp at hok ha; done))
        all_goals (try (rename_i h; rw [h] at hok ha; simp at hok; done))
        all_goals simp_all
    rw [hv] at hr
    have hl := hr.length
    obtain ⟨x, rfl⟩ := List.length_eq_one_iff.1 (show xs.length = 1 by simpa using hl.symm)
    simp only [VRels] at hr
    obtain ⟨v', us, e1, hx, e2⟩ := hr
    cases e1
    simpa using hx
theorem args_fit (hl : laidOutB P = true) {B : DataW H → Nat} {BL : List (DataW H) → Nat} (hB : Bulk B BL) {k : Nat} {base : Nat} : ∀ {ts us : List TypeId} {vs : List Value} {ds : List (DataW H)} {ps : List MemPlace}, (∀ t ∈ ts, plainT P k t = true) →
    (∀ (j : Nat) t v, ts[j]? = some t → vs[j]? = some v → Value.okWide P w .any base t v) → (∀ n ∈ DataW.weightsEach P (ts ++ us) ds, n ≤ reachBytes) → DataW.TrodAll enc P w 0 (fun _ => true) true ts vs ds ps → ∃ avs, All2 (ArgFits P k) ts avs ∧ VRels G0 w avs vs ∧ bulkAs avs ≤ BL ds
  | [], us, [], [], _, _, _, _, _ => ⟨[], .nil, .nil, by simp [bulkAs]⟩
  | t :: ts, us, v :: vs, d :: ds, _, hp, hok, hwt, ⟨p, q, ⟨fuel, h1⟩, h2, _⟩ => by
    obtain ⟨xs, f1, f2, f3, f4⟩ := trod_fits hl hB k t (hp t (by simp)) fuel _ _ h1 (fun n hn => hwt n (by simp only [List.cons_append, DataW.weightsEach, List.mem_append]; exact .inl hn))
    obtain ⟨avs, g1, g2, g3⟩ := args_fit hl hB (us := us) (fun t ht => hp t (by simp [ht])) (fun j t v a b => hok (j + 1) t v (by simpa using a) (by simpa using b)) (fun n hn => hwt n (by simp only [List.cons_append, DataW.weightsEach, List.mem_append]; exact .inr hn)) h2
    refine ⟨wrapE P t xs :: avs, .cons ⟨xs, f1, rfl⟩ g1, .cons (arg_rel (hp t (by simp)) (hok 0 t v rfl rfl) f2 f3) g2, ?_⟩
    have := bulk_wrap P t xs
    simp only [bulkAs, hB.cons] at f4 ⊢
    omega
theorem trodAll_len {sp : Nat → Bool} : ∀ {ts : List TypeId} {vs : List Value} {ds : List (DataW H)} {ps : List MemPlace}, DataW.TrodAll enc P w 0 sp true ts vs ds ps → ds.length = ts.length
  | [], [], [], _, h => rfl
  | t :: ts, v :: vs, d :: ds, _, ⟨p, q, h1, h2, e⟩ => by simp [trodAll_len h2]
theorem trodAll_carry {w' : World} {sp : Nat → Bool} : ∀ {ts : List TypeId} {vs : List Value} {ds : List (DataW H)} {ps : List MemPlace}, DataW.TrodAll enc P w 0 sp true ts vs ds ps → (∀ p ∈ ps, w.sameAt w' p) → DataW.TrodAll enc P w' 0 sp true ts vs ds ps
  | [], [], [], _, h, _ => h
  | t :: ts, v :: vs, d :: ds, _, ⟨p, q, ⟨fuel, h1⟩, h2, e⟩, hs => by
    subst e
    exact ⟨p, q, ⟨fuel, DataW.trod_carry fuel _ _ _ h1 (fun x hx => hs x (List.mem_append_left _ hx))⟩, trodAll_carry h2 (fun x hx => hs x (List.mem_append_right _ hx)), rfl⟩
theorem calls_row (hl : laidOutB P = true) {B : DataW H → Nat} {BL : List (DataW H) → Nat} (hB : Bulk B BL) (hm : mapsRowed P = true) (hz : ∀ t e, t < P.types.size → P.underlying t = some (.slice e) → 0 < P.cellsOf e) {f : FuncId} {fn : Func} {s : ChangeSpec} {k base : Nat} {W : World} {args : Array Value} {ds gs : List (DataW H)} {before : List MemPlace} {tb : TypeId}
    (hvars : s.vars = []) (hfn : ∀ l : List (DataW H), l.length = fn.params.size → s.fn H l = { results := [.lit (.bool true)], args := l }) (hrt : fn.resultTypes = #[tb]) (htb : P.underlying tb = some .bool)
    (hpl' : fn.params.toList.all (plainT P k) = true) (hlt' : fn.params.toList.all (fun t => decide (t < P.types.size)) = true)
    (hval : ∀ (j : Nat) t v, fn.params[j]? = some t → args[j]? = some v → Value.okWide P W .any base t v) (hW : DataW.Whole enc P fn.params.toList s.vars false W args.toList ds gs before)
    {us : List TypeId} (hwt : (DataW.weightsEach P (fn.params.toList ++ us) (ds ++ gs)).all (· ≤ reachBytes) = true)
    (law : ∀ avs, All2 (ArgFits P k) fn.params.toList avs → bulkAs avs ≤ BL (ds ++ gs) → PCalls P f avs (.bool true)) :
    Calls P f args W fun e W' => ∃ v, e = .returned v ∧ s.post enc P fn false true false false W args v W' := by
  have hpl : ∀ t ∈ fn.params.toList, plainT P k t = true := List.all_eq_true.1 hpl'
  have hlt : ∀ t ∈ fn.params.toList, t < P.types.size := fun t ht => of_decide_eq_true (List.all_eq_true.1 hlt' t ht)
  have hW' := hW
  obtain ⟨p, q, hA, hV, rfl, -, -⟩ := hW
  rw [hvars] at hV
  obtain ⟨rfl, rfl⟩ := trodVars_none hV
  rw [List.append_nil] at hwt law
  obtain ⟨avs, g1, g2, g3⟩ := args_fit hl hB hpl (fun j t v a b => hval j t v (by simpa using a) (by simpa using b)) (fun n hn => of_decide_eq_true (List.all_eq_true.1 hwt n hn)) hA
  have hlaw := law avs g1 g3 0 0 G0 W args.toList g2 only_rep ⟨fun _ _ _ h => h, fun _ _ _ h => h⟩
  rw [show args.toList.toArray = args from Array.toArray_toList] at hlaw
  refine hlaw.mono ?_
  rintro e W' ⟨v, G', he, T, -, hv⟩
  subst he
  simp only [VRel] at hv
  subst hv
  have keep : ∀ B, B < W.heap.size → W'.heap[B]? = W.heap[B]? := fun B hB => T.keep B hB (fun x => only_O B x) (fun ⟨t, ht, _⟩ => by simp [H0, Av.H.only] at ht)
  have hlt' : ∀ x ∈ p, x.block < W.heap.size := DataW.TrodAll.lt hA
  have hlen := trodAll_len hA
  refine ⟨_, rfl, ds, [], p ++ [], [], p, [], hW', ?_, ?_, ?_, ?_, fun h => by cases h⟩
  · rw [hfn _ (by simpa using hlen), hrt]
    exact trodAll_mk1 (shut_bool htb _)
  · rw [hfn _ (by simpa using hlen)]
    have := DataW.TrodAll.respare (kids_rows hl hm) hz (spare' := fun b => decide (b < W.heap.size)) hlt hA (fun x hx => by simpa using hlt' x hx)
    simp only [List.append_nil]
    refine trodAll_carry this fun x hx => ?_
    have hb := hlt' x hx
    cases x with
    | cell b off => unfold World.sameAt World.cell?; simp only; rw [keep b hb]
    | map b => exact keep b hb
  · rw [hvars, hfn _ (by simpa using hlen)]
    rfl
  · refine ⟨T.os, T.output, fun i hi => ?_⟩
    rw [keep i hi]
    generalize W.heap[i]? = o
    cases o with
    | none => rfl
    | some o => cases o <;> simp
end
end Go.Av
end
section
set_option linter.unusedSimpArgs false
set_option linter.unusedVariables false
set_option maxRecDepth 100000
namespace Go.Proofs.Ytpehfflehebmbaa.Space
open Go Go.Av Go.Proofs Go.Proofs.Ytpehfflehebmbaa.C Go.Proofs.Ytpehfflehebmbaa.Batch
theorem laid : laidOutB Try.prog = true := by kernel_rfl
theorem rowed : mapsRowed Try.prog = true := by kernel_rfl
theorem full : ∀ t e, t < Try.prog.types.size → Try.prog.underlying t = some (.slice e) → 0 < Try.prog.cellsOf e := slices_full_of Try.prog (by kernel_rfl)
theorem own : ownKnob Try.prog.godebug = none := by kernel_rfl
theorem bulk {H : Type} : Bulk (H := H) Rows.uptoBulk Rows.uptoBulkAll :=
  ⟨fun l => by simp [Rows.uptoBulk], fun k n => by simp [Rows.uptoBulk], fun b => by simp [Rows.uptoBulk], by simp [Rows.uptoBulk], fun a b => by simp [Rows.uptoBulk], fun a => by simp [Rows.uptoBulk], by simp [Rows.uptoBulkAll], fun d l => by simp [Rows.uptoBulkAll]⟩
theorem open_str {a : AV} (h : ArgFits Try.prog 5 9 a) : ∃ l, a = .str l ∧ l.length ≤ reachBytes := by
  obtain ⟨cs, h, rfl⟩ := h
  unfold Fits at h
  rw [Try.underlying9] at h
  obtain ⟨l, rfl, hl⟩ := h
  refine ⟨l, ?_, hl⟩
  unfold wrapE; rw [if_neg (by rw [show isAggT Try.prog 9 = false by kernel_rfl]; simp)]; rfl
theorem open_i {a : AV} (h : ArgFits Try.prog 5 3 a) : ∃ n, a = .int .i64 n ∧ (Lit.int .i64 n).wf = true := by
  obtain ⟨cs, h, rfl⟩ := h
  unfold Fits at h
  rw [Try.underlying3] at h
  obtain ⟨l, rfl, hl⟩ := h
  refine ⟨l, ?_, hl⟩
  unfold wrapE; rw [if_neg (by rw [show isAggT Try.prog 3 = false by kernel_rfl]; simp)]; rfl
theorem all_of {α : Type} {t : TypeId} {k : Nat} {enc : α → AV} {Q : α → Prop} (h1 : ∀ cs, Fits Try.prog k t cs → ∃ x, wrapE Try.prog t cs = enc x ∧ Q x) : ∀ {ys : List AV}, (∀ y ∈ ys, ∃ cs, Fits Try.prog k t cs ∧ y = wrapE Try.prog t cs) → ∃ l : List α, ys = l.map enc ∧ ∀ x ∈ l, Q x
  | [], _ => ⟨[], rfl, by simp⟩
  | y :: ys, h => by
    obtain ⟨l, rfl, hl⟩ := all_of h1 (ys := ys) (fun z hz => h z (by simp [hz]))
    obtain ⟨cs, g1, g2⟩ := h y (by simp)
    obtain ⟨x, e, q⟩ := h1 cs g1
    refine ⟨x :: l, by simp [g2, e], fun z hz => ?_⟩
    rcases List.mem_cons.1 hz with rfl | hz
    · exact q
    · exact hl z hz
theorem row_len {n b : Nat} (hb : 8 ≤ b) (h : n * b ≤ reachBytes) : n ≤ 35184372088832 := by
  have : n * 8 ≤ n * b := Nat.mul_le_mul_left n hb
  have e : reachBytes = 140737488351232 := rfl
  omega
def ChOk (c : Ch) : Prop := c.k.length ≤ reachBytes ∧ c.v.length ≤ reachBytes
theorem change_fits {k : Nat} {cs : List AV} (h : Fits Try.prog (k + 2) 103 cs) : ∃ p : Ch, wrapE Try.prog 103 cs = encCh p ∧ ChOk p := by
  have hw : ∀ cs, wrapE Try.prog 103 cs = .agg cs := fun cs => by
    unfold wrapE; rw [if_pos (by kernel_rfl)]
  rw [hw]
  unfold Fits at h
  rw [Try.underlying103] at h
  obtain ⟨xss, rfl, h⟩ := h
  cases h with | cons h0 h => cases h with | cons h1 h => cases h with | cons h2 h =>
  cases h
  unfold Fits at h0 h1 h2
  simp only at h0 h1 h2
  rw [Try.underlying9] at h0 h1
  rw [Try.underlying4] at h2
  obtain ⟨n, rfl, hn⟩ := h0
  obtain ⟨v, rfl, hv⟩ := h1
  obtain ⟨d, rfl⟩ := h2
  exact ⟨⟨n, v, d⟩, rfl, hn, hv⟩
theorem changes_fits {k : Nat} {cs : List AV} (h : Fits Try.prog (k + 3) 27 cs) : ∃ l : List Ch, wrapE Try.prog 27 cs = .sl 3 (chs l) .any ∧ cs = [.sl 3 (chs l) .any] ∧ l.length ≤ 35184372088832 ∧ ∀ c ∈ l, ChOk c := by
  unfold Fits at h
  rw [Try.underlying27] at h
  obtain ⟨xs, rfl, hlx, hx⟩ := h
  obtain ⟨l, rfl, hl⟩ := all_of (fun cs h => change_fits h) hx
  have c1 : Try.prog.cellsOf 103 = 3 := by kernel_rfl
  have c2 : Try.prog.bytesOf 103 = 40 := by kernel_rfl
  rw [List.length_map, c2] at hlx
  refine ⟨l, ?_, by rw [c1]; rfl, row_len (by decide) hlx, hl⟩
  unfold wrapE; rw [if_neg (by rw [show isAggT Try.prog 27 = false by kernel_rfl]; simp), c1]; rfl
structure Act where
  k : Int
  t : Int
  l : List Ch
instance : Inhabited Act := ⟨⟨0, 0, []⟩⟩
def encA (a : Act) : AV := .agg [.int .i64 a.k, .int .i64 a.t, .sl 3 (chs a.l) .any]
def ActOk (a : Act) : Prop := (Lit.int .i64 a.k).wf = true ∧ (Lit.int .i64 a.t).wf = true ∧ a.l.length ≤ 35184372088832 ∧ ∀ c ∈ a.l, ChOk c
theorem act_fits {k : Nat} {cs : List AV} (h : Fits Try.prog (k + 4) 65 cs) : ∃ p : Act, wrapE Try.prog 65 cs = encA p ∧ ActOk p := by
  have hw : ∀ cs, wrapE Try.prog 65 cs = .agg cs := fun cs => by
    unfold wrapE; rw [if_pos (by kernel_rfl)]
  rw [hw]
  unfold Fits at h
  rw [Try.underlying65] at h
  obtain ⟨xss, rfl, h⟩ := h
  cases h with | cons h0 h => cases h with | cons h1 h => cases h with | cons h2 h =>
  cases h
  unfold Fits at h0 h1
  simp only at h0 h1 h2
  rw [Try.underlying3] at h0 h1
  obtain ⟨n, rfl, hn⟩ := h0
  obtain ⟨v, rfl, hv⟩ := h1
  obtain ⟨l, -, rfl, h3, h4⟩ := changes_fits h2
  exact ⟨⟨n, v, l⟩, rfl, hn, hv, h3, h4⟩
theorem open_acts {a : AV} (h : ArgFits Try.prog 5 60 a) : ∃ l : List Act, a = .sl 3 (l.map encA) .any ∧ l.length ≤ 35184372088832 ∧ ∀ p ∈ l, ActOk p := by
  obtain ⟨cs, h, rfl⟩ := h
  unfold Fits at h
  rw [Try.underlying60] at h
  obtain ⟨xs, rfl, hlx, hx⟩ := h
  obtain ⟨l, rfl, hl⟩ := all_of (fun cs h => act_fits h) hx
  have c1 : Try.prog.cellsOf 65 = 3 := by kernel_rfl
  have c2 : Try.prog.bytesOf 65 = 40 := by kernel_rfl
  rw [List.length_map, c2] at hlx
  refine ⟨l, ?_, row_len (by decide) hlx, hl⟩
  unfold wrapE; rw [if_neg (by rw [show isAggT Try.prog 60 = false by kernel_rfl]; simp), c1]; rfl
end Go.Proofs.Ytpehfflehebmbaa.Space
end
section
set_option linter.unusedSimpArgs false
set_option linter.unusedVariables false
set_option maxRecDepth 10000
namespace Go.Proofs.Ytpehfflehebmbaa.Space
open Go Go.Av Go.Proofs Go.Proofs.Ytpehfflehebmbaa.C Go.Proofs.Ytpehfflehebmbaa.Batch
theorem acts_pure (l : List Act) : allPure (l.map encA) = true := Av.allPure_map (fun a => by simp [encA, isPure, allPure, capPure, chs_pure]) l
def cntA (l : List Act) : Nat := (l.map fun a => 1 + a.l.length).sum
theorem cntA_snoc {l : List Act} {j : Nat} (h : j < l.length) : cntA (l.take (j + 1)) = cntA (l.take j) + 1 + (l.getD j default).l.length := by
  rw [take_snoc default h, cntA, List.map_append, List.sum_append]; simp [cntA]; omega
def chFew (c : Ch) : Bool := decide ((c.k.length : Int) ≤ 1000) && decide ((c.v.length : Int) ≤ 1000)
def fewAt (l : List Act) (i : Nat) : Bool := decide (cntA (l.take (i + 1)) ≤ 200) && decide (-100 ≤ (l.getD i default).t) && decide ((l.getD i default).t ≤ 1099511627776) && (l.getD i default).l.all chFew
def fewB (l : List Act) : Bool := (List.range l.length).all (fewAt l)
theorem allL_no {α : Type} [Inhabited α] {l : List α} {f : α → Bool} {i : Nat} (h : i < l.length) (hf : f (l.getD i default) = false) : l.all f = false := by
  rw [getD_el h] at hf
  exact List.all_eq_false.2 ⟨_, List.getElem_mem h, by simp [hf]⟩
theorem allL_yes {α : Type} [Inhabited α] {l : List α} {f : α → Bool} (h : ∀ i, i < l.length → f (l.getD i default) = true) : l.all f = true := by
  refine List.all_eq_true.2 fun x hx => ?_
  obtain ⟨i, hi, rfl⟩ := List.mem_iff_getElem.1 hx
  have := h i hi
  rwa [getD_el hi] at this
set_option maxHeartbeats 2000000 in
theorem few_p (l : List Act) (hl : l.length ≤ 35184372088832) (hv : ∀ a ∈ l, a.l.length ≤ 35184372088832) : PCalls Try.prog 30 [.sl 3 (l.map encA) .any] (.bool (fewB l)) := by
  refine f30.pcalls0 (by simp) (by simp [allPure, isPure, capPure, acts_pure]) rfl ?_
  unfold c30
  have hil : (l.map encA).length = l.length := by simp
  repeat (first
    | ((first | apply Wp.seqItemsR | apply Wp.itemsR); (· simp only [go_sem, reduceIte, Nat.reduceEqDiff, Nat.reduceAdd, bx, ax, if_true, if_false, Nat.reduceMul, Nat.reduceLeDiff, hil]; exact rfl))
    | (refine WpItems.nil ⟨?_, ?_⟩; (· first | trivial | simp [pairsQ, pairsOk, apart, ent0]))
    | (apply Wp.cond_lit; (· simp only [go_sem, reduceIte, Nat.reduceEqDiff, Nat.reduceAdd, bx, ax, if_true, if_false, Nat.reduceMul, Nat.reduceLeDiff, hil]; exact rfl); (· rfl))
    | refine Wp.skip ?_
    | refine Wp.label ?_
    | refine Wp.block ?_
    | refine Wp.exit ?_
    | refine Wp.seq ?_)
  refine Wp.loopK [0] (by simp only [go_sem, reduceIte, Nat.reduceEqDiff, Nat.reduceAdd, bx, List.map]; exact rfl) (fun j : Nat => [(3, .int .i64 (cntA (l.take j) : Nat)), (4, .int .i64 (j : Nat))]) (fun j => j ≤ l.length ∧ cntA (l.take j) ≤ 200 ∧ ∀ i, i < j → fewAt l i = true) (fun j => l.length - j) 0 ⟨Nat.zero_le _, by simp [cntA], fun i h => absurd h (by omega)⟩ ?_ ?_
  · simp only [AllSub, go_sem, reduceIte, Nat.reduceEqDiff, Nat.reduceAdd, bx, List.take_zero, cntA, List.map_nil, List.sum_nil, Int.ofNat_zero]; and_intros <;> first | exact trivial | exact VSub.refl _ | exact VSub.any _ | (refine VSub.int ?_; omega)
  rintro j ⟨hj, hcn, hs⟩
  by_cases hcj : j < l.length
  · have g1 : decide (((j : Nat) : Int) < ((l.length : Nat) : Int)) = true := decide_eq_true (by omega)
    have h2 : (0 : Int) ≤ ((j : Nat) : Int) := by omega
    have h3 : ((j : Nat) : Int) < ((l.length : Nat) : Int) := by omega
    have e1 : IntKind.i64.wrap (((j : Nat) : Int) + 1) = ((j + 1 : Nat) : Int) := by rw [IntWalk.i64_in _ (by omega)]; omega
    have hat := enc_at encA l j .any hcj
    have no : fewAt l j = false → fewB l = false := fun h => by rw [fewB, all_no hcj h]
    have def0 : fewAt l j = (decide (cntA (l.take (j + 1)) ≤ 200) && decide (-100 ≤ (l.getD j default).t) && decide ((l.getD j default).t ≤ 1099511627776) && (l.getD j default).l.all chFew) := rfl
    have hsn := cntA_snoc hcj
    have hvx := hv (l.getD j default) (by rw [getD_el hcj]; exact List.getElem_mem hcj)
    generalize hC : cntA (l.take (j + 1)) = C at *
    generalize cntA (l.take j) = D at *
    generalize l.getD j default = x at *
    have w1 : IntKind.i64.wrap ((D : Int) + 1) = ((D + 1 : Nat) : Int) := by rw [IntWalk.i64_in _ (by omega)]; omega
    have w2 : IntKind.i64.wrap (((D + 1 : Nat) : Int) + (x.l.length : Int)) = (C : Int) := by rw [IntWalk.i64_in _ (by omega)]; omega
    by_cases q1 : 200 < (C : Int)
    · have d1 := decide_eq_true q1
      have hf := no (by rw [def0, decide_eq_false (show ¬ C ≤ 200 by omega)]; rfl)
      repeat (first
        | ((first | apply Wp.seqItemsR | apply Wp.itemsR); (· simp only [go_sem, reduceIte, Nat.reduceEqDiff, Nat.reduceAdd, bx, ax, if_true, if_false, Nat.reduceMul, Nat.reduceLeDiff, g1, h2, h3, hat, hil, encA, chs_length, w1, w2, d1]; exact rfl))
        | (refine WpItems.nil ⟨?_, ?_⟩; (· first | trivial | simp [pairsQ, pairsOk, apart, ent0]))
        | (apply Wp.cond_lit; (· simp only [go_sem, reduceIte, Nat.reduceEqDiff, Nat.reduceAdd, bx, ax, if_true, if_false, Nat.reduceMul, Nat.reduceLeDiff, g1, h2, h3, hat, hil, encA, chs_length, w1, w2, d1]; exact rfl); (· rfl))
        | refine Wp.skip ?_
        | refine Wp.label ?_
        | refine Wp.block ?_
        | refine Wp.exit ?_
        | refine Wp.seq ?_)
      refine Wp.ret ⟨trivial, _, rfl, ?_⟩
      simp only [go_sem, reduceIte, Nat.reduceEqDiff, Nat.reduceAdd, bx]
      rw [hf]; exact VSub.refl _
    have d1 := decide_eq_false q1
    by_cases q2 : x.t < -100
    · have d2 := decide_eq_true q2
      have hf := no (by rw [def0, decide_eq_false (show ¬ -100 ≤ x.t by omega)]; simp)
      repeat (first
        | ((first | apply Wp.seqItemsR | apply Wp.itemsR); (· simp only [go_sem, reduceIte, Nat.reduceEqDiff, Nat.reduceAdd, bx, ax, if_true, if_false, Nat.reduceMul, Nat.reduceLeDiff, g1, h2, h3, hat, hil, encA, chs_length, w1, w2, d1, d2]; exact rfl))
        | (refine WpItems.nil ⟨?_, ?_⟩; (· first | trivial | simp [pairsQ, pairsOk, apart, ent0]))
        | (apply Wp.cond_lit; (· simp only [go_sem, reduceIte, Nat.reduceEqDiff, Nat.reduceAdd, bx, ax, if_true, if_false, Nat.reduceMul, Nat.reduceLeDiff, g1, h2, h3, hat, hil, encA, chs_length, w1, w2, d1, d2]; exact rfl); (· rfl))
        | refine Wp.skip ?_
        | refine Wp.label ?_
        | refine Wp.block ?_
        | refine Wp.exit ?_
        | refine Wp.seq ?_)
      refine Wp.ret ⟨trivial, _, rfl, ?_⟩
      simp only [go_sem, reduceIte, Nat.reduceEqDiff, Nat.reduceAdd, bx]
      rw [hf]; exact VSub.refl _
    have d2 := decide_eq_false q2
    by_cases q3 : 1099511627776 < x.t
    · have d3 := decide_eq_true q3
      have hf := no (by rw [def0, decide_eq_false (show ¬ x.t ≤ 1099511627776 by omega)]; simp)
      repeat (first
        | ((first | apply Wp.seqItemsR | apply Wp.itemsR); (· simp only [go_sem, reduceIte, Nat.reduceEqDiff, Nat.reduceAdd, bx, ax, if_true, if_false, Nat.reduceMul, Nat.reduceLeDiff, g1, h2, h3, hat, hil, encA, chs_length, w1, w2, d1, d2, d3]; exact rfl))
        | (refine WpItems.nil ⟨?_, ?_⟩; (· first | trivial | simp [pairsQ, pairsOk, apart, ent0]))
        | (apply Wp.cond_lit; (· simp only [go_sem, reduceIte, Nat.reduceEqDiff, Nat.reduceAdd, bx, ax, if_true, if_false, Nat.reduceMul, Nat.reduceLeDiff, g1, h2, h3, hat, hil, encA, chs_length, w1, w2, d1, d2, d3]; exact rfl); (· rfl))
        | refine Wp.skip ?_
        | refine Wp.label ?_
        | refine Wp.block ?_
        | refine Wp.exit ?_
        | refine Wp.seq ?_)
      refine Wp.ret ⟨trivial, _, rfl, ?_⟩
      simp only [go_sem, reduceIte, Nat.reduceEqDiff, Nat.reduceAdd, bx]
      rw [hf]; exact VSub.refl _
    have d3 := decide_eq_false q3
    repeat (first
      | ((first | apply Wp.seqItemsR | apply Wp.itemsR); (· simp only [go_sem, reduceIte, Nat.reduceEqDiff, Nat.reduceAdd, bx, ax, if_true, if_false, Nat.reduceMul, Nat.reduceLeDiff, g1, h2, h3, hat, hil, encA, chs_length, w1, w2, d1, d2, d3]; exact rfl))
      | (refine WpItems.nil ⟨?_, ?_⟩; (· first | trivial | simp [pairsQ, pairsOk, apart, ent0]))
      | (apply Wp.cond_lit; (· simp only [go_sem, reduceIte, Nat.reduceEqDiff, Nat.reduceAdd, bx, ax, if_true, if_false, Nat.reduceMul, Nat.reduceLeDiff, g1, h2, h3, hat, hil, encA, chs_length, w1, w2, d1, d2, d3]; exact rfl); (· rfl))
      | refine Wp.skip ?_
      | refine Wp.label ?_
      | refine Wp.block ?_
      | refine Wp.exit ?_
      | refine Wp.seq ?_)
    refine Wp.loopK [0, 3, 4] (by simp only [go_sem, reduceIte, Nat.reduceEqDiff, Nat.reduceAdd, bx, List.map]; exact rfl) (fun i : Nat => [(5, .int .i64 (i : Nat))]) (fun i => i ≤ x.l.length ∧ ∀ i', i' < i → chFew (x.l.getD i' default) = true) (fun i => x.l.length - i) 0 ⟨Nat.zero_le _, fun i h => absurd h (by omega)⟩ ?_ ?_
    · simp only [AllSub, go_sem, reduceIte, Nat.reduceEqDiff, Nat.reduceAdd, bx]; and_intros <;> first | exact trivial | exact VSub.refl _ | exact VSub.any _ | (refine VSub.int ?_; omega)
    rintro i ⟨hi, hn⟩
    by_cases hi2 : i < x.l.length
    · have k1 : decide ((i : Int) < (x.l.length : Int)) = true := decide_eq_true (by omega)
      have k2 : (0 : Int) ≤ (i : Int) := by omega
      have k3 : (i : Int) < (x.l.length : Int) := by omega
      have k4 : IntKind.i64.wrap ((i : Int) + 1) = ((i + 1 : Nat) : Int) := by rw [IntWalk.i64_in _ (by omega)]; omega
      have hat2 := chs_getD x.l i .any hi2
      have no2 : chFew (x.l.getD i default) = false → fewB l = false := fun h => no (by rw [def0, allL_no hi2 h, Bool.and_false])
      have stp : chFew (x.l.getD i default) = true → ∀ i', i' < i + 1 → chFew (x.l.getD i' default) = true := fun h i' hi' => by
        by_cases e : i' = i
        · rw [e]; exact h
        · exact hn i' (by omega)
      generalize x.l.getD i default = c at *
      by_cases q4 : 1000 < (c.k.length : Int)
      · have d4 := decide_eq_true q4
        have hf := no2 (by rw [chFew, decide_eq_false (show ¬ (c.k.length : Int) ≤ 1000 by omega)]; rfl)
        repeat (first
          | ((first | apply Wp.seqItemsR | apply Wp.itemsR); (· simp only [go_sem, reduceIte, Nat.reduceEqDiff, Nat.reduceAdd, bx, ax, if_true, if_false, Nat.reduceMul, Nat.reduceLeDiff, g1, h2, h3, hat, hil, encA, chs_length, k1, k2, k3, hat2, encCh, d4]; exact rfl))
          | (refine WpItems.nil ⟨?_, ?_⟩; (· first | trivial | simp [pairsQ, pairsOk, apart, ent0]))
          | (apply Wp.cond_lit; (· simp only [go_sem, reduceIte, Nat.reduceEqDiff, Nat.reduceAdd, bx, ax, if_true, if_false, Nat.reduceMul, Nat.reduceLeDiff, g1, h2, h3, hat, hil, encA, chs_length, k1, k2, k3, hat2, encCh, d4]; exact rfl); (· rfl))
          | refine Wp.skip ?_
          | refine Wp.label ?_
          | refine Wp.block ?_
          | refine Wp.exit ?_
          | refine Wp.seq ?_)
        refine Wp.ret ⟨trivial, _, rfl, ?_⟩
        simp only [go_sem, reduceIte, Nat.reduceEqDiff, Nat.reduceAdd, bx]
        rw [hf]; exact VSub.refl _
      have d4 := decide_eq_false q4
      by_cases q5 : 1000 < (c.v.length : Int)
      · have d5 := decide_eq_true q5
        have hf := no2 (by rw [chFew, decide_eq_false (show ¬ (c.v.length : Int) ≤ 1000 by omega)]; simp)
        repeat (first
          | ((first | apply Wp.seqItemsR | apply Wp.itemsR); (· simp only [go_sem, reduceIte, Nat.reduceEqDiff, Nat.reduceAdd, bx, ax, if_true, if_false, Nat.reduceMul, Nat.reduceLeDiff, g1, h2, h3, hat, hil, encA, chs_length, k1, k2, k3, hat2, encCh, d4, d5]; exact rfl))
          | (refine WpItems.nil ⟨?_, ?_⟩; (· first | trivial | simp [pairsQ, pairsOk, apart, ent0]))
          | (apply Wp.cond_lit; (· simp only [go_sem, reduceIte, Nat.reduceEqDiff, Nat.reduceAdd, bx, ax, if_true, if_false, Nat.reduceMul, Nat.reduceLeDiff, g1, h2, h3, hat, hil, encA, chs_length, k1, k2, k3, hat2, encCh, d4, d5]; exact rfl); (· rfl))
          | refine Wp.skip ?_
          | refine Wp.label ?_
          | refine Wp.block ?_
          | refine Wp.exit ?_
          | refine Wp.seq ?_)
        refine Wp.ret ⟨trivial, _, rfl, ?_⟩
        simp only [go_sem, reduceIte, Nat.reduceEqDiff, Nat.reduceAdd, bx]
        rw [hf]; exact VSub.refl _
      have d5 := decide_eq_false q5
      have hy := stp (by rw [chFew, decide_eq_true (show (c.k.length : Int) ≤ 1000 by omega), decide_eq_true (show (c.v.length : Int) ≤ 1000 by omega)]; rfl)
      repeat (first
        | ((first | apply Wp.seqItemsR | apply Wp.itemsR); (· simp only [go_sem, reduceIte, Nat.reduceEqDiff, Nat.reduceAdd, bx, ax, if_true, if_false, Nat.reduceMul, Nat.reduceLeDiff, g1, h2, h3, hat, hil, encA, chs_length, k1, k2, k3, k4, hat2, encCh, d4, d5]; exact rfl))
        | (refine WpItems.nil ⟨?_, ?_⟩; (· first | trivial | simp [pairsQ, pairsOk, apart, ent0]))
        | (apply Wp.cond_lit; (· simp only [go_sem, reduceIte, Nat.reduceEqDiff, Nat.reduceAdd, bx, ax, if_true, if_false, Nat.reduceMul, Nat.reduceLeDiff, g1, h2, h3, hat, hil, encA, chs_length, k1, k2, k3, k4, hat2, encCh, d4, d5]; exact rfl); (· rfl))
        | refine Wp.skip ?_
        | refine Wp.label ?_
        | refine Wp.block ?_
        | refine Wp.exit ?_
        | refine Wp.seq ?_)
      refine ⟨i + 1, ⟨by omega, hy⟩, by omega, ?_⟩
      refine StLe.tm (by simp only [AllSub, go_sem, reduceIte, Nat.reduceEqDiff, Nat.reduceAdd, bx]; and_intros <;> first | exact trivial | exact VSub.refl _ | exact VSub.any _ | (refine VSub.int ?_; omega))
    · have hij : i = x.l.length := by omega
      subst hij
      have g1 : decide (((x.l.length : Nat) : Int) < ((x.l.length : Nat) : Int)) = false := decide_eq_false (by omega)
      have hyes : fewAt l j = true := by
        rw [def0, allL_yes hn, decide_eq_true (show C ≤ 200 by omega), decide_eq_true (show -100 ≤ x.t by omega), decide_eq_true (show x.t ≤ 1099511627776 by omega)]; rfl
      have g9 : decide ((x.l.length : Int) < (x.l.length : Int)) = false := decide_eq_false (by omega)
      have j1 : decide ((j : Int) < (l.length : Int)) = true := decide_eq_true (by omega)
      repeat (first
        | ((first | apply Wp.seqItemsR | apply Wp.itemsR); (· simp only [go_sem, reduceIte, Nat.reduceEqDiff, Nat.reduceAdd, bx, ax, if_true, if_false, Nat.reduceMul, Nat.reduceLeDiff, g9, h2, h3, hat, hil, encA, chs_length, e1]; exact rfl))
        | (refine WpItems.nil ⟨?_, ?_⟩; (· first | trivial | simp [pairsQ, pairsOk, apart, ent0]))
        | (apply Wp.cond_lit; (· simp only [go_sem, reduceIte, Nat.reduceEqDiff, Nat.reduceAdd, bx, ax, if_true, if_false, Nat.reduceMul, Nat.reduceLeDiff, g9, h2, h3, hat, hil, encA, chs_length, e1]; exact rfl); (· rfl))
        | refine Wp.skip ?_
        | refine Wp.label ?_
        | refine Wp.block ?_
        | refine Wp.exit ?_
        | refine Wp.seq ?_)
      refine ⟨j + 1, ⟨by omega, by rw [hC]; omega, all_step hs hyes⟩, by omega, ?_⟩
      rw [hC]
      refine StLe.tm (by simp only [AllSub, go_sem, reduceIte, Nat.reduceEqDiff, Nat.reduceAdd, bx]; and_intros <;> first | exact trivial | exact VSub.refl _ | exact VSub.any _ | (refine VSub.int ?_; omega))
  · have hje : j = l.length := by omega
    subst hje
    have g1 : decide (((l.length : Nat) : Int) < ((l.length : Nat) : Int)) = false := decide_eq_false (by omega)
    repeat (first
      | ((first | apply Wp.seqItemsR | apply Wp.itemsR); (· simp only [go_sem, reduceIte, Nat.reduceEqDiff, Nat.reduceAdd, bx, ax, if_true, if_false, Nat.reduceMul, Nat.reduceLeDiff, g1, hil]; exact rfl))
      | (refine WpItems.nil ⟨?_, ?_⟩; (· first | trivial | simp [pairsQ, pairsOk, apart, ent0]))
      | (apply Wp.cond_lit; (· simp only [go_sem, reduceIte, Nat.reduceEqDiff, Nat.reduceAdd, bx, ax, if_true, if_false, Nat.reduceMul, Nat.reduceLeDiff, g1, hil]; exact rfl); (· rfl))
      | refine Wp.skip ?_
      | refine Wp.label ?_
      | refine Wp.block ?_
      | refine Wp.exit ?_
      | refine Wp.seq ?_)
    refine Wp.ret ⟨trivial, _, rfl, ?_⟩
    simp only [go_sem, reduceIte, Nat.reduceEqDiff, Nat.reduceAdd, bx]
    rw [fewB, all_yes hs]
    exact VSub.refl _
theorem cnt_mono (l : List Act) : ∀ {i j : Nat}, i ≤ j → cntA (l.take i) ≤ cntA (l.take j) := by
  intro i j h
  have e : l.take i = (l.take j).take i := by rw [List.take_take, Nat.min_eq_left h]
  have e2 : l.take j = (l.take j).take i ++ (l.take j).drop i := (List.take_append_drop _ _).symm
  rw [e, cntA, cntA]
  conv => rhs; rw [e2, List.map_append, List.sum_append]
  omega
structure Few (l : List Act) : Prop where
  n : cntA l ≤ 200
  t : ∀ a ∈ l, -100 ≤ a.t ∧ a.t ≤ 1099511627776
  c : ∀ a ∈ l, ∀ c ∈ a.l, c.k.length ≤ 1000 ∧ c.v.length ≤ 1000
theorem few_of {l : List Act} (h : fewB l = true) : Few l := by
  have hall : ∀ i, i < l.length → fewAt l i = true := fun i hi => List.all_eq_true.1 h i (List.mem_range.2 hi)
  have mem : ∀ a ∈ l, ∃ i, i < l.length ∧ l.getD i default = a := fun a ha => by
    obtain ⟨i, hi, rfl⟩ := List.mem_iff_getElem.1 ha
    exact ⟨i, hi, getD_el hi⟩
  refine ⟨?_, fun a ha => ?_, fun a ha c hc => ?_⟩
  · cases hn : l.length with
    | zero => have := List.length_eq_zero_iff.1 hn; subst this; simp [cntA]
    | succ k =>
      have := hall k (by omega)
      simp only [fewAt, Bool.and_eq_true, decide_eq_true_eq] at this
      have h1 := this.1.1.1
      rwa [← hn, List.take_length] at h1
  · obtain ⟨i, hi, rfl⟩ := mem a ha
    have := hall i hi
    simp only [fewAt, Bool.and_eq_true, decide_eq_true_eq] at this
    exact ⟨this.1.1.2, this.1.2⟩
  · obtain ⟨i, hi, rfl⟩ := mem a ha
    have := hall i hi
    simp only [fewAt, Bool.and_eq_true, decide_eq_true_eq] at this
    have h2 := List.all_eq_true.1 this.2 c hc
    simp only [chFew, Bool.and_eq_true, decide_eq_true_eq] at h2
    omega
end Go.Proofs.Ytpehfflehebmbaa.Space
end
section
set_option linter.unusedSimpArgs false
set_option linter.unusedVariables false
set_option maxRecDepth 10000
namespace Go.Proofs.Ytpehfflehebmbaa.Space
open Go Go.Av Go.Proofs Go.Proofs.Ytpehfflehebmbaa.C Go.Proofs.Ytpehfflehebmbaa.Batch
structure Rt (S : Spc) : Prop where
  it : ∀ p ∈ S.L, p.1.length ≤ 128 ∧ chB p.2 = true ∧ (p.2.getD 0 default).t ≤ S.last
  mn : 0 ≤ S.mark
  ml : S.mark ≤ S.last
  mx : S.last ≤ 1152921504606846976
theorem Rt.zero : Rt ⟨[], 0, 0⟩ := ⟨fun p hp => by simp at hp, by simp, by simp, by simp⟩
theorem chB_nil : chB [] = true := rfl
theorem chB_iff {l : List Ver} : chB l = true ↔ ∀ i, i < l.length → vOk l i = true := by
  rw [chB, List.all_eq_true]
  exact ⟨fun h i hi => h i (List.mem_range.2 hi), fun h i hi => h i (List.mem_range.1 hi)⟩
theorem chB_cons {x : Ver} {v : List Ver} : chB (x :: v) = true ↔ okV x = true ∧ chB v = true ∧ (v ≠ [] → (v.getD 0 default).t < x.t) := by
  rw [chB_iff, chB_iff]
  constructor
  · intro h
    refine ⟨?_, fun i hi => ?_, fun hv => ?_⟩
    · have := h 0 (by simp)
      rwa [vOk_zero rfl, List.getD_cons_zero] at this
    · have := h (i + 1) (by simp; omega)
      rw [vOk_pos (by omega)] at this
      simp only [List.getD_cons_succ, Nat.add_sub_cancel, Bool.and_eq_true, decide_eq_true_eq] at this
      cases i with
      | zero => rw [vOk_zero rfl]; exact this.1
      | succ i =>
        rw [vOk_pos (by omega)]
        simp only [List.getD_cons_succ, Nat.add_sub_cancel, Bool.and_eq_true, decide_eq_true_eq] at this ⊢
        exact this
    · have := h 1 (by have := List.length_pos_iff.2 hv; simp; omega)
      rw [vOk_pos (by omega)] at this
      simp only [List.getD_cons_succ, Nat.sub_self, List.getD_cons_zero, Bool.and_eq_true, decide_eq_true_eq] at this
      exact this.2
  · rintro ⟨h1, h2, h3⟩ i hi
    cases i with
    | zero => rw [vOk_zero rfl, List.getD_cons_zero]; exact h1
    | succ i =>
      have hi2 : i < v.length := by simpa using hi
      have := h2 i hi2
      rw [vOk_pos (by omega)]
      simp only [List.getD_cons_succ, Nat.add_sub_cancel, Bool.and_eq_true, decide_eq_true_eq]
      cases i with
      | zero =>
        rw [vOk_zero rfl] at this
        exact ⟨this, by rw [List.getD_cons_zero]; exact h3 (fun e => by rw [e] at hi2; simp at hi2)⟩
      | succ i =>
        rw [vOk_pos (by omega)] at this
        simp only [Nat.add_sub_cancel, Bool.and_eq_true, decide_eq_true_eq] at this
        rw [List.getD_cons_succ]; exact this
theorem chB_take {v : List Ver} (h : chB v = true) : ∀ k, chB (v.take k) = true := by
  induction v with
  | nil => intro k; simp [chB_nil]
  | cons x v ih =>
    intro k
    cases k with
    | zero => exact chB_nil
    | succ k =>
      obtain ⟨h1, h2, h3⟩ := chB_cons.1 h
      rw [List.take_succ_cons]
      refine chB_cons.2 ⟨h1, ih h2 k, fun hv => ?_⟩
      cases v with
      | nil => simp at hv
      | cons y v =>
        cases k with
        | zero => simp at hv
        | succ k => simpa using h3 (by simp)
theorem vac_right {v : List Ver} (h : chB v = true) (m : Int) : chB (vacB v m) = true ∧ (vacB v m ≠ [] → ((vacB v m).getD 0 default) = v.getD 0 default) := by
  rw [vacB, if_pos h]
  refine ⟨chB_take h _, fun hn => ?_⟩
  cases v with
  | nil => simp at hn
  | cons x v =>
    cases hk : keepN (x :: v) m with
    | zero => rw [hk] at hn; simp at hn
    | succ k => rw [List.take_succ_cons]; rfl
theorem add_right {v : List Ver} {x : Ver} (hv : chB v = true) (hx : okV x = true) (ht : v ≠ [] → (v.getD 0 default).t < x.t) : addB v x = (x :: v, 0) := by
  rw [addB, if_neg (by simp [hv]), if_neg (by simp [hx]), if_neg]
  rintro ⟨h1, h2⟩
  have := ht (List.length_pos_iff.1 h1)
  omega
theorem okV_of {c : Ch} {t : Int} (h1 : 1 ≤ t) (h2 : t ≤ 1152921504606846976) (h3 : ((c.v.length : Nat) : Int) ≤ 200) (h4 : (!c.d || decide (c.v = [])) = true) : okV ⟨t, c.v, c.d⟩ = true := by
  simp only [okV, decide_eq_true h1, decide_eq_true h2, decide_eq_true h3, Bool.true_and]
  exact h4
theorem mget_right {L : List It} (h : ∀ p ∈ L, chB p.2 = true) (q : Bs) : chB (mget L q) = true := by
  induction L with
  | nil => exact chB_nil
  | cons p L ih =>
    rw [mget]
    split
    · exact h p (by simp)
    · exact ih (fun x hx => h x (by simp [hx]))
theorem mget_prop {L : List It} {P : It → Prop} (h : ∀ p ∈ L, P p) (q : Bs) (hn : mget L q ≠ []) : ∃ p, P p ∧ p.2 = mget L q ∧ p.1 = q := by
  induction L with
  | nil => simp [mget] at hn
  | cons p L ih =>
    rw [mget] at hn ⊢
    split
    · rename_i e; exact ⟨p, h p (by simp), rfl, e⟩
    · rename_i e
      rw [if_neg e] at hn
      exact ih (fun x hx => h x (by simp [hx])) hn
theorem Rt.head {S : Spc} (h : Rt S) (q : Bs) (hn : mget S.L q ≠ []) : ((mget S.L q).getD 0 default).t ≤ S.last := by
  obtain ⟨p, h1, h2, -⟩ := mget_prop h.it q hn
  rw [← h2]; exact h1.2.2
theorem fit_ok {l : List Ch} (h : fitB l = true) {j : Nat} (hj : j < l.length) : (((l.getD j default).v.length : Nat) : Int) ≤ 200 ∧ (!(l.getD j default).d || decide ((l.getD j default).v = [])) = true := by
  have := fit_at h hj
  simp only [fitAt, Bool.and_eq_true, decide_eq_true_eq] at this
  exact ⟨this.1.2, this.2⟩
theorem upR_right {S : Spc} (h : Rt S) {t : Int} (h1 : S.last < t) (h2 : t ≤ 1152921504606846976) {l : List Ch} (hf : fitB l = true) : ∀ j, j ≤ l.length → ∀ p ∈ (l.take j).foldl (upR t S) S.L, p.1.length ≤ 128 ∧ chB p.2 = true ∧ (p.2.getD 0 default).t ≤ t
  | 0, _ => by
    simp only [List.take_zero, List.foldl_nil]
    intro p hp
    obtain ⟨a, b, c⟩ := h.it p hp
    exact ⟨a, b, by omega⟩
  | j + 1, hj => by
    have ih := upR_right h h1 h2 hf j (by omega)
    rw [take_snoc default (show j < l.length by omega), List.foldl_append]
    intro p hp
    simp only [List.foldl_cons, List.foldl_nil, upR] at hp
    rcases setL_mem hp with rfl | hp
    · have hk := fit_len hf (show j < l.length by omega)
      obtain ⟨a, b⟩ := fit_ok hf (show j < l.length by omega)
      have hm := mget_right (fun p hp => (h.it p hp).2.1) (l.getD j default).k
      have hx := okV_of (t := t) (by have := h.mn; have := h.ml; omega) h2 a b
      have ha := add_right hm hx (fun hn => by have := h.head _ hn; simp only; omega)
      rw [ha]
      refine ⟨by simpa using hk, chB_cons.2 ⟨hx, hm, fun hn => ?_⟩, by simp⟩
      have := h.head _ hn
      simp only; omega
    · exact ih p hp
theorem Rt.apply {S : Spc} {k : Nat} (h : Rt S) (hF : Fit S k) (t : Int) (l : List Ch) : Rt (applyB S t l).1 := by
  unfold applyB
  split
  · exact h
  · split
    · exact h
    · rename_i h1 h2
      have hf : fitB l = true := by simpa using h2
      have e := (do_eq t S hF.ri l hf l.length (Nat.le_refl _)).2.2
      have hu := upR_right h (t := t) (by omega) (by omega) hf l.length (Nat.le_refl _)
      rw [List.take_length] at e hu
      rw [e]
      exact ⟨fun p hp => hu p hp, h.mn, by have := h.ml; simp only; omega, by simp only; omega⟩
theorem Rt.vac {S : Spc} {k : Nat} (h : Rt S) (hF : Fit S k) (m : Int) : Rt (vacuumB S m).1 := by
  unfold vacuumB
  split
  · exact h
  · rename_i h1
    rw [vacS_eq hF.ri]
    refine ⟨fun p hp => ?_, by have := h.mn; simp only; omega, by simp only; omega, h.mx⟩
    obtain ⟨y, hy, e1, e2⟩ := vacR_mem hp
    obtain ⟨a, b, c⟩ := h.it y hy
    obtain ⟨d, e⟩ := vac_right b m
    rw [e2]
    refine ⟨by rw [← e1]; exact a, d, ?_⟩
    rw [e (by rw [← e2]; exact vacR_full m S.L p hp)]; exact c
theorem Rt.load {S : Spc} {k : Nat} (h : Rt S) (hF : Fit S k) : ldB S.L S.last S.mark = true := by
  have hall : (List.range S.L.length).all (ldAt S.L S.last) = true := by
    refine List.all_eq_true.2 fun i hi => ?_
    have hi := List.mem_range.1 hi
    have hm : S.L.getD i default ∈ S.L := by rw [getD_el hi]; exact List.getElem_mem hi
    obtain ⟨a, b, c⟩ := h.it _ hm
    have hn := hF.fu _ hm
    have hl : (decide (i = 0) || Op.bytesLess (aheadAt S.L i) (S.L.getD i default).1) = true := by
      by_cases e : i = 0
      · simp [e]
      · rw [Bool.or_eq_true]; right
        rw [aheadAt, if_neg e]
        have := Rise.at (k := keysOf S.L) hF.ri (i := i - 1) (j := i) (by omega) (by simpa [keysOf] using hi)
        have e1 : (keysOf S.L).getD i [] = (S.L.getD i default).1 := by rw [getD_el (by simpa [keysOf] using hi), getD_el hi]; simp [keysOf]
        have e2 : (keysOf S.L).getD (i - 1) [] = (S.L.getD (i - 1) default).1 := by rw [getD_el (by simp [keysOf]; omega), getD_el (by omega)]; simp [keysOf]
        rwa [e1, e2] at this
    rw [ldAt, mayB, hl, b, decide_eq_true (show (((S.L.getD i default).1.length : Nat) : Int) ≤ 128 by omega), decide_eq_true (List.length_pos_iff.2 hn), decide_eq_true c]; rfl
  have h1 := h.mn
  have h2 := h.ml
  have h3 := h.mx
  rw [ldB, hall, decide_eq_false (show ¬ S.last < 0 by omega), decide_eq_false (show ¬ 1152921504606846976 < S.last by omega), decide_eq_false (show ¬ S.mark < 0 by omega), decide_eq_false (show ¬ S.last < S.mark by omega)]; rfl
end Go.Proofs.Ytpehfflehebmbaa.Space
end
section
set_option linter.unusedSimpArgs false
set_option linter.unusedVariables false
set_option maxRecDepth 10000
namespace Go.Proofs.Ytpehfflehebmbaa.Space
open Go Go.Av Go.Proofs Go.Proofs.Ytpehfflehebmbaa.C Go.Proofs.Ytpehfflehebmbaa.Batch
def stepA (S : Spc) (a : Act) : Spc := if a.k = 1 then (vacuumB S (S.mark + a.t)).1 else if a.k = 2 then S else if a.k = 3 then S else (applyB S (S.last + a.t) a.l).1
theorem Ok.tok {l : List Fr} {n m : Nat} {T : List Nat} (ok : Ok l n T m) : Ok l n (m :: T) (m + 1) :=
  ⟨ok.bd, ok.dj, fun t ht => List.mem_cons_of_mem _ (ok.tk t ht), ok.td, fun t ht => by
    rcases List.mem_cons.1 ht with rfl | h
    · omega
    · have := ok.tb t h; omega⟩
def StepQ (S : Spc) (a : Act) (r : AV) (L : List Fr) : Prop := ∃ s' F', r = .tup [.ptr s' 0, encS (stepA S a), .bool true] ∧ L = [F'] ∧ SpcF s' (stepA S a) F'
set_option maxHeartbeats 4000000 in
theorem step_g {s : Nat} {S : Spc} {F : Fr} {k : Nat} {a : Act} (hF : SpcF s S F) (hS : Fit S k) (hR : Rt S) (hk : k + a.l.length + 1 ≤ 400000) (t1 : -100 ≤ a.t) (t2 : a.t ≤ 1099511627776) : GCalls Try.prog 31 [.ptr s 0, encS S, encA a] [F] (StepQ S a) := by
  refine f31.gcalls (by simp) fun n m ok => ?_
  unfold c31
  have hmk := hR.mn
  have hml := hR.ml
  have hmx := hR.mx
  have hsm := hS.small (show k ≤ 500000 by omega)
  have fn : ∀ j, n ≤ j → F.o j = none := fun j hj => ok.bd F (by simp) j hj
  have w1 : IntKind.i64.wrap (S.mark + a.t) = S.mark + a.t := IntWalk.i64_in _ (by omega)
  have w2 : IntKind.i64.wrap (S.last + a.t) = S.last + a.t := IntWalk.i64_in _ (by omega)
  have w3 : IntKind.i64.wrap (S.last + 1) = S.last + 1 := IntWalk.i64_in _ (by omega)
  repeat (first
    | ((first | apply Wp.seqItemsR | apply Wp.itemsR); (· simp only [go_sem, reduceIte, Nat.reduceEqDiff, Nat.reduceAdd, bx, ax, if_true, if_false, Nat.reduceMul, Nat.reduceLeDiff, encS, encA]; exact rfl))
    | (refine WpItems.nil ⟨?_, ?_⟩; (· first | trivial | simp [pairsQ, pairsOk, apart, ent0]))
    | (apply Wp.cond_lit; (· simp only [go_sem, reduceIte, Nat.reduceEqDiff, Nat.reduceAdd, bx, ax, if_true, if_false, Nat.reduceMul, Nat.reduceLeDiff, encS, encA]; exact rfl); (· rfl))
    | refine Wp.skip ?_
    | refine Wp.label ?_
    | refine Wp.block ?_
    | refine Wp.exit ?_
    | refine Wp.seq ?_)
  rw [upd_new, upd_new, upd_new]
  have ok3 := ((ok.more (.cells [.sl 2 (S.L.map encI) .any, .int .i64 S.last, .int .i64 S.mark])).more (.cells [.int .i64 a.k, .int .i64 a.t, .sl 3 (chs a.l) .any])).more (.cells [.sl 2 [] (.exact 0), .int .i64 0, .int .i64 0])
  have gm : ∀ x y L, lay (ob (n + 1 + 1) x :: ob (n + 1) y :: ob n (.cells [.sl 2 (S.L.map encI) .any, .int .i64 S.last, .int .i64 S.mark]) :: L) n = some (.cells [.sl 2 (S.L.map encI) .any, .int .i64 S.last, .int .i64 S.mark]) := fun x y L => by
    rw [lay_ob_ne _ _ (by omega), lay_ob_ne _ _ (by omega), lay_ob_at]
  have ga : ∀ x L, lay (ob (n + 1 + 1) x :: ob (n + 1) (.cells [.int .i64 a.k, .int .i64 a.t, .sl 3 (chs a.l) .any]) :: L) (n + 1) = some (.cells [.int .i64 a.k, .int .i64 a.t, .sl 3 (chs a.l) .any]) := fun x L => by
    rw [lay_ob_ne _ _ (by omega), lay_ob_at]
  have gr : ∀ L, lay (ob (n + 1 + 1) (.cells [.sl 2 [] (.exact 0), .int .i64 0, .int .i64 0]) :: L) (n + 1 + 1) = some (.cells [.sl 2 [] (.exact 0), .int .i64 0, .int .i64 0]) := fun L => lay_ob_at _ _ _
  have s0 : ∀ x L, lay (ob (n + 1 + 1 + 1) x :: L) n = lay L n := fun x L => lay_ob_ne _ _ (by omega)
  have s1 : ∀ x L, lay (ob (n + 1 + 1 + 1) x :: L) (n + 1) = lay L (n + 1) := fun x L => lay_ob_ne _ _ (by omega)
  have s2 : ∀ x L, lay (ob (n + 1 + 1 + 1) x :: L) (n + 1 + 1) = lay L (n + 1 + 1) := fun x L => lay_ob_ne _ _ (by omega)
  have s3 : ∀ x L, lay (ob (n + 1 + 1 + 1) x :: L) (n + 1 + 1 + 1) = some x := fun x L => lay_ob_at _ _ _
  have e0 : ∀ i : Int, decide (i = i) = true := fun i => decide_eq_true rfl
  have nin : ∀ (ids : List Nat) (n2 : Nat) {n3 : Nat}, (∀ id ∈ ids, (lay [F] id).isSome = true ∨ (n2 ≤ id ∧ id < n3)) → ∀ j, n ≤ j → j < n2 → ∀ id, id ∈ ids → ¬ id = j := fun ids n2 n3 h j hj hj2 id hid e => by
    rcases h id hid with h | h
    · rw [e, lay_cons, fn j hj] at h; cases h
    · omega
  by_cases k1 : a.k = 1
  · have d1 := decide_eq_true k1
    have hv := vacRR_p S hS.ri hsm (S.mark + a.t)
    have hg := vacuum_g hF hS.ri hsm (S.mark + a.t)
    have hst : stepA S a = (vacuumB S (S.mark + a.t)).1 := by rw [stepA, if_pos k1]
    generalize vacuumB S (S.mark + a.t) = V at *
    unfold encS at hv
    repeat (first
      | ((first | apply Wp.seqItemsR | apply Wp.itemsR | ((first
          | (refine WpItems.pcall ?_ ?_ (hv) ?_; (· simp only [go_sem, reduceIte, Nat.reduceEqDiff, Nat.reduceAdd, bx]); (· simp only [go_sem, reduceIte, Nat.reduceEqDiff, Nat.reduceAdd, bx, List.map]; first | exact VSubs.refl _ | (repeat (first | exact VSubs.nil | refine VSubs.cons (by first | exact VSub.refl _ | assumption | exact VSub.cap | exact VSub.any _) ?_))))); apply WpItems.evR)); (· simp only [go_sem, reduceIte, Nat.reduceEqDiff, Nat.reduceAdd, bx, ax, if_true, if_false, Nat.reduceMul, Nat.reduceLeDiff, gm, ga, d1, w1]; exact rfl))
      | (refine WpItems.nil ⟨?_, ?_⟩; (· first | trivial | simp [pairsQ, pairsOk, apart, ent0]))
      | (apply Wp.cond_lit; (· simp only [go_sem, reduceIte, Nat.reduceEqDiff, Nat.reduceAdd, bx, ax, if_true, if_false, Nat.reduceMul, Nat.reduceLeDiff, gm, ga, d1, w1]; exact rfl); (· rfl))
      | refine Wp.skip ?_
      | refine Wp.label ?_
      | refine Wp.block ?_
      | refine Wp.exit ?_
      | refine Wp.seq ?_)
    rw [upd_new, upd_ob]
    have ok4 := ok3.more (.cells [.sl 2 (V.1.L.map encI) .any, .int .i64 V.1.last, .int .i64 V.1.mark])
    repeat (first
      | ((first | apply Wp.seqItemsR | apply Wp.itemsR); (· simp only [go_sem, reduceIte, Nat.reduceEqDiff, Nat.reduceAdd, bx, ax, if_true, if_false, Nat.reduceMul, Nat.reduceLeDiff, gm, ga, gr, s0, s1, s2, s3, w1]; exact rfl))
      | (refine WpItems.nil ⟨?_, ?_⟩; (· first | trivial | simp [pairsQ, pairsOk, apart, ent0]))
      | (apply Wp.cond_lit; (· simp only [go_sem, reduceIte, Nat.reduceEqDiff, Nat.reduceAdd, bx, ax, if_true, if_false, Nat.reduceMul, Nat.reduceLeDiff, gm, ga, gr, s0, s1, s2, s3, w1]; exact rfl); (· rfl))
      | refine Wp.skip ?_
      | refine Wp.label ?_
      | refine Wp.block ?_
      | refine Wp.exit ?_
      | refine Wp.seq ?_)
    refine WpItems.gcallI [_, _, _, _] [F] [] (by simp only [go_sem, bx]) (by simp only [go_sem, reduceIte, Nat.reduceEqDiff, List.map]; exact VSubs.refl _) hg ok4 fun r G' n' T' m' ids hq on hids => ?_
    obtain ⟨rfl, F', rfl, hF'⟩ := hq
    have hi := nin ids _ hids
    simp only [List.cons_append, List.nil_append, List.append_nil] at on ⊢
    refine WpItems.evR (by simp only [go_sem, reduceIte, Nat.reduceEqDiff, Nat.reduceAdd, bx, gm, ga, gr, s0, s1, s2, s3, decide_true]; exact rfl) ?_
    have hu := Ok.upd_ob (A := [_]) (.cells [.sl 2 (V.1.L.map encI) .any, .int .i64 V.1.last, .int .i64 V.1.mark]) on.ok
    have on2 := on.step (On.put_ob (A := [_]) (o' := .cells [.sl 2 (V.1.L.map encI) .any, .int .i64 V.1.last, .int .i64 V.1.mark]) on.ok)
    simp only [List.cons_append, List.nil_append] at hu on2
    rw [hu]
    refine WpItems.nil ⟨?_, ?_⟩
    · simp [pairsQ, pairsOk, apart, ent0]
      exact hi _ (by omega) (by omega)
    refine Wp.ret ⟨trivial, .tup [.ptr s 0, encS V.1, .bool true], ?_, ?_⟩
    · simp only [resOf, rvs, rv, go_sem, reduceIte, Nat.reduceEqDiff, s2, lay_ob_at, encS]; rfl
    · have on3 := on2.grown.grown.grown.grown
      exact ⟨_, [F'], on3.ends1 (by simp) hF'.k (VSub.refl _) ⟨s, F', by rw [hst], rfl, by rw [hst]; exact hF'⟩⟩
  have d1 := decide_eq_false k1
  by_cases k2 : a.k = 2
  · have d2 := decide_eq_true k2
    have hst : stepA S a = S := by rw [stepA, if_neg k1, if_pos k2]
    have hcp := copy_g hF hS.ri hsm
    rw [hS.lay] at hcp
    have hap := apply_g hF hS.ri (S.last + 1) [⟨[122, 122], [122, 122], false⟩] (by decide) (hS.room (by simp only [List.length_cons, List.length_nil]; omega))
    repeat (first
      | ((first | apply Wp.seqItemsR | apply Wp.itemsR); (· simp only [go_sem, reduceIte, Nat.reduceEqDiff, Nat.reduceAdd, bx, ax, if_true, if_false, Nat.reduceMul, Nat.reduceLeDiff, gm, ga, gr, d1, d2]; exact rfl))
      | (refine WpItems.nil ⟨?_, ?_⟩; (· first | trivial | simp [pairsQ, pairsOk, apart, ent0]))
      | (apply Wp.cond_lit; (· simp only [go_sem, reduceIte, Nat.reduceEqDiff, Nat.reduceAdd, bx, ax, if_true, if_false, Nat.reduceMul, Nat.reduceLeDiff, gm, ga, gr, d1, d2]; exact rfl); (· rfl))
      | refine Wp.skip ?_
      | refine Wp.label ?_
      | refine Wp.block ?_
      | refine Wp.exit ?_
      | refine Wp.seq ?_)
    refine WpItems.gcallI [_, _, _] [F] [] (by simp only [go_sem, bx]) (by simp only [go_sem, reduceIte, Nat.reduceEqDiff, List.map]; exact VSubs.refl _) hcp ok3 fun r G' n' T' m' ids hq on hids => ?_
    obtain ⟨s', F', rfl, rfl, hF'⟩ := hq
    simp only [List.cons_append, List.nil_append, List.append_nil] at on ⊢
    refine WpItems.evR (by simp only [go_sem, reduceIte, Nat.reduceEqDiff, Nat.reduceAdd, bx]; exact rfl) ?_
    repeat (first
      | ((first | apply Wp.seqItemsR | apply Wp.itemsR); (· simp only [go_sem, reduceIte, Nat.reduceEqDiff, Nat.reduceAdd, bx, ax, if_true, if_false, Nat.reduceMul, Nat.reduceLeDiff, gm, ga, gr, w3]; exact rfl))
      | (refine WpItems.nil ⟨?_, ?_⟩; (· first | trivial | simp [pairsQ, pairsOk, apart, ent0]))
      | (apply Wp.cond_lit; (· simp only [go_sem, reduceIte, Nat.reduceEqDiff, Nat.reduceAdd, bx, ax, if_true, if_false, Nat.reduceMul, Nat.reduceLeDiff, gm, ga, gr, w3]; exact rfl); (· rfl))
      | refine Wp.skip ?_
      | refine Wp.label ?_
      | refine Wp.block ?_
      | refine Wp.exit ?_
      | refine Wp.seq ?_)
    refine WpItems.gcallI [_, _, _, _] [F] [] (by simp only [go_sem, bx]) (by simp only [go_sem, reduceIte, Nat.reduceEqDiff, List.map]; exact VSubs.cons (VSub.refl _) (VSubs.cons (VSub.refl _) (VSubs.cons VSub.cap VSubs.nil))) hap on.ok fun r G2 n2 T2 m2 ids2 hq2 on2 hids2 => ?_
    obtain ⟨rfl, F2, rfl, hF2⟩ := hq2
    simp only [List.cons_append, List.nil_append, List.append_nil] at on2 ⊢
    refine WpItems.evR (by simp only [go_sem, reduceIte, Nat.reduceEqDiff, Nat.reduceAdd, bx]; exact rfl) ?_
    repeat (first
      | ((first | apply Wp.seqItemsR | apply Wp.itemsR); (· simp only [go_sem, reduceIte, Nat.reduceEqDiff, Nat.reduceAdd, bx, ax, if_true, if_false, Nat.reduceMul, Nat.reduceLeDiff, gm, ga, gr]; exact rfl))
      | (refine WpItems.nil ⟨?_, ?_⟩; (· first | trivial | simp [pairsQ, pairsOk, apart, ent0]))
      | (apply Wp.cond_lit; (· simp only [go_sem, reduceIte, Nat.reduceEqDiff, Nat.reduceAdd, bx, ax, if_true, if_false, Nat.reduceMul, Nat.reduceLeDiff, gm, ga, gr]; exact rfl); (· rfl))
      | refine Wp.skip ?_
      | refine Wp.label ?_
      | refine Wp.block ?_
      | refine Wp.exit ?_
      | refine Wp.seq ?_)
    rw [upd_ob]
    have on3 := On.put_ob (A := []) (o' := .cells [.sl 2 (S.L.map encI) .any, .int .i64 S.last, .int .i64 S.mark]) on2.ok
    have on4 := ((on.step on2).step on3).grown.grown.grown
    refine Wp.ret ⟨trivial, .tup [.ptr s' 0, encS S, .bool true], ?_, ?_⟩
    · simp only [resOf, rvs, rv, go_sem, reduceIte, Nat.reduceEqDiff, lay_ob_at, encS]; rfl
    · exact ⟨_, [F'], on4.ends1 (by simp) hF'.k (VSub.refl _) ⟨s', F', by rw [hst], rfl, by rw [hst]; exact hF'⟩⟩
  have d2 := decide_eq_false k2
  by_cases k3 : a.k = 3
  · have d3 := decide_eq_true k3
    have hst : stepA S a = S := by rw [stepA, if_neg k1, if_neg k2, if_pos k3]
    have hit := items_g hF hS.ri hsm
    have hld := load_g S.L (by have := hS.ln; omega) (fun p hp => by have := hS.vs p hp; omega) S.last S.mark
    simp only [hR.load hS, if_true, hS.lay] at hld
    repeat (first
      | ((first | apply Wp.seqItemsR | apply Wp.itemsR); (· simp only [go_sem, reduceIte, Nat.reduceEqDiff, Nat.reduceAdd, bx, ax, if_true, if_false, Nat.reduceMul, Nat.reduceLeDiff, gm, ga, gr, d1, d2, d3]; exact rfl))
      | (refine WpItems.nil ⟨?_, ?_⟩; (· first | trivial | simp [pairsQ, pairsOk, apart, ent0]))
      | (apply Wp.cond_lit; (· simp only [go_sem, reduceIte, Nat.reduceEqDiff, Nat.reduceAdd, bx, ax, if_true, if_false, Nat.reduceMul, Nat.reduceLeDiff, gm, ga, gr, d1, d2, d3]; exact rfl); (· rfl))
      | refine Wp.skip ?_
      | refine Wp.label ?_
      | refine Wp.block ?_
      | refine Wp.exit ?_
      | refine Wp.seq ?_)
    refine WpItems.gkeepI ([_, _, _]) ([]) (by simp only [go_sem, reduceIte, Nat.reduceEqDiff, Nat.reduceAdd, bx]) (by simp only [go_sem, reduceIte, Nat.reduceEqDiff, Nat.reduceAdd, bx, List.map]; first | exact VSubs.refl _ | (repeat (first | exact VSubs.nil | refine VSubs.cons (by first | exact VSub.refl _ | assumption | exact VSub.cap | exact VSub.any _) ?_))) (hit) (hF.k) (ok3) fun n1 m1 ids1 hn1 hm1 hids1 ok => ?_
    simp only [List.cons_append, List.nil_append] at ok ⊢
    refine WpItems.evR (by simp only [go_sem, reduceIte, Nat.reduceEqDiff, Nat.reduceAdd, bx]; exact rfl) ?_
    repeat (first
      | ((first | apply Wp.seqItemsR | apply Wp.itemsR | ((first
          | (refine WpItems.glook ?_ ?_ (last_r hF) (by first | exact fun j o h => h | exact ok.sub (by simp) | assumption) (fun ids => ?_); (· simp only [go_sem, reduceIte, Nat.reduceEqDiff, Nat.reduceAdd, bx]); (· simp only [go_sem, reduceIte, Nat.reduceEqDiff, Nat.reduceAdd, bx, List.map]; first | exact VSubs.refl _ | (repeat (first | exact VSubs.nil | refine VSubs.cons (by first | exact VSub.refl _ | assumption | exact VSub.cap | exact VSub.any _) ?_))))
          | (refine WpItems.glook ?_ ?_ (mark_r hF) (by first | exact fun j o h => h | exact ok.sub (by simp) | assumption) (fun ids => ?_); (· simp only [go_sem, reduceIte, Nat.reduceEqDiff, Nat.reduceAdd, bx]); (· simp only [go_sem, reduceIte, Nat.reduceEqDiff, Nat.reduceAdd, bx, List.map]; first | exact VSubs.refl _ | (repeat (first | exact VSubs.nil | refine VSubs.cons (by first | exact VSub.refl _ | assumption | exact VSub.cap | exact VSub.any _) ?_))))); apply WpItems.evR)); (· simp only [go_sem, reduceIte, Nat.reduceEqDiff, Nat.reduceAdd, bx, ax, if_true, if_false, Nat.reduceMul, Nat.reduceLeDiff, gm]; exact rfl))
      | (refine WpItems.nil ⟨?_, ?_⟩; (· first | trivial | simp [pairsQ, pairsOk, apart, ent0]))
      | (apply Wp.cond_lit; (· simp only [go_sem, reduceIte, Nat.reduceEqDiff, Nat.reduceAdd, bx, ax, if_true, if_false, Nat.reduceMul, Nat.reduceLeDiff, gm]; exact rfl); (· rfl))
      | refine Wp.skip ?_
      | refine Wp.label ?_
      | refine Wp.block ?_
      | refine Wp.exit ?_
      | refine Wp.seq ?_)
    refine WpItems.gcallI [_, _, _, _] [] [] (by simp only [go_sem, bx]) (by simp only [go_sem, reduceIte, Nat.reduceEqDiff, List.map]; exact VSubs.refl _) hld ok fun r G2 n2 T2 m2 ids2 hq2 on2 hids2 => ?_
    obtain ⟨s', F', rfl, rfl, hF'⟩ := hq2
    simp only [List.cons_append, List.nil_append, List.append_nil] at on2 ⊢
    refine WpItems.evR (by simp only [go_sem, reduceIte, Nat.reduceEqDiff, Nat.reduceAdd, bx]; exact rfl) ?_
    repeat (first
      | ((first | apply Wp.seqItemsR | apply Wp.itemsR); (· simp only [go_sem, reduceIte, Nat.reduceEqDiff, Nat.reduceAdd, bx, ax, if_true, if_false, Nat.reduceMul, Nat.reduceLeDiff, gm, ga, gr]; exact rfl))
      | (refine WpItems.nil ⟨?_, ?_⟩; (· first | trivial | simp [pairsQ, pairsOk, apart, ent0]))
      | (apply Wp.cond_lit; (· simp only [go_sem, reduceIte, Nat.reduceEqDiff, Nat.reduceAdd, bx, ax, if_true, if_false, Nat.reduceMul, Nat.reduceLeDiff, gm, ga, gr]; exact rfl); (· rfl))
      | refine Wp.skip ?_
      | refine Wp.label ?_
      | refine Wp.block ?_
      | refine Wp.exit ?_
      | refine Wp.seq ?_)
    rw [upd_ob]
    have on1 := On.step ⟨hn1, hm1, ok, .refl, .refl⟩ on2
    have on3 := On.put_ob (A := []) (o' := .cells [.sl 2 (S.L.map encI) .any, .int .i64 S.last, .int .i64 S.mark]) on2.ok
    have on4 := (on1.step on3).grown.grown.grown
    refine Wp.ret ⟨trivial, .tup [.ptr s' 0, encS S, .bool true], ?_, ?_⟩
    · simp only [resOf, rvs, rv, go_sem, reduceIte, Nat.reduceEqDiff, lay_ob_at, encS]; rfl
    · exact ⟨_, [F'], on4.ends1 (by simp) hF'.k (VSub.refl _) ⟨s', F', by rw [hst], rfl, by rw [hst]; exact hF'⟩⟩
  have d3 := decide_eq_false k3
  have hap := apply_g hF hS.ri (S.last + a.t) a.l (by omega) (hS.room (by omega))
  have har := applyR_p S hS.ri hsm hS.ls (S.last + a.t) a.l (by omega)
  have hst : stepA S a = (applyB S (S.last + a.t) a.l).1 := by rw [stepA, if_neg k1, if_neg k2, if_neg k3]
  generalize applyB S (S.last + a.t) a.l = V at *
  unfold encS at har
  repeat (first
    | ((first | apply Wp.seqItemsR | apply Wp.itemsR | ((first
        | (refine WpItems.pcall ?_ ?_ (har) ?_; (· simp only [go_sem, reduceIte, Nat.reduceEqDiff, Nat.reduceAdd, bx]); (· simp only [go_sem, reduceIte, Nat.reduceEqDiff, Nat.reduceAdd, bx, List.map]; first | exact VSubs.refl _ | (repeat (first | exact VSubs.nil | refine VSubs.cons (by first | exact VSub.refl _ | assumption | exact VSub.cap | exact VSub.any _) ?_))))); apply WpItems.evR)); (· simp only [go_sem, reduceIte, Nat.reduceEqDiff, Nat.reduceAdd, bx, ax, if_true, if_false, Nat.reduceMul, Nat.reduceLeDiff, gm, ga, gr, d1, d2, d3, w2]; exact rfl))
    | (refine WpItems.nil ⟨?_, ?_⟩; (· first | trivial | simp [pairsQ, pairsOk, apart, ent0]))
    | (apply Wp.cond_lit; (· simp only [go_sem, reduceIte, Nat.reduceEqDiff, Nat.reduceAdd, bx, ax, if_true, if_false, Nat.reduceMul, Nat.reduceLeDiff, gm, ga, gr, d1, d2, d3, w2]; exact rfl); (· rfl))
    | refine Wp.skip ?_
    | refine Wp.label ?_
    | refine Wp.block ?_
    | refine Wp.exit ?_
    | refine Wp.seq ?_)
  rw [upd_new, upd_ob]
  have ok4 := ok3.more (.cells [.sl 2 (V.1.L.map encI) .any, .int .i64 V.1.last, .int .i64 V.1.mark])
  have r1 : a.l.length * 40 ≤ 140737488355328 := by omega
  have r2 : a.l.length < 4611686018427387904 := by omega
  repeat (first
    | ((first | apply Wp.seqItemsR | apply Wp.itemsR); (· simp only [go_sem, reduceIte, Nat.reduceEqDiff, Nat.reduceAdd, bx, ax, if_true, if_false, Nat.reduceMul, Nat.reduceLeDiff, gm, ga, gr, s0, s1, s2, s3, w2, chs_length, List.length_nil, List.map_nil, List.nil_append, List.all_nil, r1, r2]; exact rfl))
    | (refine WpItems.nil ⟨?_, ?_⟩; (· first | trivial | simp [pairsQ, pairsOk, apart, ent0]))
    | (apply Wp.cond_lit; (· simp only [go_sem, reduceIte, Nat.reduceEqDiff, Nat.reduceAdd, bx, ax, if_true, if_false, Nat.reduceMul, Nat.reduceLeDiff, gm, ga, gr, s0, s1, s2, s3, w2, chs_length, List.length_nil, List.map_nil, List.nil_append, List.all_nil, r1, r2]; exact rfl); (· rfl))
    | refine Wp.skip ?_
    | refine Wp.label ?_
    | refine Wp.block ?_
    | refine Wp.exit ?_
    | refine Wp.seq ?_)
  refine WpItems.gcallI [_, _, _, _] [F] [] (by simp only [go_sem, bx]) (by simp only [go_sem, reduceIte, Nat.reduceEqDiff, List.map]; exact VSubs.cons (VSub.refl _) (VSubs.cons (VSub.refl _) (VSubs.cons VSub.own VSubs.nil))) hap (Ok.tok ok4) fun r G' n' T' m' ids hq on hids => ?_
  obtain ⟨rfl, F', rfl, hF'⟩ := hq
  have hi := nin ids _ hids
  simp only [List.cons_append, List.nil_append, List.append_nil] at on ⊢
  refine WpItems.evR (by simp only [go_sem, reduceIte, Nat.reduceEqDiff, Nat.reduceAdd, bx, gm, ga, gr, s0, s1, s2, s3, decide_true]; exact rfl) ?_
  have hu := Ok.upd_ob (A := [_]) (.cells [.sl 2 (V.1.L.map encI) .any, .int .i64 V.1.last, .int .i64 V.1.mark]) on.ok
  have on2 := on.step (On.put_ob (A := [_]) (o' := .cells [.sl 2 (V.1.L.map encI) .any, .int .i64 V.1.last, .int .i64 V.1.mark]) on.ok)
  simp only [List.cons_append, List.nil_append] at hu on2
  rw [hu]
  refine WpItems.nil ⟨?_, ?_⟩
  · simp [pairsQ, pairsOk, apart, ent0]
    exact hi _ (by omega) (by omega)
  have on3 := (On.step ⟨Nat.le_refl _, Nat.le_succ _, Ok.tok ok4, .refl, .refl⟩ on2).grown.grown.grown.grown
  refine Wp.ret ⟨trivial, .tup [.ptr s 0, encS V.1, .bool true], ?_, ?_⟩
  · simp only [resOf, rvs, rv, go_sem, reduceIte, Nat.reduceEqDiff, s2, lay_ob_at, encS]; rfl
  · exact ⟨_, [F'], on3.ends1 (by simp) hF'.k (VSub.refl _) ⟨s, F', by rw [hst], rfl, by rw [hst]; exact hF'⟩⟩
end Go.Proofs.Ytpehfflehebmbaa.Space
end
section
set_option linter.unusedSimpArgs false
set_option linter.unusedVariables false
set_option maxRecDepth 10000
namespace Go.Proofs.Ytpehfflehebmbaa.Space
open Go Go.Av Go.Proofs Go.Proofs.Ytpehfflehebmbaa.C Go.Proofs.Ytpehfflehebmbaa.Batch
def S0 : Spc := ⟨[], 0, 0⟩
def playS (S : Spc) (l : List Act) : Spc := l.foldl stepA S
theorem play_snoc (S : Spc) (l : List Act) {j : Nat} (h : j < l.length) : playS S (l.take (j + 1)) = stepA (playS S (l.take j)) (l.getD j default) := by
  rw [take_snoc default h, playS, List.foldl_append]; rfl
theorem step_keeps {S : Spc} {k : Nat} {a : Act} (hF : Fit S k) (hR : Rt S) (hc : ∀ c ∈ a.l, Ls c.k) : Fit (stepA S a) (k + a.l.length) ∧ Rt (stepA S a) := by
  unfold stepA
  split
  · exact ⟨(hF.vac _).mono (by omega), hR.vac hF _⟩
  · split
    · exact ⟨hF.mono (by omega), hR⟩
    · split
      · exact ⟨hF.mono (by omega), hR⟩
      · exact ⟨hF.apply _ _ hc, hR.apply hF _ _⟩
theorem Few.ls {l : List Act} (h : Few l) {a : Act} (ha : a ∈ l) : ∀ c ∈ a.l, Ls c.k := fun c hc => by
  have := (h.c a ha c hc).1
  unfold Ls; omega
theorem play_keeps {S : Spc} {k : Nat} (hF : Fit S k) (hR : Rt S) {l : List Act} (h : Few l) : ∀ j, j ≤ l.length → Fit (playS S (l.take j)) (k + cntA (l.take j)) ∧ Rt (playS S (l.take j))
  | 0, _ => ⟨by simpa [playS, cntA] using hF, by simpa [playS] using hR⟩
  | j + 1, hj => by
    obtain ⟨h1, h2⟩ := play_keeps hF hR h j (by omega)
    rw [play_snoc S l (show j < l.length by omega), cntA_snoc (show j < l.length by omega)]
    have hm : l.getD j default ∈ l := by rw [getD_el (show j < l.length by omega)]; exact List.getElem_mem _
    obtain ⟨h3, h4⟩ := step_keeps h1 h2 (h.ls hm)
    exact ⟨h3.mono (by omega), h4⟩
theorem Few.cnt {l : List Act} (h : Few l) (j : Nat) (hj : j ≤ l.length) : cntA (l.take j) ≤ 200 := by
  have := cnt_mono l hj
  rw [List.take_length] at this
  exact Nat.le_trans this h.n
theorem ole_turn {i : Nat} {o o' : Av.Obj} {l : List Fr} (hs : OSub o o') : OLe (lay (ob i o :: l)) (lay (ob i o' :: l)) := by
  intro j p hj
  by_cases e : j = i
  · subst e
    rw [lay_ob_at] at hj
    cases hj
    exact ⟨o, lay_ob_at _ _ _, hs⟩
  · rw [lay_ob_ne _ _ e] at hj
    exact ⟨p, by rw [lay_ob_ne _ _ e]; exact hj, OSub.refl _⟩
def spO (S : Spc) : Av.Obj := .cells [.sl 2 (S.L.map encI) .any, .int .i64 S.last, .int .i64 S.mark]
theorem spO0 : OSub (.cells [.sl 2 [] (.exact 0), .int .i64 0, .int .i64 0]) (spO S0) := VSubs.cons VSub.cap (VSubs.refl _)
end Go.Proofs.Ytpehfflehebmbaa.Space
end
section
set_option linter.unusedSimpArgs false
set_option linter.unusedVariables false
set_option maxRecDepth 10000
namespace Go.Proofs.Ytpehfflehebmbaa.Space
open Go Go.Av Go.Proofs Go.Proofs.Ytpehfflehebmbaa.C Go.Proofs.Ytpehfflehebmbaa.Batch
theorem plc_cons (x : Ver) (v : List Ver) (t : Int) : plc (x :: v) t = if x.t ≤ t then 0 else plc v t + 1 := by
  simp only [plc, List.findIdx_cons]
  by_cases h : x.t ≤ t <;> simp [h]
theorem at_cons {x : Ver} {v : List Ver} {t : Int} (hc : chB (x :: v) = true) (ht : t < x.t) : atB (x :: v) t = atB v t := by
  have hv := (chB_cons.1 hc).2.1
  have hp : plc (x :: v) t = plc v t + 1 := by rw [plc_cons, if_neg (by omega)]
  unfold atB
  rw [hp]
  simp only [hc, hv, true_and, List.length_cons, List.getD_cons_succ]
  by_cases h : plc v t < v.length
  · rw [if_pos (by omega), if_pos h]
  · rw [if_neg (by omega), if_neg h]
theorem at_nil (t : Int) : atB [] t = ([], false) := by simp [atB, plc]
theorem plc_mono {v : List Ver} {m t : Int} (h : m ≤ t) : plc v t ≤ plc v m := by
  induction v with
  | nil => simp [plc]
  | cons x v ih =>
    rw [plc_cons, plc_cons]
    by_cases h1 : x.t ≤ t
    · rw [if_pos h1]; omega
    · rw [if_neg h1, if_neg (by omega)]; omega
theorem plc_take {v : List Ver} {t : Int} : ∀ {k : Nat}, plc (v.take k) t = min k (plc v t) := by
  induction v with
  | nil => intro k; simp [plc]
  | cons x v ih =>
    intro k
    cases k with
    | zero => simp [plc]
    | succ k =>
      rw [List.take_succ_cons, plc_cons, plc_cons, ih]
      by_cases h : x.t ≤ t
      · simp [h]
      · simp only [if_neg h]; omega
theorem at_vac {v : List Ver} {m t : Int} (hc : chB v = true) (h : m ≤ t) : atB (vacB v m) t = atB v t := by
  have hmo := plc_mono (v := v) h
  have hle := plc_le v m
  rw [vacB, if_pos hc]
  have hck := chB_take hc (keepN v m)
  have hk : plc v m ≤ keepN v m ∧ keepN v m ≤ v.length := ⟨by unfold keepN; split <;> omega, keepN_le v m⟩
  unfold atB
  simp only [hc, hck, true_and, plc_take, List.length_take]
  by_cases h1 : plc v t < keepN v m
  · have e : min (keepN v m) (plc v t) = plc v t := by omega
    rw [e, if_pos (by omega), if_pos (by omega)]
    have e2 : (v.take (keepN v m)).getD (plc v t) default = v.getD (plc v t) default := by
      rw [List.getD_eq_getElem?_getD, List.getD_eq_getElem?_getD, List.getElem?_take, if_pos h1]
    rw [e2]
  · rw [if_neg (by omega)]
    by_cases h2 : plc v t < v.length
    · rw [if_pos h2]
      have e : plc v t = plc v m := by omega
      have hd : (v.getD (plc v m) default).d = true := by
        cases hd : (v.getD (plc v m) default).d with
        | true => rfl
        | false =>
          have : keepN v m = plc v m + 1 := by rw [keepN, if_pos ⟨by omega, hd⟩]
          omega
      have ho : okV (v.getD (plc v m) default) = true := by
        have := chB_iff.1 hc (plc v m) (by omega)
        unfold vOk at this
        simp only [Bool.and_eq_true] at this
        exact this.1
      rw [e, hd]
      simp only [okV, hd, Bool.not_true, Bool.false_or, Bool.and_eq_true, decide_eq_true_eq] at ho
      rw [ho.2]; rfl
    · rw [if_neg h2]
theorem mget_vacR {mark : Int} {q : Bs} : ∀ {L : List It}, RiseL L → mget (vacR mark L) q = vacB (mget L q) mark
  | [], _ => by simp [vacR, mget, vacB]
  | p :: L, hr => by
    obtain ⟨h1, h2⟩ := rise_cons.1 hr
    have ih := mget_vacR (mark := mark) (q := q) h2
    by_cases hv : vacB p.2 mark = []
    · have e : vacR mark (p :: L) = vacR mark L := by simp [vacR, hv]
      rw [e, ih, mget]
      split
      · rename_i e2
        have : mget L q = [] := mget_none _ _ fun hm => by
          obtain ⟨x, hx, e3⟩ := List.mem_map.1 hm
          have := h1 x hx
          rw [e3, e2, less_irrefl] at this; cases this
        rw [this, hv]; simp [vacB]
      · rfl
    · have e : vacR mark (p :: L) = (p.1, vacB p.2 mark) :: vacR mark L := by simp [vacR, hv]
      rw [e, mget, mget]
      split
      · rfl
      · exact ih
def Told (S S' : Spc) (t : Int) : Prop := ∀ q, atB (mget S'.L q) t = atB (mget S.L q) t
theorem told_vac {S : Spc} {k : Nat} (hF : Fit S k) (hR : Rt S) {m t : Int} (h : m ≤ t) : Told S (vacuumB S m).1 t := by
  intro q
  unfold vacuumB
  split
  · rfl
  · rw [vacS_eq hF.ri]
    simp only
    rw [mget_vacR hF.ri, at_vac (mget_right (fun p hp => (hR.it p hp).2.1) q) h]
theorem told_up {S : Spc} {k : Nat} (hF : Fit S k) (hR : Rt S) {T t : Int} (h1 : S.last < T) (h2 : T ≤ 1152921504606846976) (h3 : t ≤ S.last) {l : List Ch} (hf : fitB l = true) : ∀ j, j ≤ l.length → ∀ q, atB (mget ((l.take j).foldl (upR T S) S.L) q) t = atB (mget S.L q) t
  | 0, _, q => rfl
  | j + 1, hj, q => by
    have ih := told_up hF hR h1 h2 h3 hf j (by omega) q
    have hr := (do_eq T S hF.ri l hf j (by omega)).1
    rw [take_snoc default (show j < l.length by omega), List.foldl_append]
    simp only [List.foldl_cons, List.foldl_nil]
    rw [upR, setL_get hr]
    split
    · rename_i e
      obtain ⟨a, b⟩ := fit_ok hf (show j < l.length by omega)
      have hm := mget_right (fun p hp => (hR.it p hp).2.1) (l.getD j default).k
      have hx := okV_of (t := T) (by have := hR.mn; have := hR.ml; omega) h2 a b
      have hhd : mget S.L (l.getD j default).k ≠ [] → ((mget S.L (l.getD j default).k).getD 0 default).t < T := fun hn => by have := hR.head _ hn; omega
      have ha := add_right hm hx hhd
      rw [ha]
      simp only
      rw [at_cons (chB_cons.2 ⟨hx, hm, hhd⟩) (by simp only; omega), e]
    · exact ih
theorem told_apply {S : Spc} {k : Nat} (hF : Fit S k) (hR : Rt S) {T t : Int} (h3 : t ≤ S.last) (l : List Ch) : Told S (applyB S T l).1 t := by
  intro q
  unfold applyB
  split
  · rfl
  · split
    · rfl
    · rename_i h1 h2
      have hf : fitB l = true := by simpa using h2
      have e := (do_eq T S hF.ri l hf l.length (Nat.le_refl _)).2.2
      have hu := told_up hF hR (T := T) (t := t) (by omega) (by omega) h3 hf l.length (Nat.le_refl _) q
      rw [List.take_length] at e hu
      rw [e]; exact hu
theorem rise_ext : ∀ {A B : List Pr}, A.Pairwise (fun x y => Op.bytesLess x.k y.k = true) → B.Pairwise (fun x y => Op.bytesLess x.k y.k = true) → (∀ x, x ∈ A ↔ x ∈ B) → A = B
  | [], [], _, _, _ => rfl
  | [], y :: B, _, _, h => absurd ((h y).2 (by simp)) (by simp)
  | x :: A, [], _, _, h => absurd ((h x).1 (by simp)) (by simp)
  | x :: A, y :: B, hA, hB, h => by
    obtain ⟨a1, a2⟩ := List.pairwise_cons.1 hA
    obtain ⟨b1, b2⟩ := List.pairwise_cons.1 hB
    have e : x = y := by
      rcases List.mem_cons.1 ((h x).1 (by simp)) with e | e
      · exact e
      · rcases List.mem_cons.1 ((h y).2 (by simp)) with e' | e'
        · exact e'.symm
        · have := less_trans (b1 x e) (a1 y e')
          rw [less_irrefl] at this; cases this
    subst e
    rw [rise_ext a2 b2 fun z => ⟨fun hz => ?_, fun hz => ?_⟩]
    · rcases List.mem_cons.1 ((h z).1 (by simp [hz])) with e | e
      · have := a1 z hz; rw [e, less_irrefl] at this; cases this
      · exact e
    · rcases List.mem_cons.1 ((h z).2 (by simp [hz])) with e | e
      · have := b1 z hz; rw [e, less_irrefl] at this; cases this
      · exact e
theorem tellW_some {a b : Bs} {t : Int} {p : It} {x : Pr} : tellW a b t p = some x ↔ inB p.1 a b = true ∧ p.1 = x.k ∧ atB p.2 t = (x.v, true) := by
  unfold tellW tellP
  constructor
  · intro h
    split at h
    · split at h
      · rename_i h1 h2
        cases h
        exact ⟨h1, rfl, Prod.ext rfl h2⟩
      · cases h
    · cases h
  · rintro ⟨h1, h2, h3⟩
    rw [if_pos h1, if_pos (by rw [h3]), h3]
    cases x; simp only at h2; rw [h2]
theorem tells_rise {a b : Bs} {t : Int} : ∀ {L : List It}, RiseL L → (L.filterMap (tellW a b t)).Pairwise (fun x y => Op.bytesLess x.k y.k = true)
  | [], _ => by simp
  | p :: L, hr => by
    obtain ⟨h1, h2⟩ := rise_cons.1 hr
    rw [List.filterMap_cons]
    cases hp : tellW a b t p with
    | none => exact tells_rise h2
    | some x =>
      simp only
      refine List.pairwise_cons.2 ⟨fun y hy => ?_, tells_rise h2⟩
      obtain ⟨z, hz, e⟩ := List.mem_filterMap.1 hy
      rw [← (tellW_some.1 hp).2.1, ← (tellW_some.1 e).2.1]
      exact h1 z hz
theorem tells_mem {L : List It} (hr : RiseL L) {a b : Bs} {t : Int} {x : Pr} : x ∈ L.filterMap (tellW a b t) ↔ inB x.k a b = true ∧ atB (mget L x.k) t = (x.v, true) := by
  rw [List.mem_filterMap]
  constructor
  · rintro ⟨p, hp, e⟩
    obtain ⟨h1, h2, h3⟩ := tellW_some.1 e
    rw [← h2, mget_mem hr hp]
    exact ⟨h1, h3⟩
  · rintro ⟨h1, h2⟩
    have hn : mget L x.k ≠ [] := fun e => by rw [e, at_nil] at h2; exact absurd (congrArg Prod.snd h2) (by simp)
    obtain ⟨p, hp, e1, e2⟩ := mget_prop (P := fun p => p ∈ L) (fun p hp => hp) x.k hn
    exact ⟨p, hp, tellW_some.2 ⟨by rw [e2]; exact h1, e2, by rw [e1]; exact h2⟩⟩
theorem told_all {S S' : Spc} (hr : RiseL S.L) (hr' : RiseL S'.L) {t : Int} (h : Told S S' t) (a b : Bs) : allS S' a b t = allS S a b t := by
  rw [allS_eq hr, allS_eq hr', filter_tell, filter_tell]
  refine rise_ext (tells_rise hr') (tells_rise hr) fun x => ?_
  rw [tells_mem hr, tells_mem hr', h x.k]
def skipA (S : Spc) (t : Int) (a : Act) : Bool := decide (a.k = 1) && decide (t < S.mark + a.t)
def stayA (t : Int) (S : Spc) (a : Act) : Spc := if skipA S t a = true then S else stepA S a
def stayS (t : Int) (S : Spc) (l : List Act) : Spc := l.foldl (stayA t) S
theorem kept_iff {S : Spc} {t : Int} : keptB S t = 0 ↔ S.mark ≤ t ∧ t ≤ S.last := by
  unfold keptB
  constructor
  · intro h
    split at h
    · omega
    · split at h <;> omega
  · intro h
    rw [if_neg (by omega), if_neg (by omega)]
theorem told_step {S : Spc} {k : Nat} (hF : Fit S k) (hR : Rt S) {t : Int} (hk : keptB S t = 0) {a : Act} (hs : skipA S t a = false) : Told S (stepA S a) t ∧ keptB (stepA S a) t = 0 := by
  obtain ⟨k1, k2⟩ := kept_iff.1 hk
  unfold stepA
  split
  · rename_i h1
    have hm : S.mark + a.t ≤ t := by
      simp only [skipA, h1, decide_true, Bool.true_and, decide_eq_false_iff_not] at hs
      omega
    refine ⟨told_vac hF hR hm, kept_iff.2 ?_⟩
    unfold vacuumB
    split
    · exact ⟨k1, k2⟩
    · rw [vacS_eq hF.ri]; exact ⟨hm, k2⟩
  · split
    · exact ⟨fun q => rfl, hk⟩
    · split
      · exact ⟨fun q => rfl, hk⟩
      · refine ⟨told_apply hF hR k2 _, kept_iff.2 ?_⟩
        unfold applyB
        split
        · exact ⟨k1, k2⟩
        · split
          · exact ⟨k1, k2⟩
          · rename_i h1 h2
            have hf : fitB a.l = true := by simpa using h2
            have e := (do_eq (S.last + a.t) S hF.ri a.l hf a.l.length (Nat.le_refl _)).2.2
            rw [List.take_length] at e
            rw [e]
            exact ⟨k1, by simp only; omega⟩
theorem stay_snoc (t : Int) (S : Spc) (l : List Act) {j : Nat} (h : j < l.length) : stayS t S (l.take (j + 1)) = stayA t (stayS t S (l.take j)) (l.getD j default) := by
  rw [take_snoc default h, stayS, List.foldl_append]; rfl
theorem stay_keeps {S : Spc} {k : Nat} (hF : Fit S k) (hR : Rt S) {t : Int} (hk : keptB S t = 0) {l : List Act} (h : Few l) : ∀ j, j ≤ l.length → Fit (stayS t S (l.take j)) (k + cntA (l.take j)) ∧ Rt (stayS t S (l.take j)) ∧ Told S (stayS t S (l.take j)) t ∧ keptB (stayS t S (l.take j)) t = 0
  | 0, _ => ⟨by simpa [stayS, cntA] using hF, by simpa [stayS] using hR, fun q => rfl, by simpa [stayS] using hk⟩
  | j + 1, hj => by
    obtain ⟨h1, h2, h3, h4⟩ := stay_keeps hF hR hk h j (by omega)
    rw [stay_snoc t S l (show j < l.length by omega), cntA_snoc (show j < l.length by omega)]
    have hm : l.getD j default ∈ l := by rw [getD_el (show j < l.length by omega)]; exact List.getElem_mem _
    unfold stayA
    cases hs : skipA (stayS t S (l.take j)) t (l.getD j default) with
    | true => rw [if_pos rfl]; exact ⟨h1.mono (by omega), h2, h3, h4⟩
    | false =>
      rw [if_neg Bool.false_ne_true]
      obtain ⟨h5, h6⟩ := step_keeps h1 h2 (h.ls hm)
      obtain ⟨h7, h8⟩ := told_step h1 h2 h4 hs
      exact ⟨h5.mono (by omega), h6, fun q => (h7 q).trans (h3 q), h8⟩
end Go.Proofs.Ytpehfflehebmbaa.Space
end
section
set_option linter.unusedSimpArgs false
set_option linter.unusedVariables false
set_option maxRecDepth 10000
namespace Go.Proofs.Ytpehfflehebmbaa.Space
open Go Go.Av Go.Proofs Go.Proofs.Ytpehfflehebmbaa.C Go.Proofs.Ytpehfflehebmbaa.Batch
theorem Wp.meet2 {P : Program} {N : Nat} {c c2 y : AC} {s : St} {Q Q1 Q2 : AExit → St → Prop} (S : St) (h1 : Wp P N c s (AExit.andThen (fun s1 => Wp P N c2 s1 (AExit.andThen (fun s' => StLe s' S) Q1)) Q)) (h2 : Wp P N y S Q2) : Wp P N c s (AExit.andThen (fun s1 => Wp P N c2 s1 (AExit.andThen (fun s' => Wp P N y s' Q2) Q1)) Q) := by
  refine Wp.mono h1 ?_
  intro e s' h
  cases e with
  | normal => exact Wp.meet S h h2
  | exit id => exact h
  | goto l => exact h
  | ret => exact h
  | panic v => exact h
theorem told_get {S S' : Spc} {t : Int} (h : Told S S' t) (h1 : keptB S t = 0) (h2 : keptB S' t = 0) (q : Bs) : getB S' q t = getB S q t := by
  rw [getB, getB, if_pos h1, if_pos h2, h q]
set_option maxHeartbeats 4000000 in
theorem stays_p (l l2 : List Act) (hl : l.length ≤ 35184372088832) (hv : ∀ x ∈ l, x.l.length ≤ 35184372088832) (hl2 : l2.length ≤ 35184372088832) (hv2 : ∀ x ∈ l2, x.l.length ≤ 35184372088832) (t : Int) (a b : Bs) (la : Ls a) (lb : Ls b) : PCalls Try.prog 7 [.sl 3 (l.map encA) .any, .sl 3 (l2.map encA) .any, .int .i64 t, .str a, .str b] (.bool true) := by
  refine f7.pcalls0 (by simp) (by simp [allPure, isPure, capPure, acts_pure]) rfl ?_
  unfold c7
  have hil : (l.map encA).length = l.length := by simp
  have hil2 : (l2.map encA).length = l2.length := by simp
  have hL := lives_p
  have hfew := few_p l hl hv
  have hfew2 := few_p l2 hl2 hv2
  cases hfw : fewB l with
  | false =>
    rw [hfw] at hfew
    repeat (first
      | ((first | apply Wp.seqItemsR | apply Wp.itemsR | ((first
          | (refine WpItems.pcall ?_ ?_ (hfew) ?_; (· simp only [go_sem, reduceIte, Nat.reduceEqDiff, Nat.reduceAdd, bx]); (· simp only [go_sem, reduceIte, Nat.reduceEqDiff, Nat.reduceAdd, bx, List.map]; first | exact VSubs.refl _ | (repeat (first | exact VSubs.nil | refine VSubs.cons (by first | exact VSub.refl _ | assumption | exact VSub.cap | exact VSub.any _) ?_))))
          | (refine WpItems.pcall ?_ ?_ (hL) ?_; (· simp only [go_sem, reduceIte, Nat.reduceEqDiff, Nat.reduceAdd, bx]); (· simp only [go_sem, reduceIte, Nat.reduceEqDiff, Nat.reduceAdd, bx, List.map]; first | exact VSubs.refl _ | (repeat (first | exact VSubs.nil | refine VSubs.cons (by first | exact VSub.refl _ | assumption | exact VSub.cap | exact VSub.any _) ?_))))); apply WpItems.evR)); (· simp only [go_sem, reduceIte, Nat.reduceEqDiff, Nat.reduceAdd, bx, ax, if_true, if_false, Nat.reduceMul, Nat.reduceLeDiff, hil]; exact rfl))
      | (refine WpItems.nil ⟨?_, ?_⟩; (· first | trivial | simp [pairsQ, pairsOk, apart, ent0]))
      | (apply Wp.cond_lit; (· simp only [go_sem, reduceIte, Nat.reduceEqDiff, Nat.reduceAdd, bx, ax, if_true, if_false, Nat.reduceMul, Nat.reduceLeDiff, hil]; exact rfl); (· rfl))
      | refine Wp.skip ?_
      | refine Wp.label ?_
      | refine Wp.block ?_
      | refine Wp.exit ?_
      | refine Wp.seq ?_)
    refine Wp.ret ⟨trivial, _, rfl, ?_⟩
    simp only [go_sem, reduceIte, Nat.reduceEqDiff, Nat.reduceAdd, bx]
    exact VSub.refl _
  | true =>
    rw [hfw] at hfew
    cases hfw2 : fewB l2 with
    | false =>
      rw [hfw2] at hfew2
      repeat (first
        | ((first | apply Wp.seqItemsR | apply Wp.itemsR | ((first
            | (refine WpItems.pcall ?_ ?_ (hfew) ?_; (· simp only [go_sem, reduceIte, Nat.reduceEqDiff, Nat.reduceAdd, bx]); (· simp only [go_sem, reduceIte, Nat.reduceEqDiff, Nat.reduceAdd, bx, List.map]; first | exact VSubs.refl _ | (repeat (first | exact VSubs.nil | refine VSubs.cons (by first | exact VSub.refl _ | assumption | exact VSub.cap | exact VSub.any _) ?_))))
            | (refine WpItems.pcall ?_ ?_ (hfew2) ?_; (· simp only [go_sem, reduceIte, Nat.reduceEqDiff, Nat.reduceAdd, bx]); (· simp only [go_sem, reduceIte, Nat.reduceEqDiff, Nat.reduceAdd, bx, List.map]; first | exact VSubs.refl _ | (repeat (first | exact VSubs.nil | refine VSubs.cons (by first | exact VSub.refl _ | assumption | exact VSub.cap | exact VSub.any _) ?_))))
            | (refine WpItems.pcall ?_ ?_ (hL) ?_; (· simp only [go_sem, reduceIte, Nat.reduceEqDiff, Nat.reduceAdd, bx]); (· simp only [go_sem, reduceIte, Nat.reduceEqDiff, Nat.reduceAdd, bx, List.map]; first | exact VSubs.refl _ | (repeat (first | exact VSubs.nil | refine VSubs.cons (by first | exact VSub.refl _ | assumption | exact VSub.cap | exact VSub.any _) ?_))))); apply WpItems.evR)); (· simp only [go_sem, reduceIte, Nat.reduceEqDiff, Nat.reduceAdd, bx, ax, if_true, if_false, Nat.reduceMul, Nat.reduceLeDiff, hil]; exact rfl))
        | (refine WpItems.nil ⟨?_, ?_⟩; (· first | trivial | simp [pairsQ, pairsOk, apart, ent0]))
        | (apply Wp.cond_lit; (· simp only [go_sem, reduceIte, Nat.reduceEqDiff, Nat.reduceAdd, bx, ax, if_true, if_false, Nat.reduceMul, Nat.reduceLeDiff, hil]; exact rfl); (· rfl))
        | refine Wp.skip ?_
        | refine Wp.label ?_
        | refine Wp.block ?_
        | refine Wp.exit ?_
        | refine Wp.seq ?_)
      refine Wp.ret ⟨trivial, _, rfl, ?_⟩
      simp only [go_sem, reduceIte, Nat.reduceEqDiff, Nat.reduceAdd, bx]
      exact VSub.refl _
    | true =>
    rw [hfw2] at hfew2
    have hw := few_of hfw
    have hw2 := few_of hfw2
    repeat (first
      | ((first | apply Wp.seqItemsR | apply Wp.itemsR | ((first
          | (refine WpItems.pcall ?_ ?_ (hfew) ?_; (· simp only [go_sem, reduceIte, Nat.reduceEqDiff, Nat.reduceAdd, bx]); (· simp only [go_sem, reduceIte, Nat.reduceEqDiff, Nat.reduceAdd, bx, List.map]; first | exact VSubs.refl _ | (repeat (first | exact VSubs.nil | refine VSubs.cons (by first | exact VSub.refl _ | assumption | exact VSub.cap | exact VSub.any _) ?_))))
          | (refine WpItems.pcall ?_ ?_ (hfew2) ?_; (· simp only [go_sem, reduceIte, Nat.reduceEqDiff, Nat.reduceAdd, bx]); (· simp only [go_sem, reduceIte, Nat.reduceEqDiff, Nat.reduceAdd, bx, List.map]; first | exact VSubs.refl _ | (repeat (first | exact VSubs.nil | refine VSubs.cons (by first | exact VSub.refl _ | assumption | exact VSub.cap | exact VSub.any _) ?_))))); apply WpItems.evR)); (· simp only [go_sem, reduceIte, Nat.reduceEqDiff, Nat.reduceAdd, bx, ax, if_true, if_false, Nat.reduceMul, Nat.reduceLeDiff, hil]; exact rfl))
      | (refine WpItems.nil ⟨?_, ?_⟩; (· first | trivial | simp [pairsQ, pairsOk, apart, ent0]))
      | (apply Wp.cond_lit; (· simp only [go_sem, reduceIte, Nat.reduceEqDiff, Nat.reduceAdd, bx, ax, if_true, if_false, Nat.reduceMul, Nat.reduceLeDiff, hil]; exact rfl); (· rfl))
      | refine Wp.skip ?_
      | refine Wp.label ?_
      | refine Wp.block ?_
      | refine Wp.exit ?_
      | refine Wp.seq ?_)
    show WpItems _ _ _ _ ⟨lay [], 0, [], 0⟩ _ _
    refine WpItems.gcall1 (by simp only [go_sem, reduceIte, Nat.reduceEqDiff, Nat.reduceAdd, bx]) (by simp only [go_sem, reduceIte, Nat.reduceEqDiff, Nat.reduceAdd, bx, List.map]; first | exact VSubs.refl _ | (repeat (first | exact VSubs.nil | refine VSubs.cons (by first | exact VSub.refl _ | assumption | exact VSub.cap | exact VSub.any _) ?_))) (new_g) (Ok.nil) fun r1 G1 n1 T1 m1 ids1 hq1 on1 => ?_
    obtain ⟨s0, F0, rfl, rfl, hF0⟩ := hq1
    refine WpItems.evR (by simp only [go_sem, reduceIte, Nat.reduceEqDiff, Nat.reduceAdd, bx]; exact rfl) ?_
    repeat (first
      | ((first | apply Wp.seqItemsR | apply Wp.itemsR); (· simp only [go_sem, reduceIte, Nat.reduceEqDiff, Nat.reduceAdd, bx, ax, if_true, if_false, Nat.reduceMul, Nat.reduceLeDiff, hil]; exact rfl))
      | (refine WpItems.nil ⟨?_, ?_⟩; (· first | trivial | simp [pairsQ, pairsOk, apart, ent0]))
      | (apply Wp.cond_lit; (· simp only [go_sem, reduceIte, Nat.reduceEqDiff, Nat.reduceAdd, bx, ax, if_true, if_false, Nat.reduceMul, Nat.reduceLeDiff, hil]; exact rfl); (· rfl))
      | refine Wp.skip ?_
      | refine Wp.label ?_
      | refine Wp.block ?_
      | refine Wp.exit ?_
      | refine Wp.seq ?_)
    rw [upd_new]
    have ok2 := on1.ok.more (.cells [.sl 2 [] (.exact 0), .int .i64 0, .int .i64 0])
    refine Wp.le (StLe.of (fun i => VSub.refl _) (ole_turn spO0) (fun _ h => h) (Nat.le_refl _) (Nat.le_refl _)) ?_
    have ok3 := ok2.turn (o' := spO S0)
    have keeps := play_keeps (S := S0) Fit.zero Rt.zero hw
    refine Wp.loopG (β := Nat × Nat) [0, 1, 2, 3, 4, 12] (by simp only [go_sem, reduceIte, Nat.reduceEqDiff, List.map]; exact rfl) (fun b => [(11, .ptr b.2 0), (13, .int .i64 (b.1 : Nat))]) (fun b L => b.1 ≤ l.length ∧ ∃ F, L = [ob n1 (spO (playS S0 (l.take b.1))), F] ∧ SpcF b.2 (playS S0 (l.take b.1)) F) (fun b => l.length - b.1) (0, s0) ⟨Nat.zero_le _, F0, rfl, hF0⟩ ok3 (by simp only [AllSub, go_sem, reduceIte, Nat.reduceEqDiff]; exact ⟨VSub.refl _, VSub.refl _, trivial⟩) ?_
    rintro ⟨j, s⟩ L n2 T2 m2 on ⟨hj, F, rfl, hF⟩
    simp only at hj hF ⊢
    obtain ⟨hfit, hrt⟩ := keeps j hj
    have hcn := hw.cnt j hj
    by_cases hc : j < l.length
    · have g1 : decide (((j : Nat) : Int) < ((l.length : Nat) : Int)) = true := decide_eq_true (by omega)
      have h2 : (0 : Int) ≤ ((j : Nat) : Int) := by omega
      have h3 : ((j : Nat) : Int) < ((l.length : Nat) : Int) := by omega
      have e1 : IntKind.i64.wrap (((j : Nat) : Int) + 1) = ((j + 1 : Nat) : Int) := by rw [IntWalk.i64_in _ (by omega)]; omega
      have hat := enc_at encA l j .any hc
      have hm : l.getD j default ∈ l := by rw [getD_el hc]; exact List.getElem_mem _
      have hsn := play_snoc S0 l hc
      obtain ⟨hfit2, hrt2⟩ := keeps (j + 1) hc
      have hcn2 := hw.cnt (j + 1) hc
      have hcs := cntA_snoc hc
      have htb := hw.t _ hm
      generalize hS2 : playS S0 (l.take (j + 1)) = S2 at *
      generalize hS1 : playS S0 (l.take j) = S1 at *
      generalize l.getD j default = x at *
      have hst := step_g (a := x) hF hfit hrt (by omega) htb.1 htb.2
      have sp1 : lay [ob n1 (spO S1), F] n1 = some (.cells [.sl 2 (S1.L.map encI) .any, .int .i64 S1.last, .int .i64 S1.mark]) := lay_ob_at _ _ _
      repeat (first
        | ((first | apply Wp.seqItemsR | apply Wp.itemsR); (· simp only [go_sem, reduceIte, Nat.reduceEqDiff, Nat.reduceAdd, bx, ax, if_true, if_false, Nat.reduceMul, Nat.reduceLeDiff, g1, h2, h3, e1, hil, hat, encA, sp1]; exact rfl))
        | (refine WpItems.nil ⟨?_, ?_⟩; (· first | trivial | simp [pairsQ, pairsOk, apart, ent0]))
        | (apply Wp.cond_lit; (· simp only [go_sem, reduceIte, Nat.reduceEqDiff, Nat.reduceAdd, bx, ax, if_true, if_false, Nat.reduceMul, Nat.reduceLeDiff, g1, h2, h3, e1, hil, hat, encA, sp1]; exact rfl); (· rfl))
        | refine Wp.skip ?_
        | refine Wp.label ?_
        | refine Wp.block ?_
        | refine Wp.exit ?_
        | refine Wp.seq ?_)
      unfold encS encA at hst
      refine WpItems.gcallI [_] [F] [] (by simp only [go_sem, bx]) (by simp only [go_sem, reduceIte, Nat.reduceEqDiff, List.map]; exact VSubs.refl _) hst on.ok fun r G' n3 T3 m3 ids3 hq3 on3 hids3 => ?_
      obtain ⟨s2, F2, rfl, rfl, hF2⟩ := hq3
      rw [← hsn] at hF2 ⊢
      simp only [List.cons_append, List.nil_append, List.append_nil] at on3 ⊢
      refine WpItems.evR (by simp only [go_sem, reduceIte, Nat.reduceEqDiff, Nat.reduceAdd, bx, encS]; exact rfl) ?_
      rw [upd_new, upd_ob]
      have fn : F.o n1 = none := by
        have := on.ok.alone
        rw [lay_cons] at this
        cases h : F.o n1 with
        | none => rfl
        | some o => rw [h] at this; cases this
      have n12 : n1 < n2 := on.ok.lt (F := ob n1 (spO S1)) (by simp) (by rw [ob_o, if_pos rfl])
      have hi2 : ∀ id, id ∈ ids3 → ¬ id = n3 := fun id h e => by
        rcases hids3 id h with h | h
        · rw [e, lay_cons, on.ok.bd F (by simp) n3 on3.gn] at h; cases h
        · omega
      refine WpItems.nil ⟨?_, ?_⟩
      · simp [pairsQ, pairsOk, apart, ent0]
        exact ⟨by have := on3.gn; omega, hi2, fun h => hi2 _ h rfl⟩
      have ok4 := on3.ok.more (.cells [.sl 2 (S2.L.map encI) .any, .int .i64 S2.last, .int .i64 S2.mark])
      have sp2 : ∀ L, lay (ob n3 (.cells [.sl 2 (S2.L.map encI) .any, .int .i64 S2.last, .int .i64 S2.mark]) :: L) n3 = some (.cells [.sl 2 (S2.L.map encI) .any, .int .i64 S2.last, .int .i64 S2.mark]) := fun L => lay_ob_at _ _ _
      have sp3 : lay [ob n3 (.cells [.sl 2 (S2.L.map encI) .any, .int .i64 S2.last, .int .i64 S2.mark]), ob n1 (spO S1), F2] n1 = some (.cells [.sl 2 (S1.L.map encI) .any, .int .i64 S1.last, .int .i64 S1.mark]) := by
        rw [lay_ob_ne _ _ (by have := on3.gn; omega)]; exact lay_ob_at _ _ _
      repeat (first
        | ((first | apply Wp.seqItemsR | apply Wp.itemsR); (· simp only [go_sem, reduceIte, Nat.reduceEqDiff, Nat.reduceAdd, bx, ax, if_true, if_false, Nat.reduceMul, Nat.reduceLeDiff, sp2, sp3, e1]; exact rfl))
        | (refine WpItems.nil ⟨?_, ?_⟩; (· first | trivial | simp [pairsQ, pairsOk, apart, ent0]))
        | (apply Wp.cond_lit; (· simp only [go_sem, reduceIte, Nat.reduceEqDiff, Nat.reduceAdd, bx, ax, if_true, if_false, Nat.reduceMul, Nat.reduceLeDiff, sp2, sp3, e1]; exact rfl); (· rfl))
        | refine Wp.skip ?_
        | refine Wp.label ?_
        | refine Wp.block ?_
        | refine Wp.exit ?_
        | refine Wp.seq ?_)
      have hu := Ok.upd_ob (A := [_]) (spO S2) ok4
      have onp := On.put_ob (A := [_]) (o' := spO S2) ok4
      simp only [List.cons_append, List.nil_append] at hu onp
      have on7 := On.under (onp : On (ob n3 _ :: [ob n1 (spO S1), F2]) (n3 + 1) m3 (ob n3 _ :: [ob n1 (spO S2), F2]) (n3 + 1) T3 m3)
      refine ⟨(j + 1, s2), [ob n1 (spO S2), F2], n3 + 1, T3, m3, on3.step on7, ⟨by simp only; omega, F2, by simp only [hS2], by simp only [hS2]; exact hF2⟩, by simp only; omega, ?_⟩
      have e : ∀ o : Objs, o = lay (ob n3 (.cells [.sl 2 (S2.L.map encI) .any, .int .i64 S2.last, .int .i64 S2.mark]) :: [ob n1 (spO S2), F2]) → OLe o (lay [ob n1 (spO S2), F2]) := fun o h => by rw [h]; exact ole_drop_ob (Ok.alone onp.ok)
      refine StLe.of (tm_le ?_) (e _ hu) (fun _ h => h) (Nat.le_refl _) (Nat.le_refl _)
      simp only [AllSub, go_sem, reduceIte, Nat.reduceEqDiff, Nat.reduceAdd, bx]; and_intros <;> first | exact trivial | exact VSub.refl _ | exact VSub.any _ | (refine VSub.int ?_; omega)
    · have hje : j = l.length := by omega
      subst hje
      have g1 : decide (((l.length : Nat) : Int) < ((l.length : Nat) : Int)) = false := decide_eq_false (by omega)
      simp only at on
      rw [List.take_length] at hF hfit hcn hrt on
      have sp1 : lay [ob n1 (spO (playS S0 l)), F] n1 = some (.cells [.sl 2 ((playS S0 l).L.map encI) .any, .int .i64 (playS S0 l).last, .int .i64 (playS S0 l).mark]) := lay_ob_at _ _ _
      rw [List.take_length]
      generalize playS S0 l = S at *
      have hsm := hfit.small (by omega)
      have sg1 := scan_g hF hfit.ri hsm a b t (-1)
      have gg1 := get_r hF hsm a t
      by_cases hk : keptB S t = 0
      · have r1 : scanB S a b t (-1) = (allS S a b t, 0) := by rw [scanB, if_pos hk]; rfl
        rw [r1] at sg1
        have hln : (allS S a b t).length ≤ 500000 := by
          have := List.length_filterMap_le (tellW a b t) S.L
          have := hsm.1
          rw [allS_eq hfit.ri, filter_tell]; omega
        have hsp := samePr_p (allS S a b t) (allS S a b t) (by omega)
        rw [decide_eq_true rfl] at hsp
        have keeps2 := stay_keeps hfit hrt hk hw2
        have hone : (getB S a t).2 = 0 ∨ (getB S a t).2 = 7 := by
          rw [getB, if_pos hk]; split
          · exact .inl rfl
          · exact .inr rfl
        have tA : ∀ j, j ≤ l2.length → allS (stayS t S (l2.take j)) a b t = allS S a b t := fun j hj => told_all hfit.ri (keeps2 j hj).1.ri (keeps2 j hj).2.2.1 a b
        have tG : ∀ j, j ≤ l2.length → getB (stayS t S (l2.take j)) a t = getB S a t := fun j hj => told_get (keeps2 j hj).2.2.1 hk (keeps2 j hj).2.2.2 a
        generalize hW : allS S a b t = W at *
        generalize hG : getB S a t = G at *
        have d0 : decide ((0 : Int) = 0) = true := rfl
        have d07 : decide ((7 : Int) = 0) = false := rfl
        have d77 : decide ((7 : Int) = 7) = true := rfl
        repeat (first
          | ((first | apply Wp.seqItemsR | apply Wp.itemsR); (· simp only [go_sem, reduceIte, Nat.reduceEqDiff, Nat.reduceAdd, bx, ax, if_true, if_false, Nat.reduceMul, Nat.reduceLeDiff, g1, hil]; exact rfl))
          | (refine WpItems.nil ⟨?_, ?_⟩; (· first | trivial | simp [pairsQ, pairsOk, apart, ent0]))
          | (apply Wp.cond_lit; (· simp only [go_sem, reduceIte, Nat.reduceEqDiff, Nat.reduceAdd, bx, ax, if_true, if_false, Nat.reduceMul, Nat.reduceLeDiff, g1, hil]; exact rfl); (· rfl))
          | refine Wp.skip ?_
          | refine Wp.label ?_
          | refine Wp.block ?_
          | refine Wp.exit ?_
          | refine Wp.seq ?_)
        refine WpItems.gkeepI ([_]) ([]) (by simp only [go_sem, reduceIte, Nat.reduceEqDiff, Nat.reduceAdd, bx]) (by simp only [go_sem, reduceIte, Nat.reduceEqDiff, Nat.reduceAdd, bx, List.map]; first | exact VSubs.refl _ | (repeat (first | exact VSubs.nil | refine VSubs.cons (by first | exact VSub.refl _ | assumption | exact VSub.cap | exact VSub.any _) ?_))) (sg1) (hF.k) (on.ok) fun n4 m4 ids4 hn4 hm4 hids4 ok => ?_
        simp only [List.cons_append, List.nil_append] at ok ⊢
        refine WpItems.evR (by simp only [go_sem, reduceIte, Nat.reduceEqDiff, Nat.reduceAdd, bx]; exact rfl) ?_
        repeat (first
          | ((first | apply Wp.seqItemsR | apply Wp.itemsR | ((first
              | (refine WpItems.glook ?_ ?_ (gg1) (by first | exact fun j o h => h | exact ok.sub (by simp) | assumption) (fun ids => ?_); (· simp only [go_sem, reduceIte, Nat.reduceEqDiff, Nat.reduceAdd, bx]); (· simp only [go_sem, reduceIte, Nat.reduceEqDiff, Nat.reduceAdd, bx, List.map]; first | exact VSubs.refl _ | (repeat (first | exact VSubs.nil | refine VSubs.cons (by first | exact VSub.refl _ | assumption | exact VSub.cap | exact VSub.any _) ?_))))); apply WpItems.evR)); (· simp only [go_sem, reduceIte, Nat.reduceEqDiff, Nat.reduceAdd, bx, ax, if_true, if_false, Nat.reduceMul, Nat.reduceLeDiff, hil]; exact rfl))
          | (refine WpItems.nil ⟨?_, ?_⟩; (· first | trivial | simp [pairsQ, pairsOk, apart, ent0]))
          | (apply Wp.cond_lit; (· simp only [go_sem, reduceIte, Nat.reduceEqDiff, Nat.reduceAdd, bx, ax, if_true, if_false, Nat.reduceMul, Nat.reduceLeDiff, hil]; exact rfl); (· rfl))
          | refine Wp.skip ?_
          | refine Wp.label ?_
          | refine Wp.block ?_
          | refine Wp.exit ?_
          | refine Wp.seq ?_)
        have on4 : On [ob n1 (spO S), F] n2 m2 [ob n1 (spO S), F] n4 T2 m4 := ⟨hn4, hm4, ok, .refl, .refl⟩
        have hS00 : stayS t S (l2.take 0) = S := by simp [stayS]
        refine Wp.meet2 ⟨tm [(1, .sl 3 (l2.map encA) .any), (2, .int .i64 t), (3, .str a), (4, .str b), (11, .ptr s 0), (12, .ptr n1 0), (17, .sl 2 (prs W) .any), (19, .str G.1), (20, .int .i64 G.2)], ⟨lay [ob n1 (spO S), F], n4, T2, m4⟩⟩ ?_ ?_
        · rcases hone with h1 | h1
          · rw [h1]
            repeat (first
              | ((first | apply Wp.seqItemsR | apply Wp.itemsR); (· simp only [go_sem, reduceIte, Nat.reduceEqDiff, Nat.reduceAdd, bx, ax, if_true, if_false, Nat.reduceMul, Nat.reduceLeDiff, d0]; exact rfl))
              | (refine WpItems.nil ⟨?_, ?_⟩; (· first | trivial | simp [pairsQ, pairsOk, apart, ent0]))
              | (apply Wp.cond_lit; (· simp only [go_sem, reduceIte, Nat.reduceEqDiff, Nat.reduceAdd, bx, ax, if_true, if_false, Nat.reduceMul, Nat.reduceLeDiff, d0]; exact rfl); (· rfl))
              | refine Wp.skip ?_
              | refine Wp.label ?_
              | refine Wp.block ?_
              | refine Wp.exit ?_
              | refine Wp.seq ?_)
            refine StLe.tm (by simp only [AllSub, go_sem, reduceIte, Nat.reduceEqDiff, Nat.reduceAdd, bx]; and_intros <;> first | exact trivial | exact VSub.refl _ | exact VSub.any _ | (refine VSub.int ?_; omega))
          · rw [h1]
            repeat (first
              | ((first | apply Wp.seqItemsR | apply Wp.itemsR); (· simp only [go_sem, reduceIte, Nat.reduceEqDiff, Nat.reduceAdd, bx, ax, if_true, if_false, Nat.reduceMul, Nat.reduceLeDiff, d0, d07, d77]; exact rfl))
              | (refine WpItems.nil ⟨?_, ?_⟩; (· first | trivial | simp [pairsQ, pairsOk, apart, ent0]))
              | (apply Wp.cond_lit; (· simp only [go_sem, reduceIte, Nat.reduceEqDiff, Nat.reduceAdd, bx, ax, if_true, if_false, Nat.reduceMul, Nat.reduceLeDiff, d0, d07, d77]; exact rfl); (· rfl))
              | refine Wp.skip ?_
              | refine Wp.label ?_
              | refine Wp.block ?_
              | refine Wp.exit ?_
              | refine Wp.seq ?_)
            refine StLe.tm (by simp only [AllSub, go_sem, reduceIte, Nat.reduceEqDiff, Nat.reduceAdd, bx]; and_intros <;> first | exact trivial | exact VSub.refl _ | exact VSub.any _ | (refine VSub.int ?_; omega))
        repeat (first
          | ((first | apply Wp.seqItemsR | apply Wp.itemsR); (· simp only [go_sem, reduceIte, Nat.reduceEqDiff, Nat.reduceAdd, bx, ax, if_true, if_false, Nat.reduceMul, Nat.reduceLeDiff, hil2]; exact rfl))
          | (refine WpItems.nil ⟨?_, ?_⟩; (· first | trivial | simp [pairsQ, pairsOk, apart, ent0]))
          | (apply Wp.cond_lit; (· simp only [go_sem, reduceIte, Nat.reduceEqDiff, Nat.reduceAdd, bx, ax, if_true, if_false, Nat.reduceMul, Nat.reduceLeDiff, hil2]; exact rfl); (· rfl))
          | refine Wp.skip ?_
          | refine Wp.label ?_
          | refine Wp.block ?_
          | refine Wp.exit ?_
          | refine Wp.seq ?_)
        refine Wp.loopG (β := Nat × Nat) [1, 2, 3, 4, 12, 17, 19, 20] (by simp only [go_sem, reduceIte, Nat.reduceEqDiff, List.map]; exact rfl) (fun b => [(11, .ptr b.2 0), (21, .int .i64 (b.1 : Nat))]) (fun b L => b.1 ≤ l2.length ∧ ∃ F, L = [ob n1 (spO (stayS t S (l2.take b.1))), F] ∧ SpcF b.2 (stayS t S (l2.take b.1)) F) (fun b => l2.length - b.1) (0, s) ⟨Nat.zero_le _, F, by simp only [hS00], by simp only [hS00]; exact hF⟩ on4.ok (by simp only [AllSub, go_sem, reduceIte, Nat.reduceEqDiff]; exact ⟨VSub.refl _, VSub.refl _, trivial⟩) ?_
        clear hF
        rintro ⟨j, s⟩ L n2 T2 m2 on ⟨hj, F, rfl, hF⟩
        simp only at hj hF ⊢
        obtain ⟨hfit1, hrt1, htd1, hkp1⟩ := keeps2 j hj
        have tA1 := tA j hj
        have tG1 := tG j hj
        have hcn1 := hw2.cnt j hj
        by_cases hc : j < l2.length
        · have g1 : decide (((j : Nat) : Int) < ((l2.length : Nat) : Int)) = true := decide_eq_true (by omega)
          have h2 : (0 : Int) ≤ ((j : Nat) : Int) := by omega
          have h3 : ((j : Nat) : Int) < ((l2.length : Nat) : Int) := by omega
          have e1 : IntKind.i64.wrap (((j : Nat) : Int) + 1) = ((j + 1 : Nat) : Int) := by rw [IntWalk.i64_in _ (by omega)]; omega
          have hat := enc_at encA l2 j .any hc
          have hm : l2.getD j default ∈ l2 := by rw [getD_el hc]; exact List.getElem_mem _
          have hsn := stay_snoc t S l2 hc
          obtain ⟨hfit2, hrt2, -, -⟩ := keeps2 (j + 1) hc
          have hcn2 := hw2.cnt (j + 1) hc
          have hcs := cntA_snoc hc
          have htb := hw2.t _ hm
          generalize hS2 : stayS t S (l2.take (j + 1)) = S2 at *
          generalize hS1 : stayS t S (l2.take j) = S1 at *
          generalize l2.getD j default = x at *
          have hst := step_g (a := x) hF hfit1 hrt1 (by omega) htb.1 htb.2
          have sp1 : lay [ob n1 (spO S1), F] n1 = some (.cells [.sl 2 (S1.L.map encI) .any, .int .i64 S1.last, .int .i64 S1.mark]) := lay_ob_at _ _ _
          have ok := on.ok
          have hmn := hrt1.mn
          have hml := hrt1.ml
          have hmx := hrt1.mx
          have w1 : IntKind.i64.wrap (S1.mark + x.t) = S1.mark + x.t := IntWalk.i64_in _ (by omega)
          have fn : F.o n1 = none := by
            have := on.ok.alone
            rw [lay_cons] at this
            cases h : F.o n1 with
            | none => rfl
            | some o => rw [h] at this; cases this
          by_cases hsk : skipA S1 t x = true
          · have e1' : S2 = S1 := by rw [hsn, stayA, if_pos hsk]
            simp only [skipA, Bool.and_eq_true, decide_eq_true_eq] at hsk
            have d1 := decide_eq_true hsk.1
            have d2 := decide_eq_true hsk.2
            repeat (first
              | ((first | apply Wp.seqItemsR | apply Wp.itemsR | ((first
                  | (refine WpItems.glook ?_ ?_ (mark_r hF) (by first | exact fun j o h => h | exact ok.sub (by simp) | assumption) (fun ids => ?_); (· simp only [go_sem, reduceIte, Nat.reduceEqDiff, Nat.reduceAdd, bx]); (· simp only [go_sem, reduceIte, Nat.reduceEqDiff, Nat.reduceAdd, bx, List.map]; first | exact VSubs.refl _ | (repeat (first | exact VSubs.nil | refine VSubs.cons (by first | exact VSub.refl _ | assumption | exact VSub.cap | exact VSub.any _) ?_))))); apply WpItems.evR)); (· simp only [go_sem, reduceIte, Nat.reduceEqDiff, Nat.reduceAdd, bx, ax, if_true, if_false, Nat.reduceMul, Nat.reduceLeDiff, g1, h2, h3, e1, hil2, hat, encA, d1, d2, w1]; exact rfl))
              | (refine WpItems.nil ⟨?_, ?_⟩; (· first | trivial | simp [pairsQ, pairsOk, apart, ent0]))
              | (apply Wp.cond_lit; (· simp only [go_sem, reduceIte, Nat.reduceEqDiff, Nat.reduceAdd, bx, ax, if_true, if_false, Nat.reduceMul, Nat.reduceLeDiff, g1, h2, h3, e1, hil2, hat, encA, d1, d2, w1]; exact rfl); (· rfl))
              | refine Wp.skip ?_
              | refine Wp.label ?_
              | refine Wp.block ?_
              | refine Wp.exit ?_
              | refine Wp.seq ?_)
            refine ⟨(j + 1, s), [ob n1 (spO S1), F], n2, T2, m2, On.refl on.ok, ⟨by simp only; omega, F, by simp only [hS2, e1'], by simp only [hS2, e1']; exact hF⟩, by simp only; omega, ?_⟩
            refine StLe.tm (by simp only [AllSub, go_sem, reduceIte, Nat.reduceEqDiff, Nat.reduceAdd, bx]; and_intros <;> first | exact trivial | exact VSub.refl _ | exact VSub.any _ | (refine VSub.int ?_; omega))
          · have e1' : S2 = stepA S1 x := by rw [hsn, stayA, if_neg hsk]
            have hskip : x.k = 1 → decide (t < S1.mark + x.t) = false := fun h1 => by
              simpa [skipA, h1] using hsk
            clear hsn
            have hsn := e1'
            by_cases k1 : x.k = 1
            · have d1 := decide_eq_true k1
              have d2 := hskip k1
              repeat (first
                | ((first | apply Wp.seqItemsR | apply Wp.itemsR | ((first
                    | (refine WpItems.glook ?_ ?_ (mark_r hF) (by first | exact fun j o h => h | exact ok.sub (by simp) | assumption) (fun ids => ?_); (· simp only [go_sem, reduceIte, Nat.reduceEqDiff, Nat.reduceAdd, bx]); (· simp only [go_sem, reduceIte, Nat.reduceEqDiff, Nat.reduceAdd, bx, List.map]; first | exact VSubs.refl _ | (repeat (first | exact VSubs.nil | refine VSubs.cons (by first | exact VSub.refl _ | assumption | exact VSub.cap | exact VSub.any _) ?_))))); apply WpItems.evR)); (· simp only [go_sem, reduceIte, Nat.reduceEqDiff, Nat.reduceAdd, bx, ax, if_true, if_false, Nat.reduceMul, Nat.reduceLeDiff, g1, h2, h3, e1, hil2, hat, encA, sp1, d1, d2, w1]; exact rfl))
                | (refine WpItems.nil ⟨?_, ?_⟩; (· first | trivial | simp [pairsQ, pairsOk, apart, ent0]))
                | (apply Wp.cond_lit; (· simp only [go_sem, reduceIte, Nat.reduceEqDiff, Nat.reduceAdd, bx, ax, if_true, if_false, Nat.reduceMul, Nat.reduceLeDiff, g1, h2, h3, e1, hil2, hat, encA, sp1, d1, d2, w1]; exact rfl); (· rfl))
                | refine Wp.skip ?_
                | refine Wp.label ?_
                | refine Wp.block ?_
                | refine Wp.exit ?_
                | refine Wp.seq ?_)
              unfold encS encA at hst
              refine WpItems.gcallI [_] [F] [] (by simp only [go_sem, bx]) (by simp only [go_sem, reduceIte, Nat.reduceEqDiff, List.map]; exact VSubs.refl _) hst on.ok fun r G' n3 T3 m3 ids3 hq3 on3 hids3 => ?_
              obtain ⟨s2, F2, rfl, rfl, hF2⟩ := hq3
              rw [← hsn] at hF2 ⊢
              simp only [List.cons_append, List.nil_append, List.append_nil] at on3 ⊢
              refine WpItems.evR (by simp only [go_sem, reduceIte, Nat.reduceEqDiff, Nat.reduceAdd, bx, encS]; exact rfl) ?_
              rw [upd_new, upd_ob]
              have n12 : n1 < n2 := on.ok.lt (F := ob n1 (spO S1)) (by simp) (by rw [ob_o, if_pos rfl])
              have hi2 : ∀ id, id ∈ ids3 → ¬ id = n3 := fun id h e => by
                rcases hids3 id h with h | h
                · rw [e, lay_cons, on.ok.bd F (by simp) n3 on3.gn] at h; cases h
                · omega
              refine WpItems.nil ⟨?_, ?_⟩
              · simp [pairsQ, pairsOk, apart, ent0]
                exact ⟨by have := on3.gn; omega, hi2, fun h => hi2 _ h rfl⟩
              have ok4 := on3.ok.more (.cells [.sl 2 (S2.L.map encI) .any, .int .i64 S2.last, .int .i64 S2.mark])
              have sp2 : ∀ L, lay (ob n3 (.cells [.sl 2 (S2.L.map encI) .any, .int .i64 S2.last, .int .i64 S2.mark]) :: L) n3 = some (.cells [.sl 2 (S2.L.map encI) .any, .int .i64 S2.last, .int .i64 S2.mark]) := fun L => lay_ob_at _ _ _
              have sp3 : lay [ob n3 (.cells [.sl 2 (S2.L.map encI) .any, .int .i64 S2.last, .int .i64 S2.mark]), ob n1 (spO S1), F2] n1 = some (.cells [.sl 2 (S1.L.map encI) .any, .int .i64 S1.last, .int .i64 S1.mark]) := by
                rw [lay_ob_ne _ _ (by have := on3.gn; omega)]; exact lay_ob_at _ _ _
              repeat (first
                | ((first | apply Wp.seqItemsR | apply Wp.itemsR); (· simp only [go_sem, reduceIte, Nat.reduceEqDiff, Nat.reduceAdd, bx, ax, if_true, if_false, Nat.reduceMul, Nat.reduceLeDiff, sp2, sp3, e1]; exact rfl))
                | (refine WpItems.nil ⟨?_, ?_⟩; (· first | trivial | simp [pairsQ, pairsOk, apart, ent0]))
                | (apply Wp.cond_lit; (· simp only [go_sem, reduceIte, Nat.reduceEqDiff, Nat.reduceAdd, bx, ax, if_true, if_false, Nat.reduceMul, Nat.reduceLeDiff, sp2, sp3, e1]; exact rfl); (· rfl))
                | refine Wp.skip ?_
                | refine Wp.label ?_
                | refine Wp.block ?_
                | refine Wp.exit ?_
                | refine Wp.seq ?_)
              have hu := Ok.upd_ob (A := [_]) (spO S2) ok4
              have onp := On.put_ob (A := [_]) (o' := spO S2) ok4
              simp only [List.cons_append, List.nil_append] at hu onp
              have on7 := On.under (onp : On (ob n3 _ :: [ob n1 (spO S1), F2]) (n3 + 1) m3 (ob n3 _ :: [ob n1 (spO S2), F2]) (n3 + 1) T3 m3)
              refine ⟨(j + 1, s2), [ob n1 (spO S2), F2], n3 + 1, T3, m3, on3.step on7, ⟨by simp only; omega, F2, by simp only [hS2], by simp only [hS2]; exact hF2⟩, by simp only; omega, ?_⟩
              have e : ∀ o : Objs, o = lay (ob n3 (.cells [.sl 2 (S2.L.map encI) .any, .int .i64 S2.last, .int .i64 S2.mark]) :: [ob n1 (spO S2), F2]) → OLe o (lay [ob n1 (spO S2), F2]) := fun o h => by rw [h]; exact ole_drop_ob (Ok.alone onp.ok)
              refine StLe.of (tm_le ?_) (e _ hu) (fun _ h => h) (Nat.le_refl _) (Nat.le_refl _)
              simp only [AllSub, go_sem, reduceIte, Nat.reduceEqDiff, Nat.reduceAdd, bx]; and_intros <;> first | exact trivial | exact VSub.refl _ | exact VSub.any _ | (refine VSub.int ?_; omega)
            · have d1 := decide_eq_false k1
              repeat (first
                | ((first | apply Wp.seqItemsR | apply Wp.itemsR); (· simp only [go_sem, reduceIte, Nat.reduceEqDiff, Nat.reduceAdd, bx, ax, if_true, if_false, Nat.reduceMul, Nat.reduceLeDiff, g1, h2, h3, e1, hil2, hat, encA, sp1, d1]; exact rfl))
                | (refine WpItems.nil ⟨?_, ?_⟩; (· first | trivial | simp [pairsQ, pairsOk, apart, ent0]))
                | (apply Wp.cond_lit; (· simp only [go_sem, reduceIte, Nat.reduceEqDiff, Nat.reduceAdd, bx, ax, if_true, if_false, Nat.reduceMul, Nat.reduceLeDiff, g1, h2, h3, e1, hil2, hat, encA, sp1, d1]; exact rfl); (· rfl))
                | refine Wp.skip ?_
                | refine Wp.label ?_
                | refine Wp.block ?_
                | refine Wp.exit ?_
                | refine Wp.seq ?_)
              unfold encS encA at hst
              refine WpItems.gcallI [_] [F] [] (by simp only [go_sem, bx]) (by simp only [go_sem, reduceIte, Nat.reduceEqDiff, List.map]; exact VSubs.refl _) hst on.ok fun r G' n3 T3 m3 ids3 hq3 on3 hids3 => ?_
              obtain ⟨s2, F2, rfl, rfl, hF2⟩ := hq3
              rw [← hsn] at hF2 ⊢
              simp only [List.cons_append, List.nil_append, List.append_nil] at on3 ⊢
              refine WpItems.evR (by simp only [go_sem, reduceIte, Nat.reduceEqDiff, Nat.reduceAdd, bx, encS]; exact rfl) ?_
              rw [upd_new, upd_ob]
              have n12 : n1 < n2 := on.ok.lt (F := ob n1 (spO S1)) (by simp) (by rw [ob_o, if_pos rfl])
              have hi2 : ∀ id, id ∈ ids3 → ¬ id = n3 := fun id h e => by
                rcases hids3 id h with h | h
                · rw [e, lay_cons, on.ok.bd F (by simp) n3 on3.gn] at h; cases h
                · omega
              refine WpItems.nil ⟨?_, ?_⟩
              · simp [pairsQ, pairsOk, apart, ent0]
                exact ⟨by have := on3.gn; omega, hi2, fun h => hi2 _ h rfl⟩
              have ok4 := on3.ok.more (.cells [.sl 2 (S2.L.map encI) .any, .int .i64 S2.last, .int .i64 S2.mark])
              have sp2 : ∀ L, lay (ob n3 (.cells [.sl 2 (S2.L.map encI) .any, .int .i64 S2.last, .int .i64 S2.mark]) :: L) n3 = some (.cells [.sl 2 (S2.L.map encI) .any, .int .i64 S2.last, .int .i64 S2.mark]) := fun L => lay_ob_at _ _ _
              have sp3 : lay [ob n3 (.cells [.sl 2 (S2.L.map encI) .any, .int .i64 S2.last, .int .i64 S2.mark]), ob n1 (spO S1), F2] n1 = some (.cells [.sl 2 (S1.L.map encI) .any, .int .i64 S1.last, .int .i64 S1.mark]) := by
                rw [lay_ob_ne _ _ (by have := on3.gn; omega)]; exact lay_ob_at _ _ _
              repeat (first
                | ((first | apply Wp.seqItemsR | apply Wp.itemsR); (· simp only [go_sem, reduceIte, Nat.reduceEqDiff, Nat.reduceAdd, bx, ax, if_true, if_false, Nat.reduceMul, Nat.reduceLeDiff, sp2, sp3, e1]; exact rfl))
                | (refine WpItems.nil ⟨?_, ?_⟩; (· first | trivial | simp [pairsQ, pairsOk, apart, ent0]))
                | (apply Wp.cond_lit; (· simp only [go_sem, reduceIte, Nat.reduceEqDiff, Nat.reduceAdd, bx, ax, if_true, if_false, Nat.reduceMul, Nat.reduceLeDiff, sp2, sp3, e1]; exact rfl); (· rfl))
                | refine Wp.skip ?_
                | refine Wp.label ?_
                | refine Wp.block ?_
                | refine Wp.exit ?_
                | refine Wp.seq ?_)
              have hu := Ok.upd_ob (A := [_]) (spO S2) ok4
              have onp := On.put_ob (A := [_]) (o' := spO S2) ok4
              simp only [List.cons_append, List.nil_append] at hu onp
              have on7 := On.under (onp : On (ob n3 _ :: [ob n1 (spO S1), F2]) (n3 + 1) m3 (ob n3 _ :: [ob n1 (spO S2), F2]) (n3 + 1) T3 m3)
              refine ⟨(j + 1, s2), [ob n1 (spO S2), F2], n3 + 1, T3, m3, on3.step on7, ⟨by simp only; omega, F2, by simp only [hS2], by simp only [hS2]; exact hF2⟩, by simp only; omega, ?_⟩
              have e : ∀ o : Objs, o = lay (ob n3 (.cells [.sl 2 (S2.L.map encI) .any, .int .i64 S2.last, .int .i64 S2.mark]) :: [ob n1 (spO S2), F2]) → OLe o (lay [ob n1 (spO S2), F2]) := fun o h => by rw [h]; exact ole_drop_ob (Ok.alone onp.ok)
              refine StLe.of (tm_le ?_) (e _ hu) (fun _ h => h) (Nat.le_refl _) (Nat.le_refl _)
              simp only [AllSub, go_sem, reduceIte, Nat.reduceEqDiff, Nat.reduceAdd, bx]; and_intros <;> first | exact trivial | exact VSub.refl _ | exact VSub.any _ | (refine VSub.int ?_; omega)
        · have hje : j = l2.length := by omega
          subst hje
          have g1 : decide (((l2.length : Nat) : Int) < ((l2.length : Nat) : Int)) = false := decide_eq_false (by omega)
          simp only at on
          have hfit3 := hfit1.small (by omega)
          have sg3 := scan_g hF hfit1.ri hfit3 a b t (-1)
          have gg3 := get_r hF hfit3 a t
          have r3 : scanB (stayS t S (l2.take l2.length)) a b t (-1) = (W, 0) := by rw [scanB, if_pos hkp1, tA1]; rfl
          rw [r3] at sg3
          rw [tG1] at gg3
          have dg1 := decide_eq_true (rfl : G.1 = G.1)
          have dg2 := decide_eq_true (rfl : G.2 = G.2)
          repeat (first
            | ((first | apply Wp.seqItemsR | apply Wp.itemsR); (· simp only [go_sem, reduceIte, Nat.reduceEqDiff, Nat.reduceAdd, bx, ax, if_true, if_false, Nat.reduceMul, Nat.reduceLeDiff, g1, hil2]; exact rfl))
            | (refine WpItems.nil ⟨?_, ?_⟩; (· first | trivial | simp [pairsQ, pairsOk, apart, ent0]))
            | (apply Wp.cond_lit; (· simp only [go_sem, reduceIte, Nat.reduceEqDiff, Nat.reduceAdd, bx, ax, if_true, if_false, Nat.reduceMul, Nat.reduceLeDiff, g1, hil2]; exact rfl); (· rfl))
            | refine Wp.skip ?_
            | refine Wp.label ?_
            | refine Wp.block ?_
            | refine Wp.exit ?_
            | refine Wp.seq ?_)
          refine WpItems.gkeepI ([_]) ([]) (by simp only [go_sem, reduceIte, Nat.reduceEqDiff, Nat.reduceAdd, bx]) (by simp only [go_sem, reduceIte, Nat.reduceEqDiff, Nat.reduceAdd, bx, List.map]; first | exact VSubs.refl _ | (repeat (first | exact VSubs.nil | refine VSubs.cons (by first | exact VSub.refl _ | assumption | exact VSub.cap | exact VSub.any _) ?_))) (sg3) (hF.k) (on.ok) fun n5 m5 ids5 hn5 hm5 hids5 ok => ?_
          simp only [List.cons_append, List.nil_append] at ok ⊢
          refine WpItems.evR (by simp only [go_sem, reduceIte, Nat.reduceEqDiff, Nat.reduceAdd, bx]; exact rfl) ?_
          repeat (first
            | ((first | apply Wp.seqItemsR | apply Wp.itemsR | ((first
                | (refine WpItems.glook ?_ ?_ (gg3) (by first | exact fun j o h => h | exact ok.sub (by simp) | assumption) (fun ids => ?_); (· simp only [go_sem, reduceIte, Nat.reduceEqDiff, Nat.reduceAdd, bx]); (· simp only [go_sem, reduceIte, Nat.reduceEqDiff, Nat.reduceAdd, bx, List.map]; first | exact VSubs.refl _ | (repeat (first | exact VSubs.nil | refine VSubs.cons (by first | exact VSub.refl _ | assumption | exact VSub.cap | exact VSub.any _) ?_))))
                | (refine WpItems.pcall ?_ ?_ (hsp) ?_; (· simp only [go_sem, reduceIte, Nat.reduceEqDiff, Nat.reduceAdd, bx]); (· simp only [go_sem, reduceIte, Nat.reduceEqDiff, Nat.reduceAdd, bx, List.map]; first | exact VSubs.refl _ | (repeat (first | exact VSubs.nil | refine VSubs.cons (by first | exact VSub.refl _ | assumption | exact VSub.cap | exact VSub.any _) ?_))))
                | (refine WpItems.pcall ?_ ?_ (hL) ?_; (· simp only [go_sem, reduceIte, Nat.reduceEqDiff, Nat.reduceAdd, bx]); (· simp only [go_sem, reduceIte, Nat.reduceEqDiff, Nat.reduceAdd, bx, List.map]; first | exact VSubs.refl _ | (repeat (first | exact VSubs.nil | refine VSubs.cons (by first | exact VSub.refl _ | assumption | exact VSub.cap | exact VSub.any _) ?_))))); apply WpItems.evR)); (· simp only [go_sem, reduceIte, Nat.reduceEqDiff, Nat.reduceAdd, bx, ax, if_true, if_false, Nat.reduceMul, Nat.reduceLeDiff, d0, dg1, dg2]; exact rfl))
            | (refine WpItems.nil ⟨?_, ?_⟩; (· first | trivial | simp [pairsQ, pairsOk, apart, ent0]))
            | (apply Wp.cond_lit; (· simp only [go_sem, reduceIte, Nat.reduceEqDiff, Nat.reduceAdd, bx, ax, if_true, if_false, Nat.reduceMul, Nat.reduceLeDiff, d0, dg1, dg2]; exact rfl); (· rfl))
            | refine Wp.skip ?_
            | refine Wp.label ?_
            | refine Wp.block ?_
            | refine Wp.exit ?_
            | refine Wp.seq ?_)
          refine Wp.ret ⟨trivial, _, rfl, ?_⟩
          simp only [go_sem, reduceIte, Nat.reduceEqDiff, Nat.reduceAdd, bx]
          exact VSub.refl _
      · have r1 : scanB S a b t (-1) = ([], keptB S t) := by rw [scanB, if_neg hk]
        have r2 : getB S a t = ([], keptB S t) := by rw [getB, if_neg hk]
        rw [r1] at sg1
        rw [r2] at gg1
        have d1 := decide_eq_false hk
        have d2 : decide (keptB S t = keptB S t) = true := decide_eq_true rfl
        have d6 : decide (((0 : Nat) : Int) = 0) = true := rfl
        repeat (first
          | ((first | apply Wp.seqItemsR | apply Wp.itemsR); (· simp only [go_sem, reduceIte, Nat.reduceEqDiff, Nat.reduceAdd, bx, ax, if_true, if_false, Nat.reduceMul, Nat.reduceLeDiff, g1, hil]; exact rfl))
          | (refine WpItems.nil ⟨?_, ?_⟩; (· first | trivial | simp [pairsQ, pairsOk, apart, ent0]))
          | (apply Wp.cond_lit; (· simp only [go_sem, reduceIte, Nat.reduceEqDiff, Nat.reduceAdd, bx, ax, if_true, if_false, Nat.reduceMul, Nat.reduceLeDiff, g1, hil]; exact rfl); (· rfl))
          | refine Wp.skip ?_
          | refine Wp.label ?_
          | refine Wp.block ?_
          | refine Wp.exit ?_
          | refine Wp.seq ?_)
        refine WpItems.gkeepI ([_]) ([]) (by simp only [go_sem, reduceIte, Nat.reduceEqDiff, Nat.reduceAdd, bx]) (by simp only [go_sem, reduceIte, Nat.reduceEqDiff, Nat.reduceAdd, bx, List.map]; first | exact VSubs.refl _ | (repeat (first | exact VSubs.nil | refine VSubs.cons (by first | exact VSub.refl _ | assumption | exact VSub.cap | exact VSub.any _) ?_))) (sg1) (hF.k) (on.ok) fun n4 m4 ids4 hn4 hm4 hids4 ok => ?_
        simp only [List.cons_append, List.nil_append] at ok ⊢
        refine WpItems.evR (by simp only [go_sem, reduceIte, Nat.reduceEqDiff, Nat.reduceAdd, bx]; exact rfl) ?_
        repeat (first
          | ((first | apply Wp.seqItemsR | apply Wp.itemsR | ((first
              | (refine WpItems.glook ?_ ?_ (gg1) (by first | exact fun j o h => h | exact ok.sub (by simp) | assumption) (fun ids => ?_); (· simp only [go_sem, reduceIte, Nat.reduceEqDiff, Nat.reduceAdd, bx]); (· simp only [go_sem, reduceIte, Nat.reduceEqDiff, Nat.reduceAdd, bx, List.map]; first | exact VSubs.refl _ | (repeat (first | exact VSubs.nil | refine VSubs.cons (by first | exact VSub.refl _ | assumption | exact VSub.cap | exact VSub.any _) ?_))))
              | (refine WpItems.pcall ?_ ?_ (hL) ?_; (· simp only [go_sem, reduceIte, Nat.reduceEqDiff, Nat.reduceAdd, bx]); (· simp only [go_sem, reduceIte, Nat.reduceEqDiff, Nat.reduceAdd, bx, List.map]; first | exact VSubs.refl _ | (repeat (first | exact VSubs.nil | refine VSubs.cons (by first | exact VSub.refl _ | assumption | exact VSub.cap | exact VSub.any _) ?_))))); apply WpItems.evR)); (· simp only [go_sem, reduceIte, Nat.reduceEqDiff, Nat.reduceAdd, bx, ax, if_true, if_false, Nat.reduceMul, Nat.reduceLeDiff, d1, d2, d6, prs, List.map_nil, List.length_nil]; exact rfl))
          | (refine WpItems.nil ⟨?_, ?_⟩; (· first | trivial | simp [pairsQ, pairsOk, apart, ent0]))
          | (apply Wp.cond_lit; (· simp only [go_sem, reduceIte, Nat.reduceEqDiff, Nat.reduceAdd, bx, ax, if_true, if_false, Nat.reduceMul, Nat.reduceLeDiff, d1, d2, d6, prs, List.map_nil, List.length_nil]; exact rfl); (· rfl))
          | refine Wp.skip ?_
          | refine Wp.label ?_
          | refine Wp.block ?_
          | refine Wp.exit ?_
          | refine Wp.seq ?_)
        refine Wp.ret ⟨trivial, _, rfl, ?_⟩
        simp only [go_sem, reduceIte, Nat.reduceEqDiff, Nat.reduceAdd, bx]
        exact VSub.refl _
theorem law_SpaceStays {b : Nat} (avs : List AV) (h : All2 (ArgFits Try.prog 5) Try.f7.params.toList avs) (_ : bulkAs avs ≤ b) : PCalls Try.prog 7 avs (.bool true) := by
  rw [Try.params7] at h
  cases h with | cons h0 h => cases h with | cons h1 h => cases h with | cons h2 h => cases h with | cons h3 h => cases h with | cons h4 h =>
  cases h
  have e : reachBytes = 140737488351232 := rfl
  obtain ⟨l, rfl, hl, hv⟩ := open_acts h0
  obtain ⟨l2, rfl, hl2, hv2⟩ := open_acts h1
  obtain ⟨t, rfl, -⟩ := open_i h2
  obtain ⟨a, rfl, ha⟩ := open_str h3
  obtain ⟨c, rfl, hc⟩ := open_str h4
  exact stays_p l l2 hl (fun x hx => (hv x hx).2.2.1) hl2 (fun x hx => (hv2 x hx).2.2.1) t a c (by unfold Ls; omega) (by unfold Ls; omega)
end Go.Proofs.Ytpehfflehebmbaa.Space
end
section
set_option linter.unusedSimpArgs false
set_option linter.unusedVariables false
namespace Go.Proofs.Ytpehfflehebmbaa.Space
open Go Go.Av Go.Proofs Go.Proofs.Ytpehfflehebmbaa.C
open Go.ChangeShapes Go.WideShapes Go.ChangeAt Go.RowKit
set_option maxRecDepth 100000 in
theorem lifted_SpaceStays (os : Os) (started : os.Started) (H : Type) (enc : TypeId × Value → H) :
    ReturnsInHanded {} Try.checked os 7 .any (Rows.spaceStaysSpec.pre6 enc Try.prog Try.f7 Rows.spaceStaysRow.domain false) (Rows.spaceStaysSpec.post enc Try.prog Try.f7 false true false false) := by
  refine returnsInHanded_of_change_sized (C := Try.checked) own started (by kernel_rfl) Try.func7
    (ChangeSpec.witness6 (enc := enc) (C := Try.checked) false ⟨#[], #[.slice none 0 0, .slice none 0 0, .int .i64 0, .string ⟨#[]⟩, .string ⟨#[]⟩], []⟩ 8 (by kernel_rfl) (by kernel_rfl) (by kernel_rfl) (by kernel_rfl)) ?_
  intro W base args ds gs before hval hW _ hwt _
  exact calls_row laid bulk rowed full rfl (fun l hl => by match l, hl with | [_, _, _, _, _], _ => rfl) rfl Try.underlying4 (by kernel_rfl) (by kernel_rfl) hval hW hwt (fun avs h hb => law_SpaceStays avs h hb)
theorem said_SpaceStays : Rows.SpaceStaysSaid :=
  OpenClaim.holds_of_wide 7 Try.f7 rfl rfl rfl rfl rfl rfl rfl ⟨rfl, rfl, rfl, rfl, rfl⟩ rfl rfl rfl rfl rfl (by kernel_rfl) Try.func7 (by kernel_rfl)
    (of_decide_eq_true (by kernel_rfl)) (by unfold Func.isWrapper; first | (rw [if_pos (by decide +kernel)]; kernel_rfl) | (rw [if_neg (by decide +kernel)]; exact ⟨rfl, rfl⟩))
    (fun os started H enc _ => lifted_SpaceStays os started H enc)
#print axioms said_SpaceStays
end Go.Proofs.Ytpehfflehebmbaa.Space
end
