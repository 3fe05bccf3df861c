/- SpacePlays: the statement 'SpacePlaysSaid', closed by the law that the walk shows. No condition. -/
import Derived.Deep.CondSized
import Derived.IntWalk
import Derived.KernelRfl
import Derived.Laws.Append
import Derived.Laws.AppendOwn
import Derived.Laws.BytesArg
import Derived.Laws.Cover3
import Derived.Laws.Entries
import Derived.Laws.IdiomCopy
import Derived.Laws.IdiomStrings
import Derived.Laws.Pointers
import Derived.Laws.Small
import Derived.Laws.Strings
import Derived.Laws.StructEq
import Derived.MapKept
import Derived.OpenShut
import Derived.Orders
import Derived.OrdersIn
import Derived.ProofKit
import Derived.RangeFuncRecord
import Derived.RangeFuncSeq
import Derived.ReadAgain
import Derived.Scope
import Derived.Shelf.Slices.Cells
import Derived.Shelf.Slices.Delete
import Derived.Shelf.Spec.SlicesInsertGrow
import Derived.SizedLaws
import Derived.Test.YtpehfflehebmbaaRows
import Derived.Test.YtpehfflehebmbaaMpE
section
set_option linter.unusedSimpArgs false
set_option linter.unusedVariables false
set_option maxRecDepth 10000
namespace Go.Proofs.Ytpehfflehebmbaa.Space
open Go Go.Av Go.Proofs Go.Proofs.Ytpehfflehebmbaa.C Go.Proofs.Ytpehfflehebmbaa.Batch
def stepA (S : Spc) (a : Act) : Spc := if a.k = 1 then (vacuumB S (S.mark + a.t)).1 else if a.k = 2 then S else if a.k = 3 then S else (applyB S (S.last + a.t) a.l).1
theorem Ok.tok {l : List Fr} {n m : Nat} {T : List Nat} (ok : Ok l n T m) : Ok l n (m :: T) (m + 1) :=
  ⟨ok.bd, ok.dj, fun t ht => List.mem_cons_of_mem _ (ok.tk t ht), ok.td, fun t ht => by
    rcases List.mem_cons.1 ht with rfl | h
    · omega
    · have := ok.tb t h; omega⟩
def StepQ (S : Spc) (a : Act) (r : AV) (L : List Fr) : Prop := ∃ s' F', r = .tup [.ptr s' 0, encS (stepA S a), .bool true] ∧ L = [F'] ∧ SpcF s' (stepA S a) F'
set_option maxHeartbeats 4000000 in
theorem step_g {s : Nat} {S : Spc} {F : Fr} {k : Nat} {a : Act} (hF : SpcF s S F) (hS : Fit S k) (hR : Rt S) (hk : k + a.l.length + 1 ≤ 400000) (t1 : -100 ≤ a.t) (t2 : a.t ≤ 1099511627776) : GCalls Try.prog 31 [.ptr s 0, encS S, encA a] [F] (StepQ S a) := by
  refine f31.gcalls (by simp) fun n m ok => ?_
  unfold c31
  have hmk := hR.mn
  have hml := hR.ml
  have hmx := hR.mx
  have hsm := hS.small (show k ≤ 500000 by omega)
  have fn : ∀ j, n ≤ j → F.o j = none := fun j hj => ok.bd F (by simp) j hj
  have w1 : IntKind.i64.wrap (S.mark + a.t) = S.mark + a.t := IntWalk.i64_in _ (by omega)
  have w2 : IntKind.i64.wrap (S.last + a.t) = S.last + a.t := IntWalk.i64_in _ (by omega)
  have w3 : IntKind.i64.wrap (S.last + 1) = S.last + 1 := IntWalk.i64_in _ (by omega)
  repeat (first
    | ((first | apply Wp.seqItemsR | apply Wp.itemsR); (· simp only [go_sem, reduceIte, Nat.reduceEqDiff, Nat.reduceAdd, bx, ax, if_true, if_false, Nat.reduceMul, Nat.reduceLeDiff, encS, encA]; exact rfl))
    | (refine WpItems.nil ⟨?_, ?_⟩; (· first | trivial | simp [pairsQ, pairsOk, apart, ent0]))
    | (apply Wp.cond_lit; (· simp only [go_sem, reduceIte, Nat.reduceEqDiff, Nat.reduceAdd, bx, ax, if_true, if_false, Nat.reduceMul, Nat.reduceLeDiff, encS, encA]; exact rfl); (· rfl))
    | refine Wp.skip ?_
    | refine Wp.label ?_
    | refine Wp.block ?_
    | refine Wp.exit ?_
    | refine Wp.seq ?_)
  rw [upd_new, upd_new, upd_new]
  have ok3 := ((ok.more (.cells [.sl 2 (S.L.map encI) .any, .int .i64 S.last, .int .i64 S.mark])).more (.cells [.int .i64 a.k, .int .i64 a.t, .sl 3 (chs a.l) .any])).more (.cells [.sl 2 [] (.exact 0), .int .i64 0, .int .i64 0])
  have gm : ∀ x y L, lay (ob (n + 1 + 1) x :: ob (n + 1) y :: ob n (.cells [.sl 2 (S.L.map encI) .any, .int .i64 S.last, .int .i64 S.mark]) :: L) n = some (.cells [.sl 2 (S.L.map encI) .any, .int .i64 S.last, .int .i64 S.mark]) := fun x y L => by
    rw [lay_ob_ne _ _ (by omega), lay_ob_ne _ _ (by omega), lay_ob_at]
  have ga : ∀ x L, lay (ob (n + 1 + 1) x :: ob (n + 1) (.cells [.int .i64 a.k, .int .i64 a.t, .sl 3 (chs a.l) .any]) :: L) (n + 1) = some (.cells [.int .i64 a.k, .int .i64 a.t, .sl 3 (chs a.l) .any]) := fun x L => by
    rw [lay_ob_ne _ _ (by omega), lay_ob_at]
  have gr : ∀ L, lay (ob (n + 1 + 1) (.cells [.sl 2 [] (.exact 0), .int .i64 0, .int .i64 0]) :: L) (n + 1 + 1) = some (.cells [.sl 2 [] (.exact 0), .int .i64 0, .int .i64 0]) := fun L => lay_ob_at _ _ _
  have s0 : ∀ x L, lay (ob (n + 1 + 1 + 1) x :: L) n = lay L n := fun x L => lay_ob_ne _ _ (by omega)
  have s1 : ∀ x L, lay (ob (n + 1 + 1 + 1) x :: L) (n + 1) = lay L (n + 1) := fun x L => lay_ob_ne _ _ (by omega)
  have s2 : ∀ x L, lay (ob (n + 1 + 1 + 1) x :: L) (n + 1 + 1) = lay L (n + 1 + 1) := fun x L => lay_ob_ne _ _ (by omega)
  have s3 : ∀ x L, lay (ob (n + 1 + 1 + 1) x :: L) (n + 1 + 1 + 1) = some x := fun x L => lay_ob_at _ _ _
  have e0 : ∀ i : Int, decide (i = i) = true := fun i => decide_eq_true rfl
  have nin : ∀ (ids : List Nat) (n2 : Nat) {n3 : Nat}, (∀ id ∈ ids, (lay [F] id).isSome = true ∨ (n2 ≤ id ∧ id < n3)) → ∀ j, n ≤ j → j < n2 → ∀ id, id ∈ ids → ¬ id = j := fun ids n2 n3 h j hj hj2 id hid e => by
    rcases h id hid with h | h
    · rw [e, lay_cons, fn j hj] at h; cases h
    · omega
  by_cases k1 : a.k = 1
  · have d1 := decide_eq_true k1
    have hv := vacRR_p S hS.ri hsm (S.mark + a.t)
    have hg := vacuum_g hF hS.ri hsm (S.mark + a.t)
    have hst : stepA S a = (vacuumB S (S.mark + a.t)).1 := by rw [stepA, if_pos k1]
    generalize vacuumB S (S.mark + a.t) = V at *
    unfold encS at hv
    repeat (first
      | ((first | apply Wp.seqItemsR | apply Wp.itemsR | ((first
          | (refine WpItems.pcall ?_ ?_ (hv) ?_; (· simp only [go_sem, reduceIte, Nat.reduceEqDiff, Nat.reduceAdd, bx]); (· simp only [go_sem, reduceIte, Nat.reduceEqDiff, Nat.reduceAdd, bx, List.map]; first | exact VSubs.refl _ | (repeat (first | exact VSubs.nil | refine VSubs.cons (by first | exact VSub.refl _ | assumption | exact VSub.cap | exact VSub.any _) ?_))))); apply WpItems.evR)); (· simp only [go_sem, reduceIte, Nat.reduceEqDiff, Nat.reduceAdd, bx, ax, if_true, if_false, Nat.reduceMul, Nat.reduceLeDiff, gm, ga, d1, w1]; exact rfl))
      | (refine WpItems.nil ⟨?_, ?_⟩; (· first | trivial | simp [pairsQ, pairsOk, apart, ent0]))
      | (apply Wp.cond_lit; (· simp only [go_sem, reduceIte, Nat.reduceEqDiff, Nat.reduceAdd, bx, ax, if_true, if_false, Nat.reduceMul, Nat.reduceLeDiff, gm, ga, d1, w1]; exact rfl); (· rfl))
      | refine Wp.skip ?_
      | refine Wp.label ?_
      | refine Wp.block ?_
      | refine Wp.exit ?_
      | refine Wp.seq ?_)
    rw [upd_new, upd_ob]
    have ok4 := ok3.more (.cells [.sl 2 (V.1.L.map encI) .any, .int .i64 V.1.last, .int .i64 V.1.mark])
    repeat (first
      | ((first | apply Wp.seqItemsR | apply Wp.itemsR); (· simp only [go_sem, reduceIte, Nat.reduceEqDiff, Nat.reduceAdd, bx, ax, if_true, if_false, Nat.reduceMul, Nat.reduceLeDiff, gm, ga, gr, s0, s1, s2, s3, w1]; exact rfl))
      | (refine WpItems.nil ⟨?_, ?_⟩; (· first | trivial | simp [pairsQ, pairsOk, apart, ent0]))
      | (apply Wp.cond_lit; (· simp only [go_sem, reduceIte, Nat.reduceEqDiff, Nat.reduceAdd, bx, ax, if_true, if_false, Nat.reduceMul, Nat.reduceLeDiff, gm, ga, gr, s0, s1, s2, s3, w1]; exact rfl); (· rfl))
      | refine Wp.skip ?_
      | refine Wp.label ?_
      | refine Wp.block ?_
      | refine Wp.exit ?_
      | refine Wp.seq ?_)
    refine WpItems.gcallI [_, _, _, _] [F] [] (by simp only [go_sem, bx]) (by simp only [go_sem, reduceIte, Nat.reduceEqDiff, List.map]; exact VSubs.refl _) hg ok4 fun r G' n' T' m' ids hq on hids => ?_
    obtain ⟨rfl, F', rfl, hF'⟩ := hq
    have hi := nin ids _ hids
    simp only [List.cons_append, List.nil_append, List.append_nil] at on ⊢
    refine WpItems.evR (by simp only [go_sem, reduceIte, Nat.reduceEqDiff, Nat.reduceAdd, bx, gm, ga, gr, s0, s1, s2, s3, decide_true]; exact rfl) ?_
    have hu := Ok.upd_ob (A := [_]) (.cells [.sl 2 (V.1.L.map encI) .any, .int .i64 V.1.last, .int .i64 V.1.mark]) on.ok
    have on2 := on.step (On.put_ob (A := [_]) (o' := .cells [.sl 2 (V.1.L.map encI) .any, .int .i64 V.1.last, .int .i64 V.1.mark]) on.ok)
    simp only [List.cons_append, List.nil_append] at hu on2
    rw [hu]
    refine WpItems.nil ⟨?_, ?_⟩
    · simp [pairsQ, pairsOk, apart, ent0]
      exact hi _ (by omega) (by omega)
    refine Wp.ret ⟨trivial, .tup [.ptr s 0, encS V.1, .bool true], ?_, ?_⟩
    · simp only [resOf, rvs, rv, go_sem, reduceIte, Nat.reduceEqDiff, s2, lay_ob_at, encS]; rfl
    · have on3 := on2.grown.grown.grown.grown
      exact ⟨_, [F'], on3.ends1 (by simp) hF'.k (VSub.refl _) ⟨s, F', by rw [hst], rfl, by rw [hst]; exact hF'⟩⟩
  have d1 := decide_eq_false k1
  by_cases k2 : a.k = 2
  · have d2 := decide_eq_true k2
    have hst : stepA S a = S := by rw [stepA, if_neg k1, if_pos k2]
    have hcp := copy_g hF hS.ri hsm
    rw [hS.lay] at hcp
    have hap := apply_g hF hS.ri (S.last + 1) [⟨[122, 122], [122, 122], false⟩] (by decide) (hS.room (by simp only [List.length_cons, List.length_nil]; omega))
    repeat (first
      | ((first | apply Wp.seqItemsR | apply Wp.itemsR); (· simp only [go_sem, reduceIte, Nat.reduceEqDiff, Nat.reduceAdd, bx, ax, if_true, if_false, Nat.reduceMul, Nat.reduceLeDiff, gm, ga, gr, d1, d2]; exact rfl))
      | (refine WpItems.nil ⟨?_, ?_⟩; (· first | trivial | simp [pairsQ, pairsOk, apart, ent0]))
      | (apply Wp.cond_lit; (· simp only [go_sem, reduceIte, Nat.reduceEqDiff, Nat.reduceAdd, bx, ax, if_true, if_false, Nat.reduceMul, Nat.reduceLeDiff, gm, ga, gr, d1, d2]; exact rfl); (· rfl))
      | refine Wp.skip ?_
      | refine Wp.label ?_
      | refine Wp.block ?_
      | refine Wp.exit ?_
      | refine Wp.seq ?_)
    refine WpItems.gcallI [_, _, _] [F] [] (by simp only [go_sem, bx]) (by simp only [go_sem, reduceIte, Nat.reduceEqDiff, List.map]; exact VSubs.refl _) hcp ok3 fun r G' n' T' m' ids hq on hids => ?_
    obtain ⟨s', F', rfl, rfl, hF'⟩ := hq
    simp only [List.cons_append, List.nil_append, List.append_nil] at on ⊢
    refine WpItems.evR (by simp only [go_sem, reduceIte, Nat.reduceEqDiff, Nat.reduceAdd, bx]; exact rfl) ?_
    repeat (first
      | ((first | apply Wp.seqItemsR | apply Wp.itemsR); (· simp only [go_sem, reduceIte, Nat.reduceEqDiff, Nat.reduceAdd, bx, ax, if_true, if_false, Nat.reduceMul, Nat.reduceLeDiff, gm, ga, gr, w3]; exact rfl))
      | (refine WpItems.nil ⟨?_, ?_⟩; (· first | trivial | simp [pairsQ, pairsOk, apart, ent0]))
      | (apply Wp.cond_lit; (· simp only [go_sem, reduceIte, Nat.reduceEqDiff, Nat.reduceAdd, bx, ax, if_true, if_false, Nat.reduceMul, Nat.reduceLeDiff, gm, ga, gr, w3]; exact rfl); (· rfl))
      | refine Wp.skip ?_
      | refine Wp.label ?_
      | refine Wp.block ?_
      | refine Wp.exit ?_
      | refine Wp.seq ?_)
    refine WpItems.gcallI [_, _, _, _] [F] [] (by simp only [go_sem, bx]) (by simp only [go_sem, reduceIte, Nat.reduceEqDiff, List.map]; exact VSubs.cons (VSub.refl _) (VSubs.cons (VSub.refl _) (VSubs.cons VSub.cap VSubs.nil))) hap on.ok fun r G2 n2 T2 m2 ids2 hq2 on2 hids2 => ?_
    obtain ⟨rfl, F2, rfl, hF2⟩ := hq2
    simp only [List.cons_append, List.nil_append, List.append_nil] at on2 ⊢
    refine WpItems.evR (by simp only [go_sem, reduceIte, Nat.reduceEqDiff, Nat.reduceAdd, bx]; exact rfl) ?_
    repeat (first
      | ((first | apply Wp.seqItemsR | apply Wp.itemsR); (· simp only [go_sem, reduceIte, Nat.reduceEqDiff, Nat.reduceAdd, bx, ax, if_true, if_false, Nat.reduceMul, Nat.reduceLeDiff, gm, ga, gr]; exact rfl))
      | (refine WpItems.nil ⟨?_, ?_⟩; (· first | trivial | simp [pairsQ, pairsOk, apart, ent0]))
      | (apply Wp.cond_lit; (· simp only [go_sem, reduceIte, Nat.reduceEqDiff, Nat.reduceAdd, bx, ax, if_true, if_false, Nat.reduceMul, Nat.reduceLeDiff, gm, ga, gr]; exact rfl); (· rfl))
      | refine Wp.skip ?_
      | refine Wp.label ?_
      | refine Wp.block ?_
      | refine Wp.exit ?_
      | refine Wp.seq ?_)
    rw [upd_ob]
    have on3 := On.put_ob (A := []) (o' := .cells [.sl 2 (S.L.map encI) .any, .int .i64 S.last, .int .i64 S.mark]) on2.ok
    have on4 := ((on.step on2).step on3).grown.grown.grown
    refine Wp.ret ⟨trivial, .tup [.ptr s' 0, encS S, .bool true], ?_, ?_⟩
    · simp only [resOf, rvs, rv, go_sem, reduceIte, Nat.reduceEqDiff, lay_ob_at, encS]; rfl
    · exact ⟨_, [F'], on4.ends1 (by simp) hF'.k (VSub.refl _) ⟨s', F', by rw [hst], rfl, by rw [hst]; exact hF'⟩⟩
  have d2 := decide_eq_false k2
  by_cases k3 : a.k = 3
  · have d3 := decide_eq_true k3
    have hst : stepA S a = S := by rw [stepA, if_neg k1, if_neg k2, if_pos k3]
    have hit := items_g hF hS.ri hsm
    have hld := load_g S.L (by have := hS.ln; omega) (fun p hp => by have := hS.vs p hp; omega) S.last S.mark
    simp only [hR.load hS, if_true, hS.lay] at hld
    repeat (first
      | ((first | apply Wp.seqItemsR | apply Wp.itemsR); (· simp only [go_sem, reduceIte, Nat.reduceEqDiff, Nat.reduceAdd, bx, ax, if_true, if_false, Nat.reduceMul, Nat.reduceLeDiff, gm, ga, gr, d1, d2, d3]; exact rfl))
      | (refine WpItems.nil ⟨?_, ?_⟩; (· first | trivial | simp [pairsQ, pairsOk, apart, ent0]))
      | (apply Wp.cond_lit; (· simp only [go_sem, reduceIte, Nat.reduceEqDiff, Nat.reduceAdd, bx, ax, if_true, if_false, Nat.reduceMul, Nat.reduceLeDiff, gm, ga, gr, d1, d2, d3]; exact rfl); (· rfl))
      | refine Wp.skip ?_
      | refine Wp.label ?_
      | refine Wp.block ?_
      | refine Wp.exit ?_
      | refine Wp.seq ?_)
    refine WpItems.gkeepI ([_, _, _]) ([]) (by simp only [go_sem, reduceIte, Nat.reduceEqDiff, Nat.reduceAdd, bx]) (by simp only [go_sem, reduceIte, Nat.reduceEqDiff, Nat.reduceAdd, bx, List.map]; first | exact VSubs.refl _ | (repeat (first | exact VSubs.nil | refine VSubs.cons (by first | exact VSub.refl _ | assumption | exact VSub.cap | exact VSub.any _) ?_))) (hit) (hF.k) (ok3) fun n1 m1 ids1 hn1 hm1 hids1 ok => ?_
    simp only [List.cons_append, List.nil_append] at ok ⊢
    refine WpItems.evR (by simp only [go_sem, reduceIte, Nat.reduceEqDiff, Nat.reduceAdd, bx]; exact rfl) ?_
    repeat (first
      | ((first | apply Wp.seqItemsR | apply Wp.itemsR | ((first
          | (refine WpItems.glook ?_ ?_ (last_r hF) (by first | exact fun j o h => h | exact ok.sub (by simp) | assumption) (fun ids => ?_); (· simp only [go_sem, reduceIte, Nat.reduceEqDiff, Nat.reduceAdd, bx]); (· simp only [go_sem, reduceIte, Nat.reduceEqDiff, Nat.reduceAdd, bx, List.map]; first | exact VSubs.refl _ | (repeat (first | exact VSubs.nil | refine VSubs.cons (by first | exact VSub.refl _ | assumption | exact VSub.cap | exact VSub.any _) ?_))))
          | (refine WpItems.glook ?_ ?_ (mark_r hF) (by first | exact fun j o h => h | exact ok.sub (by simp) | assumption) (fun ids => ?_); (· simp only [go_sem, reduceIte, Nat.reduceEqDiff, Nat.reduceAdd, bx]); (· simp only [go_sem, reduceIte, Nat.reduceEqDiff, Nat.reduceAdd, bx, List.map]; first | exact VSubs.refl _ | (repeat (first | exact VSubs.nil | refine VSubs.cons (by first | exact VSub.refl _ | assumption | exact VSub.cap | exact VSub.any _) ?_))))); apply WpItems.evR)); (· simp only [go_sem, reduceIte, Nat.reduceEqDiff, Nat.reduceAdd, bx, ax, if_true, if_false, Nat.reduceMul, Nat.reduceLeDiff, gm]; exact rfl))
      | (refine WpItems.nil ⟨?_, ?_⟩; (· first | trivial | simp [pairsQ, pairsOk, apart, ent0]))
      | (apply Wp.cond_lit; (· simp only [go_sem, reduceIte, Nat.reduceEqDiff, Nat.reduceAdd, bx, ax, if_true, if_false, Nat.reduceMul, Nat.reduceLeDiff, gm]; exact rfl); (· rfl))
      | refine Wp.skip ?_
      | refine Wp.label ?_
      | refine Wp.block ?_
      | refine Wp.exit ?_
      | refine Wp.seq ?_)
    refine WpItems.gcallI [_, _, _, _] [] [] (by simp only [go_sem, bx]) (by simp only [go_sem, reduceIte, Nat.reduceEqDiff, List.map]; exact VSubs.refl _) hld ok fun r G2 n2 T2 m2 ids2 hq2 on2 hids2 => ?_
    obtain ⟨s', F', rfl, rfl, hF'⟩ := hq2
    simp only [List.cons_append, List.nil_append, List.append_nil] at on2 ⊢
    refine WpItems.evR (by simp only [go_sem, reduceIte, Nat.reduceEqDiff, Nat.reduceAdd, bx]; exact rfl) ?_
    repeat (first
      | ((first | apply Wp.seqItemsR | apply Wp.itemsR); (· simp only [go_sem, reduceIte, Nat.reduceEqDiff, Nat.reduceAdd, bx, ax, if_true, if_false, Nat.reduceMul, Nat.reduceLeDiff, gm, ga, gr]; exact rfl))
      | (refine WpItems.nil ⟨?_, ?_⟩; (· first | trivial | simp [pairsQ, pairsOk, apart, ent0]))
      | (apply Wp.cond_lit; (· simp only [go_sem, reduceIte, Nat.reduceEqDiff, Nat.reduceAdd, bx, ax, if_true, if_false, Nat.reduceMul, Nat.reduceLeDiff, gm, ga, gr]; exact rfl); (· rfl))
      | refine Wp.skip ?_
      | refine Wp.label ?_
      | refine Wp.block ?_
      | refine Wp.exit ?_
      | refine Wp.seq ?_)
    rw [upd_ob]
    have on1 := On.step ⟨hn1, hm1, ok, .refl, .refl⟩ on2
    have on3 := On.put_ob (A := []) (o' := .cells [.sl 2 (S.L.map encI) .any, .int .i64 S.last, .int .i64 S.mark]) on2.ok
    have on4 := (on1.step on3).grown.grown.grown
    refine Wp.ret ⟨trivial, .tup [.ptr s' 0, encS S, .bool true], ?_, ?_⟩
    · simp only [resOf, rvs, rv, go_sem, reduceIte, Nat.reduceEqDiff, lay_ob_at, encS]; rfl
    · exact ⟨_, [F'], on4.ends1 (by simp) hF'.k (VSub.refl _) ⟨s', F', by rw [hst], rfl, by rw [hst]; exact hF'⟩⟩
  have d3 := decide_eq_false k3
  have hap := apply_g hF hS.ri (S.last + a.t) a.l (by omega) (hS.room (by omega))
  have har := applyR_p S hS.ri hsm hS.ls (S.last + a.t) a.l (by omega)
  have hst : stepA S a = (applyB S (S.last + a.t) a.l).1 := by rw [stepA, if_neg k1, if_neg k2, if_neg k3]
  generalize applyB S (S.last + a.t) a.l = V at *
  unfold encS at har
  repeat (first
    | ((first | apply Wp.seqItemsR | apply Wp.itemsR | ((first
        | (refine WpItems.pcall ?_ ?_ (har) ?_; (· simp only [go_sem, reduceIte, Nat.reduceEqDiff, Nat.reduceAdd, bx]); (· simp only [go_sem, reduceIte, Nat.reduceEqDiff, Nat.reduceAdd, bx, List.map]; first | exact VSubs.refl _ | (repeat (first | exact VSubs.nil | refine VSubs.cons (by first | exact VSub.refl _ | assumption | exact VSub.cap | exact VSub.any _) ?_))))); apply WpItems.evR)); (· simp only [go_sem, reduceIte, Nat.reduceEqDiff, Nat.reduceAdd, bx, ax, if_true, if_false, Nat.reduceMul, Nat.reduceLeDiff, gm, ga, gr, d1, d2, d3, w2]; exact rfl))
    | (refine WpItems.nil ⟨?_, ?_⟩; (· first | trivial | simp [pairsQ, pairsOk, apart, ent0]))
    | (apply Wp.cond_lit; (· simp only [go_sem, reduceIte, Nat.reduceEqDiff, Nat.reduceAdd, bx, ax, if_true, if_false, Nat.reduceMul, Nat.reduceLeDiff, gm, ga, gr, d1, d2, d3, w2]; exact rfl); (· rfl))
    | refine Wp.skip ?_
    | refine Wp.label ?_
    | refine Wp.block ?_
    | refine Wp.exit ?_
    | refine Wp.seq ?_)
  rw [upd_new, upd_ob]
  have ok4 := ok3.more (.cells [.sl 2 (V.1.L.map encI) .any, .int .i64 V.1.last, .int .i64 V.1.mark])
  have r1 : a.l.length * 40 ≤ 140737488355328 := by omega
  have r2 : a.l.length < 4611686018427387904 := by omega
  repeat (first
    | ((first | apply Wp.seqItemsR | apply Wp.itemsR); (· simp only [go_sem, reduceIte, Nat.reduceEqDiff, Nat.reduceAdd, bx, ax, if_true, if_false, Nat.reduceMul, Nat.reduceLeDiff, gm, ga, gr, s0, s1, s2, s3, w2, chs_length, List.length_nil, List.map_nil, List.nil_append, List.all_nil, r1, r2]; exact rfl))
    | (refine WpItems.nil ⟨?_, ?_⟩; (· first | trivial | simp [pairsQ, pairsOk, apart, ent0]))
    | (apply Wp.cond_lit; (· simp only [go_sem, reduceIte, Nat.reduceEqDiff, Nat.reduceAdd, bx, ax, if_true, if_false, Nat.reduceMul, Nat.reduceLeDiff, gm, ga, gr, s0, s1, s2, s3, w2, chs_length, List.length_nil, List.map_nil, List.nil_append, List.all_nil, r1, r2]; exact rfl); (· rfl))
    | refine Wp.skip ?_
    | refine Wp.label ?_
    | refine Wp.block ?_
    | refine Wp.exit ?_
    | refine Wp.seq ?_)
  refine WpItems.gcallI [_, _, _, _] [F] [] (by simp only [go_sem, bx]) (by simp only [go_sem, reduceIte, Nat.reduceEqDiff, List.map]; exact VSubs.cons (VSub.refl _) (VSubs.cons (VSub.refl _) (VSubs.cons VSub.own VSubs.nil))) hap (Ok.tok ok4) fun r G' n' T' m' ids hq on hids => ?_
  obtain ⟨rfl, F', rfl, hF'⟩ := hq
  have hi := nin ids _ hids
  simp only [List.cons_append, List.nil_append, List.append_nil] at on ⊢
  refine WpItems.evR (by simp only [go_sem, reduceIte, Nat.reduceEqDiff, Nat.reduceAdd, bx, gm, ga, gr, s0, s1, s2, s3, decide_true]; exact rfl) ?_
  have hu := Ok.upd_ob (A := [_]) (.cells [.sl 2 (V.1.L.map encI) .any, .int .i64 V.1.last, .int .i64 V.1.mark]) on.ok
  have on2 := on.step (On.put_ob (A := [_]) (o' := .cells [.sl 2 (V.1.L.map encI) .any, .int .i64 V.1.last, .int .i64 V.1.mark]) on.ok)
  simp only [List.cons_append, List.nil_append] at hu on2
  rw [hu]
  refine WpItems.nil ⟨?_, ?_⟩
  · simp [pairsQ, pairsOk, apart, ent0]
    exact hi _ (by omega) (by omega)
  have on3 := (On.step ⟨Nat.le_refl _, Nat.le_succ _, Ok.tok ok4, .refl, .refl⟩ on2).grown.grown.grown.grown
  refine Wp.ret ⟨trivial, .tup [.ptr s 0, encS V.1, .bool true], ?_, ?_⟩
  · simp only [resOf, rvs, rv, go_sem, reduceIte, Nat.reduceEqDiff, s2, lay_ob_at, encS]; rfl
  · exact ⟨_, [F'], on3.ends1 (by simp) hF'.k (VSub.refl _) ⟨s, F', by rw [hst], rfl, by rw [hst]; exact hF'⟩⟩
end Go.Proofs.Ytpehfflehebmbaa.Space
end
section
set_option linter.unusedSimpArgs false
set_option linter.unusedVariables false
set_option maxRecDepth 10000
namespace Go.Proofs.Ytpehfflehebmbaa.Space
open Go Go.Av Go.Proofs Go.Proofs.Ytpehfflehebmbaa.C Go.Proofs.Ytpehfflehebmbaa.Batch
def S0 : Spc := ⟨[], 0, 0⟩
def playS (S : Spc) (l : List Act) : Spc := l.foldl stepA S
theorem play_snoc (S : Spc) (l : List Act) {j : Nat} (h : j < l.length) : playS S (l.take (j + 1)) = stepA (playS S (l.take j)) (l.getD j default) := by
  rw [take_snoc default h, playS, List.foldl_append]; rfl
theorem step_keeps {S : Spc} {k : Nat} {a : Act} (hF : Fit S k) (hR : Rt S) (hc : ∀ c ∈ a.l, Ls c.k) : Fit (stepA S a) (k + a.l.length) ∧ Rt (stepA S a) := by
  unfold stepA
  split
  · exact ⟨(hF.vac _).mono (by omega), hR.vac hF _⟩
  · split
    · exact ⟨hF.mono (by omega), hR⟩
    · split
      · exact ⟨hF.mono (by omega), hR⟩
      · exact ⟨hF.apply _ _ hc, hR.apply hF _ _⟩
theorem Few.ls {l : List Act} (h : Few l) {a : Act} (ha : a ∈ l) : ∀ c ∈ a.l, Ls c.k := fun c hc => by
  have := (h.c a ha c hc).1
  unfold Ls; omega
theorem play_keeps {S : Spc} {k : Nat} (hF : Fit S k) (hR : Rt S) {l : List Act} (h : Few l) : ∀ j, j ≤ l.length → Fit (playS S (l.take j)) (k + cntA (l.take j)) ∧ Rt (playS S (l.take j))
  | 0, _ => ⟨by simpa [playS, cntA] using hF, by simpa [playS] using hR⟩
  | j + 1, hj => by
    obtain ⟨h1, h2⟩ := play_keeps hF hR h j (by omega)
    rw [play_snoc S l (show j < l.length by omega), cntA_snoc (show j < l.length by omega)]
    have hm : l.getD j default ∈ l := by rw [getD_el (show j < l.length by omega)]; exact List.getElem_mem _
    obtain ⟨h3, h4⟩ := step_keeps h1 h2 (h.ls hm)
    exact ⟨h3.mono (by omega), h4⟩
theorem Few.cnt {l : List Act} (h : Few l) (j : Nat) (hj : j ≤ l.length) : cntA (l.take j) ≤ 200 := by
  have := cnt_mono l hj
  rw [List.take_length] at this
  exact Nat.le_trans this h.n
theorem ole_turn {i : Nat} {o o' : Av.Obj} {l : List Fr} (hs : OSub o o') : OLe (lay (ob i o :: l)) (lay (ob i o' :: l)) := by
  intro j p hj
  by_cases e : j = i
  · subst e
    rw [lay_ob_at] at hj
    cases hj
    exact ⟨o, lay_ob_at _ _ _, hs⟩
  · rw [lay_ob_ne _ _ e] at hj
    exact ⟨p, by rw [lay_ob_ne _ _ e]; exact hj, OSub.refl _⟩
def spO (S : Spc) : Av.Obj := .cells [.sl 2 (S.L.map encI) .any, .int .i64 S.last, .int .i64 S.mark]
theorem spO0 : OSub (.cells [.sl 2 [] (.exact 0), .int .i64 0, .int .i64 0]) (spO S0) := VSubs.cons VSub.cap (VSubs.refl _)
end Go.Proofs.Ytpehfflehebmbaa.Space
end
section
set_option linter.unusedSimpArgs false
set_option linter.unusedVariables false
set_option maxRecDepth 10000
namespace Go.Proofs.Ytpehfflehebmbaa.Space
open Go Go.Av Go.Proofs Go.Proofs.Ytpehfflehebmbaa.C Go.Proofs.Ytpehfflehebmbaa.Batch
set_option maxHeartbeats 4000000 in
theorem plays_p (l : List Act) (hl : l.length ≤ 35184372088832) (hv : ∀ x ∈ l, x.l.length ≤ 35184372088832) (a b : Bs) (la : Ls a) (lb : Ls b) (t most : Int) : PCalls Try.prog 6 [.sl 3 (l.map encA) .any, .str a, .str b, .int .i64 t, .int .i64 most] (.bool true) := by
  refine f6.pcalls0 (by simp) (by simp [allPure, isPure, capPure, acts_pure]) rfl ?_
  unfold c6
  have hil : (l.map encA).length = l.length := by simp
  have hL := lives_p
  have hfew := few_p l hl hv
  cases hfw : fewB l with
  | false =>
    rw [hfw] at hfew
    repeat (first
      | ((first | apply Wp.seqItemsR | apply Wp.itemsR | ((first
          | (refine WpItems.pcall ?_ ?_ (hfew) ?_; (· simp only [go_sem, reduceIte, Nat.reduceEqDiff, Nat.reduceAdd, bx]); (· simp only [go_sem, reduceIte, Nat.reduceEqDiff, Nat.reduceAdd, bx, List.map]; first | exact VSubs.refl _ | (repeat (first | exact VSubs.nil | refine VSubs.cons (by first | exact VSub.refl _ | assumption | exact VSub.cap | exact VSub.any _) ?_))))
          | (refine WpItems.pcall ?_ ?_ (hL) ?_; (· simp only [go_sem, reduceIte, Nat.reduceEqDiff, Nat.reduceAdd, bx]); (· simp only [go_sem, reduceIte, Nat.reduceEqDiff, Nat.reduceAdd, bx, List.map]; first | exact VSubs.refl _ | (repeat (first | exact VSubs.nil | refine VSubs.cons (by first | exact VSub.refl _ | assumption | exact VSub.cap | exact VSub.any _) ?_))))); apply WpItems.evR)); (· simp only [go_sem, reduceIte, Nat.reduceEqDiff, Nat.reduceAdd, bx, ax, if_true, if_false, Nat.reduceMul, Nat.reduceLeDiff, hil]; exact rfl))
      | (refine WpItems.nil ⟨?_, ?_⟩; (· first | trivial | simp [pairsQ, pairsOk, apart, ent0]))
      | (apply Wp.cond_lit; (· simp only [go_sem, reduceIte, Nat.reduceEqDiff, Nat.reduceAdd, bx, ax, if_true, if_false, Nat.reduceMul, Nat.reduceLeDiff, hil]; exact rfl); (· rfl))
      | refine Wp.skip ?_
      | refine Wp.label ?_
      | refine Wp.block ?_
      | refine Wp.exit ?_
      | refine Wp.seq ?_)
    refine Wp.ret ⟨trivial, _, rfl, ?_⟩
    simp only [go_sem, reduceIte, Nat.reduceEqDiff, Nat.reduceAdd, bx]
    exact VSub.refl _
  | true =>
    rw [hfw] at hfew
    have hw := few_of hfw
    repeat (first
      | ((first | apply Wp.seqItemsR | apply Wp.itemsR | ((first
          | (refine WpItems.pcall ?_ ?_ (hfew) ?_; (· simp only [go_sem, reduceIte, Nat.reduceEqDiff, Nat.reduceAdd, bx]); (· simp only [go_sem, reduceIte, Nat.reduceEqDiff, Nat.reduceAdd, bx, List.map]; first | exact VSubs.refl _ | (repeat (first | exact VSubs.nil | refine VSubs.cons (by first | exact VSub.refl _ | assumption | exact VSub.cap | exact VSub.any _) ?_))))); apply WpItems.evR)); (· simp only [go_sem, reduceIte, Nat.reduceEqDiff, Nat.reduceAdd, bx, ax, if_true, if_false, Nat.reduceMul, Nat.reduceLeDiff, hil]; exact rfl))
      | (refine WpItems.nil ⟨?_, ?_⟩; (· first | trivial | simp [pairsQ, pairsOk, apart, ent0]))
      | (apply Wp.cond_lit; (· simp only [go_sem, reduceIte, Nat.reduceEqDiff, Nat.reduceAdd, bx, ax, if_true, if_false, Nat.reduceMul, Nat.reduceLeDiff, hil]; exact rfl); (· rfl))
      | refine Wp.skip ?_
      | refine Wp.label ?_
      | refine Wp.block ?_
      | refine Wp.exit ?_
      | refine Wp.seq ?_)
    show WpItems _ _ _ _ ⟨lay [], 0, [], 0⟩ _ _
    refine WpItems.gcall1 (by simp only [go_sem, reduceIte, Nat.reduceEqDiff, Nat.reduceAdd, bx]) (by simp only [go_sem, reduceIte, Nat.reduceEqDiff, Nat.reduceAdd, bx, List.map]; first | exact VSubs.refl _ | (repeat (first | exact VSubs.nil | refine VSubs.cons (by first | exact VSub.refl _ | assumption | exact VSub.cap | exact VSub.any _) ?_))) (new_g) (Ok.nil) fun r1 G1 n1 T1 m1 ids1 hq1 on1 => ?_
    obtain ⟨s0, F0, rfl, rfl, hF0⟩ := hq1
    refine WpItems.evR (by simp only [go_sem, reduceIte, Nat.reduceEqDiff, Nat.reduceAdd, bx]; exact rfl) ?_
    repeat (first
      | ((first | apply Wp.seqItemsR | apply Wp.itemsR); (· simp only [go_sem, reduceIte, Nat.reduceEqDiff, Nat.reduceAdd, bx, ax, if_true, if_false, Nat.reduceMul, Nat.reduceLeDiff, hil]; exact rfl))
      | (refine WpItems.nil ⟨?_, ?_⟩; (· first | trivial | simp [pairsQ, pairsOk, apart, ent0]))
      | (apply Wp.cond_lit; (· simp only [go_sem, reduceIte, Nat.reduceEqDiff, Nat.reduceAdd, bx, ax, if_true, if_false, Nat.reduceMul, Nat.reduceLeDiff, hil]; exact rfl); (· rfl))
      | refine Wp.skip ?_
      | refine Wp.label ?_
      | refine Wp.block ?_
      | refine Wp.exit ?_
      | refine Wp.seq ?_)
    rw [upd_new]
    have ok2 := on1.ok.more (.cells [.sl 2 [] (.exact 0), .int .i64 0, .int .i64 0])
    refine Wp.le (StLe.of (fun i => VSub.refl _) (ole_turn spO0) (fun _ h => h) (Nat.le_refl _) (Nat.le_refl _)) ?_
    have ok3 := ok2.turn (o' := spO S0)
    have keeps := play_keeps (S := S0) Fit.zero Rt.zero hw
    refine Wp.loopG (β := Nat × Nat) [0, 1, 2, 3, 4, 12] (by simp only [go_sem, reduceIte, Nat.reduceEqDiff, List.map]; exact rfl) (fun b => [(11, .ptr b.2 0), (13, .int .i64 (b.1 : Nat))]) (fun b L => b.1 ≤ l.length ∧ ∃ F, L = [ob n1 (spO (playS S0 (l.take b.1))), F] ∧ SpcF b.2 (playS S0 (l.take b.1)) F) (fun b => l.length - b.1) (0, s0) ⟨Nat.zero_le _, F0, rfl, hF0⟩ ok3 (by simp only [AllSub, go_sem, reduceIte, Nat.reduceEqDiff]; exact ⟨VSub.refl _, VSub.refl _, trivial⟩) ?_
    rintro ⟨j, s⟩ L n2 T2 m2 on ⟨hj, F, rfl, hF⟩
    simp only at hj hF ⊢
    obtain ⟨hfit, hrt⟩ := keeps j hj
    have hcn := hw.cnt j hj
    by_cases hc : j < l.length
    · have g1 : decide (((j : Nat) : Int) < ((l.length : Nat) : Int)) = true := decide_eq_true (by omega)
      have h2 : (0 : Int) ≤ ((j : Nat) : Int) := by omega
      have h3 : ((j : Nat) : Int) < ((l.length : Nat) : Int) := by omega
      have e1 : IntKind.i64.wrap (((j : Nat) : Int) + 1) = ((j + 1 : Nat) : Int) := by rw [IntWalk.i64_in _ (by omega)]; omega
      have hat := enc_at encA l j .any hc
      have hm : l.getD j default ∈ l := by rw [getD_el hc]; exact List.getElem_mem _
      have hsn := play_snoc S0 l hc
      obtain ⟨hfit2, hrt2⟩ := keeps (j + 1) hc
      have hcn2 := hw.cnt (j + 1) hc
      have hcs := cntA_snoc hc
      have htb := hw.t _ hm
      generalize hS2 : playS S0 (l.take (j + 1)) = S2 at *
      generalize hS1 : playS S0 (l.take j) = S1 at *
      generalize l.getD j default = x at *
      have hst := step_g (a := x) hF hfit hrt (by omega) htb.1 htb.2
      have sp1 : lay [ob n1 (spO S1), F] n1 = some (.cells [.sl 2 (S1.L.map encI) .any, .int .i64 S1.last, .int .i64 S1.mark]) := lay_ob_at _ _ _
      repeat (first
        | ((first | apply Wp.seqItemsR | apply Wp.itemsR); (· simp only [go_sem, reduceIte, Nat.reduceEqDiff, Nat.reduceAdd, bx, ax, if_true, if_false, Nat.reduceMul, Nat.reduceLeDiff, g1, h2, h3, e1, hil, hat, encA, sp1]; exact rfl))
        | (refine WpItems.nil ⟨?_, ?_⟩; (· first | trivial | simp [pairsQ, pairsOk, apart, ent0]))
        | (apply Wp.cond_lit; (· simp only [go_sem, reduceIte, Nat.reduceEqDiff, Nat.reduceAdd, bx, ax, if_true, if_false, Nat.reduceMul, Nat.reduceLeDiff, g1, h2, h3, e1, hil, hat, encA, sp1]; exact rfl); (· rfl))
        | refine Wp.skip ?_
        | refine Wp.label ?_
        | refine Wp.block ?_
        | refine Wp.exit ?_
        | refine Wp.seq ?_)
      unfold encS encA at hst
      refine WpItems.gcallI [_] [F] [] (by simp only [go_sem, bx]) (by simp only [go_sem, reduceIte, Nat.reduceEqDiff, List.map]; exact VSubs.refl _) hst on.ok fun r G' n3 T3 m3 ids3 hq3 on3 hids3 => ?_
      obtain ⟨s2, F2, rfl, rfl, hF2⟩ := hq3
      rw [← hsn] at hF2 ⊢
      simp only [List.cons_append, List.nil_append, List.append_nil] at on3 ⊢
      refine WpItems.evR (by simp only [go_sem, reduceIte, Nat.reduceEqDiff, Nat.reduceAdd, bx, encS]; exact rfl) ?_
      rw [upd_new, upd_ob]
      have fn : F.o n1 = none := by
        have := on.ok.alone
        rw [lay_cons] at this
        cases h : F.o n1 with
        | none => rfl
        | some o => rw [h] at this; cases this
      have n12 : n1 < n2 := on.ok.lt (F := ob n1 (spO S1)) (by simp) (by rw [ob_o, if_pos rfl])
      have hi : ∀ id, id ∈ ids3 → ¬ id = n1 := fun id h e => by
        rcases hids3 id h with h | h
        · rw [e, lay_cons, fn] at h; cases h
        · omega
      have hi2 : ∀ id, id ∈ ids3 → ¬ id = n3 := fun id h e => by
        rcases hids3 id h with h | h
        · rw [e, lay_cons, on.ok.bd F (by simp) n3 on3.gn] at h; cases h
        · omega
      refine WpItems.nil ⟨?_, ?_⟩
      · simp [pairsQ, pairsOk, apart, ent0]
        exact ⟨by have := on3.gn; omega, hi2, fun h => hi2 _ h rfl⟩
      have ok4 := on3.ok.more (.cells [.sl 2 (S2.L.map encI) .any, .int .i64 S2.last, .int .i64 S2.mark])
      have ha := alike_g hF2 hfit2 (by omega)
      have hb := asked_g hF2 hfit2 (by omega) a a b la la lb t most
      unfold encS at ha hb
      have sp2 : ∀ L, lay (ob n3 (.cells [.sl 2 (S2.L.map encI) .any, .int .i64 S2.last, .int .i64 S2.mark]) :: L) n3 = some (.cells [.sl 2 (S2.L.map encI) .any, .int .i64 S2.last, .int .i64 S2.mark]) := fun L => lay_ob_at _ _ _
      repeat (first
        | ((first | apply Wp.seqItemsR | apply Wp.itemsR); (· simp only [go_sem, reduceIte, Nat.reduceEqDiff, Nat.reduceAdd, bx, ax, if_true, if_false, Nat.reduceMul, Nat.reduceLeDiff, sp2]; exact rfl))
        | (refine WpItems.nil ⟨?_, ?_⟩; (· first | trivial | simp [pairsQ, pairsOk, apart, ent0]))
        | (apply Wp.cond_lit; (· simp only [go_sem, reduceIte, Nat.reduceEqDiff, Nat.reduceAdd, bx, ax, if_true, if_false, Nat.reduceMul, Nat.reduceLeDiff, sp2]; exact rfl); (· rfl))
        | refine Wp.skip ?_
        | refine Wp.label ?_
        | refine Wp.block ?_
        | refine Wp.exit ?_
        | refine Wp.seq ?_)
      refine WpItems.gkeepI ([_, _]) ([]) (by simp only [go_sem, reduceIte, Nat.reduceEqDiff, Nat.reduceAdd, bx]) (by simp only [go_sem, reduceIte, Nat.reduceEqDiff, Nat.reduceAdd, bx, List.map]; first | exact VSubs.refl _ | (repeat (first | exact VSubs.nil | refine VSubs.cons (by first | exact VSub.refl _ | assumption | exact VSub.cap | exact VSub.any _) ?_))) (ha) (hF2.k) (ok4) fun n4 m4 ids4 hn4 hm4 hids4 ok5 => ?_
      simp only [List.cons_append, List.nil_append] at ok5 ⊢
      refine WpItems.evR (by simp only [go_sem, reduceIte, Nat.reduceEqDiff, Nat.reduceAdd, bx, sp2]; exact rfl) ?_
      refine WpItems.gkeepI ([_, _]) ([]) (by simp only [go_sem, reduceIte, Nat.reduceEqDiff, Nat.reduceAdd, bx]) (by simp only [go_sem, reduceIte, Nat.reduceEqDiff, Nat.reduceAdd, bx, List.map]; first | exact VSubs.refl _ | (repeat (first | exact VSubs.nil | refine VSubs.cons (by first | exact VSub.refl _ | assumption | exact VSub.cap | exact VSub.any _) ?_))) (hb) (hF2.k) (ok5) fun n5 m5 ids5 hn5 hm5 hids5 ok6 => ?_
      simp only [List.cons_append, List.nil_append] at ok6 ⊢
      refine WpItems.evR (by simp only [go_sem, reduceIte, Nat.reduceEqDiff, Nat.reduceAdd, bx]; exact rfl) ?_
      have sp3 : lay [ob n3 (.cells [.sl 2 (S2.L.map encI) .any, .int .i64 S2.last, .int .i64 S2.mark]), ob n1 (spO S1), F2] n1 = some (.cells [.sl 2 (S1.L.map encI) .any, .int .i64 S1.last, .int .i64 S1.mark]) := by
        rw [lay_ob_ne _ _ (by have := on3.gn; omega)]; exact lay_ob_at _ _ _
      repeat (first
        | ((first | apply Wp.seqItemsR | apply Wp.itemsR); (· simp only [go_sem, reduceIte, Nat.reduceEqDiff, Nat.reduceAdd, bx, ax, if_true, if_false, Nat.reduceMul, Nat.reduceLeDiff, sp2, sp3, e1]; exact rfl))
        | (refine WpItems.nil ⟨?_, ?_⟩; (· first | trivial | simp [pairsQ, pairsOk, apart, ent0]))
        | (apply Wp.cond_lit; (· simp only [go_sem, reduceIte, Nat.reduceEqDiff, Nat.reduceAdd, bx, ax, if_true, if_false, Nat.reduceMul, Nat.reduceLeDiff, sp2, sp3, e1]; exact rfl); (· rfl))
        | refine Wp.skip ?_
        | refine Wp.label ?_
        | refine Wp.block ?_
        | refine Wp.exit ?_
        | refine Wp.seq ?_)
      have hu := Ok.upd_ob (A := [_]) (spO S2) ok6
      have onp := On.put_ob (A := [_]) (o' := spO S2) ok6
      simp only [List.cons_append, List.nil_append] at hu onp
      have on7 := On.under (On.step ⟨by omega, by omega, ok6, .refl, .refl⟩ onp : On (ob n3 _ :: [ob n1 (spO S1), F2]) (n3 + 1) m3 (ob n3 _ :: [ob n1 (spO S2), F2]) n5 T3 m5)
      refine ⟨(j + 1, s2), [ob n1 (spO S2), F2], n5, T3, m5, on3.step on7, ⟨by simp only; omega, F2, by simp only [hS2], by simp only [hS2]; exact hF2⟩, by simp only; omega, ?_⟩
      have e : ∀ o : Objs, o = lay (ob n3 (.cells [.sl 2 (S2.L.map encI) .any, .int .i64 S2.last, .int .i64 S2.mark]) :: [ob n1 (spO S2), F2]) → OLe o (lay [ob n1 (spO S2), F2]) := fun o h => by rw [h]; exact ole_drop_ob (Ok.alone onp.ok)
      refine StLe.of (tm_le ?_) (e _ hu) (fun _ h => h) (Nat.le_refl _) (Nat.le_refl _)
      simp only [AllSub, go_sem, reduceIte, Nat.reduceEqDiff, Nat.reduceAdd, bx]; and_intros <;> first | exact trivial | exact VSub.refl _ | exact VSub.any _ | (refine VSub.int ?_; omega)
    · have hje : j = l.length := by omega
      subst hje
      have g1 : decide (((l.length : Nat) : Int) < ((l.length : Nat) : Int)) = false := decide_eq_false (by omega)
      simp only at on
      rw [List.take_length] at hF hfit hcn hrt on
      have sp1 : lay [ob n1 (spO (playS S0 l)), F] n1 = some (.cells [.sl 2 ((playS S0 l).L.map encI) .any, .int .i64 (playS S0 l).last, .int .i64 (playS S0 l).mark]) := lay_ob_at _ _ _
      rw [List.take_length]
      generalize playS S0 l = S at *
      have ha := asked_g hF hfit (by omega) b a b lb la lb S.last (-1)
      have hb := asked_g hF hfit (by omega) a [] [] la (by simp [Ls]) (by simp [Ls]) S.mark most
      unfold encS at ha hb
      repeat (first
        | ((first | apply Wp.seqItemsR | apply Wp.itemsR); (· simp only [go_sem, reduceIte, Nat.reduceEqDiff, Nat.reduceAdd, bx, ax, if_true, if_false, Nat.reduceMul, Nat.reduceLeDiff, g1, hil, sp1]; exact rfl))
        | (refine WpItems.nil ⟨?_, ?_⟩; (· first | trivial | simp [pairsQ, pairsOk, apart, ent0]))
        | (apply Wp.cond_lit; (· simp only [go_sem, reduceIte, Nat.reduceEqDiff, Nat.reduceAdd, bx, ax, if_true, if_false, Nat.reduceMul, Nat.reduceLeDiff, g1, hil, sp1]; exact rfl); (· rfl))
        | refine Wp.skip ?_
        | refine Wp.label ?_
        | refine Wp.block ?_
        | refine Wp.exit ?_
        | refine Wp.seq ?_)
      refine WpItems.gkeepI ([_]) ([]) (by simp only [go_sem, reduceIte, Nat.reduceEqDiff, Nat.reduceAdd, bx]) (by simp only [go_sem, reduceIte, Nat.reduceEqDiff, Nat.reduceAdd, bx, List.map]; first | exact VSubs.refl _ | (repeat (first | exact VSubs.nil | refine VSubs.cons (by first | exact VSub.refl _ | assumption | exact VSub.cap | exact VSub.any _) ?_))) (ha) (hF.k) (on.ok) fun n4 m4 ids4 hn4 hm4 hids4 ok5 => ?_
      simp only [List.cons_append, List.nil_append] at ok5 ⊢
      refine WpItems.evR (by simp only [go_sem, reduceIte, Nat.reduceEqDiff, Nat.reduceAdd, bx, sp1, Nat.reduceLeDiff]; exact rfl) ?_
      refine WpItems.gkeepI ([_]) ([]) (by simp only [go_sem, reduceIte, Nat.reduceEqDiff, Nat.reduceAdd, bx]) (by simp only [go_sem, reduceIte, Nat.reduceEqDiff, Nat.reduceAdd, bx, List.map]; first | exact VSubs.refl _ | (repeat (first | exact VSubs.nil | refine VSubs.cons (by first | exact VSub.refl _ | assumption | exact VSub.cap | exact VSub.any _) ?_))) (hb) (hF.k) (ok5) fun n5 m5 ids5 hn5 hm5 hids5 ok6 => ?_
      simp only [List.cons_append, List.nil_append] at ok6 ⊢
      refine WpItems.evR (by simp only [go_sem, reduceIte, Nat.reduceEqDiff, Nat.reduceAdd, bx]; exact rfl) ?_
      repeat (first
        | ((first | apply Wp.seqItemsR | apply Wp.itemsR | ((first
            | (refine WpItems.pcall ?_ ?_ (hL) ?_; (· simp only [go_sem, reduceIte, Nat.reduceEqDiff, Nat.reduceAdd, bx]); (· simp only [go_sem, reduceIte, Nat.reduceEqDiff, Nat.reduceAdd, bx, List.map]; first | exact VSubs.refl _ | (repeat (first | exact VSubs.nil | refine VSubs.cons (by first | exact VSub.refl _ | assumption | exact VSub.cap | exact VSub.any _) ?_))))); apply WpItems.evR)); (· simp only [go_sem, reduceIte, Nat.reduceEqDiff, Nat.reduceAdd, bx, ax, if_true, if_false, Nat.reduceMul, Nat.reduceLeDiff, hil]; exact rfl))
        | (refine WpItems.nil ⟨?_, ?_⟩; (· first | trivial | simp [pairsQ, pairsOk, apart, ent0]))
        | (apply Wp.cond_lit; (· simp only [go_sem, reduceIte, Nat.reduceEqDiff, Nat.reduceAdd, bx, ax, if_true, if_false, Nat.reduceMul, Nat.reduceLeDiff, hil]; exact rfl); (· rfl))
        | refine Wp.skip ?_
        | refine Wp.label ?_
        | refine Wp.block ?_
        | refine Wp.exit ?_
        | refine Wp.seq ?_)
      refine Wp.ret ⟨trivial, _, rfl, ?_⟩
      simp only [go_sem, reduceIte, Nat.reduceEqDiff, Nat.reduceAdd, bx]
      exact VSub.refl _
theorem law_SpacePlays {b : Nat} (avs : List AV) (h : All2 (ArgFits Try.prog 5) Try.f6.params.toList avs) (_ : bulkAs avs ≤ b) : PCalls Try.prog 6 avs (.bool true) := by
  rw [Try.params6] at h
  cases h with | cons h0 h => cases h with | cons h1 h => cases h with | cons h2 h => cases h with | cons h3 h => cases h with | cons h4 h =>
  cases h
  have e : reachBytes = 140737488351232 := rfl
  obtain ⟨l, rfl, hl, hv⟩ := open_acts h0
  obtain ⟨a, rfl, ha⟩ := open_str h1
  obtain ⟨c, rfl, hc⟩ := open_str h2
  obtain ⟨t, rfl, -⟩ := open_i h3
  obtain ⟨m, rfl, -⟩ := open_i h4
  exact plays_p l hl (fun x hx => (hv x hx).2.2.1) a c (by unfold Ls; omega) (by unfold Ls; omega) t m
end Go.Proofs.Ytpehfflehebmbaa.Space
end
section
set_option linter.unusedSimpArgs false
set_option linter.unusedVariables false
namespace Go.Proofs.Ytpehfflehebmbaa.Space
open Go Go.Av Go.Proofs Go.Proofs.Ytpehfflehebmbaa.C
open Go.ChangeShapes Go.WideShapes Go.ChangeAt Go.RowKit
set_option maxRecDepth 100000 in
theorem lifted_SpacePlays (os : Os) (started : os.Started) (H : Type) (enc : TypeId × Value → H) :
    ReturnsInHanded {} Try.checked os 6 .any (Rows.spacePlaysSpec.pre6 enc Try.prog Try.f6 Rows.spacePlaysRow.domain false) (Rows.spacePlaysSpec.post enc Try.prog Try.f6 false true false false) := by
  refine returnsInHanded_of_change_sized (C := Try.checked) own started (by kernel_rfl) Try.func6
    (ChangeSpec.witness6 (enc := enc) (C := Try.checked) false ⟨#[], #[.slice none 0 0, .string ⟨#[]⟩, .string ⟨#[]⟩, .int .i64 0, .int .i64 0], []⟩ 8 (by kernel_rfl) (by kernel_rfl) (by kernel_rfl) (by kernel_rfl)) ?_
  intro W base args ds gs before hval hW _ hwt _
  exact calls_row laid bulk rowed full rfl (fun l hl => by match l, hl with | [_, _, _, _, _], _ => rfl) rfl Try.underlying4 (by kernel_rfl) (by kernel_rfl) hval hW hwt (fun avs h hb => law_SpacePlays avs h hb)
theorem said_SpacePlays : Rows.SpacePlaysSaid :=
  OpenClaim.holds_of_wide 6 Try.f6 rfl rfl rfl rfl rfl rfl rfl ⟨rfl, rfl, rfl, rfl, rfl⟩ rfl rfl rfl rfl rfl (by kernel_rfl) Try.func6 (by kernel_rfl)
    (of_decide_eq_true (by kernel_rfl)) (by unfold Func.isWrapper; first | (rw [if_pos (by decide +kernel)]; kernel_rfl) | (rw [if_neg (by decide +kernel)]; exact ⟨rfl, rfl⟩))
    (fun os started H enc _ => lifted_SpacePlays os started H enc)
#print axioms said_SpacePlays
end Go.Proofs.Ytpehfflehebmbaa.Space
end
