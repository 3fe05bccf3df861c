/- Parts of a proof: a layer of abstract values over the model, the functions' walks, plain laws. -/
import Derived.Deep.CondSized
import Derived.IntWalk
import Derived.KernelRfl
import Derived.Laws.Append
import Derived.Laws.AppendOwn
import Derived.Laws.BytesArg
import Derived.Laws.Cover3
import Derived.Laws.Entries
import Derived.Laws.IdiomCopy
import Derived.Laws.IdiomStrings
import Derived.Laws.Pointers
import Derived.Laws.Small
import Derived.Laws.Strings
import Derived.Laws.StructEq
import Derived.MapKept
import Derived.OpenShut
import Derived.Orders
import Derived.OrdersIn
import Derived.ProofKit
import Derived.RangeFuncRecord
import Derived.RangeFuncSeq
import Derived.ReadAgain
import Derived.Scope
import Derived.Shelf.Slices.Cells
import Derived.Shelf.Slices.Delete
import Derived.Shelf.Spec.SlicesInsertGrow
import Derived.SizedLaws
import Derived.Test.YtpehfflehebmbaaRows
import Derived.Test.YtpehfflehebmbaaMsC
section
set_option linter.unusedSimpArgs false
set_option linter.unusedVariables false
set_option maxRecDepth 10000
namespace Go.Proofs.Ytpehfflehebmbaa.Space
open Go Go.Av Go.Proofs Go.Proofs.Ytpehfflehebmbaa.C Go.Proofs.Ytpehfflehebmbaa.Batch
abbrev It := Bs × List Ver
def vAV (v : List Ver) : AV := .sl 3 (v.map encV) .any
def encM (M : List It) : List (AV × AV) := M.map fun p => (.str p.1, vAV p.2)
def mres : List It → Bs → Option (Nat × AV)
  | [], _ => none
  | p :: M, q => if p.1 = q then some (0, vAV p.2) else (mres M q).map fun r => (r.1 + 1, r.2)
def mget : List It → Bs → List Ver
  | [], _ => []
  | p :: M, q => if p.1 = q then p.2 else mget M q
def mput : List It → Bs → List Ver → List It
  | [], q, v => [(q, v)]
  | p :: M, q, v => if p.1 = q then (q, v) :: M else p :: mput M q v
def mdel : List It → Bs → List It
  | [], _ => []
  | p :: M, q => if p.1 = q then M else p :: mdel M q
theorem mfind_enc (q : Bs) : ∀ M : List It, mfind q (encM M) = some (mres M q)
  | [] => rfl
  | p :: M => by
    have ih := mfind_enc q M
    simp only [encM, List.map_cons, mfind, mres] at ih ⊢
    by_cases h : p.1 = q
    · simp only [if_pos h]
    · simp only [if_neg h, ih, Option.map_some]
theorem look_sub (M : List It) (q : Bs) : VSub (lookAV (.sl 3 [] (.exact 0)) false (mres M q)) (vAV (mget M q)) := by
  have key : ∀ M : List It, (mres M q = none ∧ mget M q = []) ∨ ∃ i, mres M q = some (i, vAV (mget M q)) := by
    intro M
    induction M with
    | nil => exact .inl ⟨rfl, rfl⟩
    | cons p M ih =>
      simp only [mres, mget]
      by_cases h : p.1 = q
      · simp only [if_pos h]; exact .inr ⟨0, rfl⟩
      · simp only [if_neg h]
        rcases ih with ⟨h1, h2⟩ | ⟨i, h1⟩
        · exact .inl ⟨by rw [h1]; rfl, h2⟩
        · exact .inr ⟨i + 1, by rw [h1]; rfl⟩
  rcases key M with ⟨h1, h2⟩ | ⟨i, h1⟩
  · rw [h1, h2]; exact VSub.cap
  · rw [h1]; exact VSub.refl _
theorem put_enc (q : Bs) (v : List Ver) : ∀ M : List It, putEs (encM M) q (vAV v) (mres M q) = encM (mput M q v)
  | [] => rfl
  | p :: M => by
    have ih := put_enc q v M
    simp only [mres, mput]
    by_cases h : p.1 = q
    · simp only [if_pos h, putEs, encM, List.map_cons, List.set_cons_zero]
    · simp only [if_neg h]
      cases hr : mres M q with
      | none => rw [hr] at ih; simp only [Option.map_none, putEs, encM, List.map_cons, List.cons_append] at ih ⊢; rw [ih]
      | some r => rw [hr] at ih; simp only [Option.map_some, putEs, encM, List.map_cons, List.set_cons_succ] at ih ⊢; rw [ih]
theorem del_enc (q : Bs) : ∀ M : List It, delEs (encM M) (mres M q) = encM (mdel M q)
  | [] => rfl
  | p :: M => by
    have ih := del_enc q M
    simp only [mres, mdel]
    by_cases h : p.1 = q
    · simp only [if_pos h, delEs, encM, List.map_cons, List.eraseIdx_cons_zero]
    · simp only [if_neg h]
      cases hr : mres M q with
      | none => rw [hr] at ih; simp only [Option.map_none, delEs, encM, List.map_cons] at ih ⊢; rw [ih]
      | some r => rw [hr] at ih; simp only [Option.map_some, delEs, encM, List.map_cons, List.eraseIdx_cons_succ] at ih ⊢; rw [ih]
theorem mget_put (q q' : Bs) (v : List Ver) : ∀ M : List It, mget (mput M q v) q' = if q = q' then v else mget M q'
  | [] => by simp [mput, mget]
  | p :: M => by
    simp only [mput]
    by_cases h : p.1 = q
    · simp only [if_pos h, mget]
      by_cases h' : q = q'
      · simp [h']
      · simp only [if_neg h', if_neg (fun e => h' (h ▸ e : q = q'))]
    · simp only [if_neg h, mget, mget_put q q' v M]
      by_cases h' : q = q'
      · subst h'; simp [h]
      · simp [h']
theorem keys_put (q : Bs) (v : List Ver) : ∀ (M : List It) (x : Bs), x ∈ (mput M q v).map (·.1) → x = q ∨ x ∈ M.map (·.1)
  | [], x, h => by simp [mput] at h; exact .inl h
  | p :: M, x, h => by
    simp only [mput] at h
    split at h
    · simp only [List.map_cons, List.mem_cons] at h ⊢
      rcases h with h | h
      · exact .inl h
      · exact .inr (.inr h)
    · simp only [List.map_cons, List.mem_cons] at h ⊢
      rcases h with h | h
      · exact .inr (.inl h)
      · exact (keys_put q v M x h).imp id .inr
theorem nodup_put (q : Bs) (v : List Ver) : ∀ M : List It, (M.map (·.1)).Nodup → ((mput M q v).map (·.1)).Nodup
  | [], _ => by simp [mput]
  | p :: M, h => by
    simp only [List.map_cons, List.nodup_cons] at h
    simp only [mput]
    by_cases hp : p.1 = q
    · simp only [if_pos hp, List.map_cons, List.nodup_cons]; rw [← hp]; exact h
    · simp only [if_neg hp, List.map_cons, List.nodup_cons]
      refine ⟨fun hm => ?_, nodup_put q v M h.2⟩
      rcases keys_put q v M _ hm with e | e
      · exact hp e
      · exact h.1 e
theorem mget_none (q : Bs) : ∀ M : List It, q ∉ M.map (·.1) → mget M q = []
  | [], _ => rfl
  | p :: M, h => by
    simp only [List.map_cons, List.mem_cons, not_or] at h
    have h1 : ¬ p.1 = q := fun e => h.1 e.symm
    simp only [mget, if_neg h1]
    exact mget_none q M h.2
theorem mget_del (q q' : Bs) : ∀ M : List It, (M.map (·.1)).Nodup → mget (mdel M q) q' = if q = q' then [] else mget M q'
  | [], _ => by simp [mdel, mget]
  | p :: M, h => by
    simp only [List.map_cons, List.nodup_cons] at h
    simp only [mdel]
    by_cases hp : p.1 = q
    · simp only [if_pos hp, mget]
      by_cases h' : q = q'
      · subst h'; rw [if_pos rfl]; exact mget_none _ M (by rw [← hp]; exact h.1)
      · simp only [if_neg h', if_neg (fun e => h' (hp ▸ e : q = q'))]
    · simp only [if_neg hp, mget, mget_del q q' M h.2]
      by_cases h' : q = q'
      · subst h'; simp [hp]
      · simp [h']
theorem keys_del (q : Bs) : ∀ (M : List It) (x : Bs), x ∈ (mdel M q).map (·.1) → x ∈ M.map (·.1)
  | [], x, h => by simp [mdel] at h
  | p :: M, x, h => by
    simp only [mdel] at h
    split at h
    · simp only [List.map_cons, List.mem_cons]; exact .inr h
    · simp only [List.map_cons, List.mem_cons] at h ⊢
      exact h.imp id (keys_del q M x)
theorem nodup_del (q : Bs) : ∀ M : List It, (M.map (·.1)).Nodup → ((mdel M q).map (·.1)).Nodup
  | [], _ => by simp [mdel]
  | p :: M, h => by
    simp only [List.map_cons, List.nodup_cons] at h
    simp only [mdel]
    split
    · exact h.2
    · simp only [List.map_cons, List.nodup_cons]
      exact ⟨fun hm => h.1 (keys_del q M _ hm), nodup_del q M h.2⟩
structure Spc where
  L : List It
  last : Int
  mark : Int
structure MapOk (M L : List It) : Prop where
  nd : (M.map (·.1)).Nodup
  eq : ∀ q, mget M q = mget L q
def keysOf (L : List It) : List Bs := L.map (·.1)
def RowIs (K : AV) (keys : List Bs) (o : Objs) (s c : Nat) : Prop :=
  (K = .sl 1 [] (.exact 0) ∧ keys = []) ∨ ∃ k, K = .tsl 1 k 0 keys.length none ∧ o k = some (.cells (strs keys)) ∧ k ≠ s ∧ k ≠ c
structure SpcF (s : Nat) (S : Spc) (F : Fr) : Prop where
  go : ∃ c M K, MapOk M S.L ∧ s ≠ c ∧ F.o s = some (.cells [K, .mp c, .int .i64 S.last, .int .i64 S.mark]) ∧ F.o c = some (.map (encM M)) ∧ RowIs K (keysOf S.L) F.o s c
  k : F.k = []
  fin : F.Fin
def Small (S : Spc) : Prop := S.L.length ≤ 500000 ∧ ∀ q, (mget S.L q).length ≤ 500000
theorem made_r {s : Nat} {S : Spc} {F : Fr} (hF : SpcF s S F) : Looks Try.prog 52 [.ptr s 0] F (.bool true) := by
  obtain ⟨c, M, K, hM, hsc, hs, hc, hK⟩ := hF.go
  refine f52.looks hF.fin (by simp) fun n m => ?_
  unfold c52
  repeat (first
    | ((first | apply Wp.seqItemsR | apply Wp.itemsR); (· simp only [go_sem, reduceIte, Nat.reduceEqDiff, Nat.reduceAdd, bx, ax, if_true, if_false, Nat.reduceMul, Nat.reduceLeDiff, hs]; exact rfl))
    | (refine WpItems.nil ⟨?_, ?_⟩; (· first | trivial | simp [pairsQ, pairsOk, apart, ent0]))
    | (apply Wp.cond_lit; (· simp only [go_sem, reduceIte, Nat.reduceEqDiff, Nat.reduceAdd, bx, ax, if_true, if_false, Nat.reduceMul, Nat.reduceLeDiff, hs]; exact rfl); (· rfl))
    | refine Wp.skip ?_
    | refine Wp.label ?_
    | refine Wp.block ?_
    | refine Wp.exit ?_
    | refine Wp.seq ?_)
  exact Wp.ret ⟨trivial, _, rfl, VSub.refl _, rfl⟩
theorem last_r {s : Nat} {S : Spc} {F : Fr} (hF : SpcF s S F) : Looks Try.prog 19 [.ptr s 0] F (.int .i64 S.last) := by
  obtain ⟨c, M, K, hM, hsc, hs, hc, hK⟩ := hF.go
  refine f19.looks hF.fin (by simp) fun n m => ?_
  unfold c19
  repeat (first
    | ((first | apply Wp.seqItemsR | apply Wp.itemsR | ((first
        | (refine WpItems.glook ?_ ?_ (made_r hF) (by first | exact fun j o h => h | exact ok.sub (by simp) | assumption) (fun ids => ?_); (· simp only [go_sem, reduceIte, Nat.reduceEqDiff, Nat.reduceAdd, bx]); (· simp only [go_sem, reduceIte, Nat.reduceEqDiff, Nat.reduceAdd, bx, List.map]; first | exact VSubs.refl _ | (repeat (first | exact VSubs.nil | refine VSubs.cons (by first | exact VSub.refl _ | assumption | exact VSub.cap | exact VSub.any _) ?_))))); apply WpItems.evR)); (· simp only [go_sem, reduceIte, Nat.reduceEqDiff, Nat.reduceAdd, bx, ax, if_true, if_false, Nat.reduceMul, Nat.reduceLeDiff, hs]; exact rfl))
    | (refine WpItems.nil ⟨?_, ?_⟩; (· first | trivial | simp [pairsQ, pairsOk, apart, ent0]))
    | (apply Wp.cond_lit; (· simp only [go_sem, reduceIte, Nat.reduceEqDiff, Nat.reduceAdd, bx, ax, if_true, if_false, Nat.reduceMul, Nat.reduceLeDiff, hs]; exact rfl); (· rfl))
    | refine Wp.skip ?_
    | refine Wp.label ?_
    | refine Wp.block ?_
    | refine Wp.exit ?_
    | refine Wp.seq ?_)
  exact Wp.ret ⟨trivial, _, rfl, VSub.refl _, rfl⟩
theorem mark_r {s : Nat} {S : Spc} {F : Fr} (hF : SpcF s S F) : Looks Try.prog 23 [.ptr s 0] F (.int .i64 S.mark) := by
  obtain ⟨c, M, K, hM, hsc, hs, hc, hK⟩ := hF.go
  refine f23.looks hF.fin (by simp) fun n m => ?_
  unfold c23
  repeat (first
    | ((first | apply Wp.seqItemsR | apply Wp.itemsR | ((first
        | (refine WpItems.glook ?_ ?_ (made_r hF) (by first | exact fun j o h => h | exact ok.sub (by simp) | assumption) (fun ids => ?_); (· simp only [go_sem, reduceIte, Nat.reduceEqDiff, Nat.reduceAdd, bx]); (· simp only [go_sem, reduceIte, Nat.reduceEqDiff, Nat.reduceAdd, bx, List.map]; first | exact VSubs.refl _ | (repeat (first | exact VSubs.nil | refine VSubs.cons (by first | exact VSub.refl _ | assumption | exact VSub.cap | exact VSub.any _) ?_))))); apply WpItems.evR)); (· simp only [go_sem, reduceIte, Nat.reduceEqDiff, Nat.reduceAdd, bx, ax, if_true, if_false, Nat.reduceMul, Nat.reduceLeDiff, hs]; exact rfl))
    | (refine WpItems.nil ⟨?_, ?_⟩; (· first | trivial | simp [pairsQ, pairsOk, apart, ent0]))
    | (apply Wp.cond_lit; (· simp only [go_sem, reduceIte, Nat.reduceEqDiff, Nat.reduceAdd, bx, ax, if_true, if_false, Nat.reduceMul, Nat.reduceLeDiff, hs]; exact rfl); (· rfl))
    | refine Wp.skip ?_
    | refine Wp.label ?_
    | refine Wp.block ?_
    | refine Wp.exit ?_
    | refine Wp.seq ?_)
  exact Wp.ret ⟨trivial, _, rfl, VSub.refl _, rfl⟩
def keptB (S : Spc) (t : Int) : Int := if t < S.mark then 12 else if S.last < t then 13 else 0
theorem kept_r {s : Nat} {S : Spc} {F : Fr} (hF : SpcF s S F) (t : Int) : Looks Try.prog 58 [.ptr s 0, .int .i64 t] F (.int .i64 (keptB S t)) := by
  obtain ⟨c, M, K, hM, hsc, hs, hc, hK⟩ := hF.go
  refine f58.looks hF.fin (by simp) fun n m => ?_
  unfold c58
  by_cases h1 : t < S.mark
  · have d1 := decide_eq_true h1
    repeat (first
      | ((first | apply Wp.seqItemsR | apply Wp.itemsR | ((first
          | (refine WpItems.glook ?_ ?_ (made_r hF) (by first | exact fun j o h => h | exact ok.sub (by simp) | assumption) (fun ids => ?_); (· simp only [go_sem, reduceIte, Nat.reduceEqDiff, Nat.reduceAdd, bx]); (· simp only [go_sem, reduceIte, Nat.reduceEqDiff, Nat.reduceAdd, bx, List.map]; first | exact VSubs.refl _ | (repeat (first | exact VSubs.nil | refine VSubs.cons (by first | exact VSub.refl _ | assumption | exact VSub.cap | exact VSub.any _) ?_))))); apply WpItems.evR)); (· simp only [go_sem, reduceIte, Nat.reduceEqDiff, Nat.reduceAdd, bx, ax, if_true, if_false, Nat.reduceMul, Nat.reduceLeDiff, hs, d1]; exact rfl))
      | (refine WpItems.nil ⟨?_, ?_⟩; (· first | trivial | simp [pairsQ, pairsOk, apart, ent0]))
      | (apply Wp.cond_lit; (· simp only [go_sem, reduceIte, Nat.reduceEqDiff, Nat.reduceAdd, bx, ax, if_true, if_false, Nat.reduceMul, Nat.reduceLeDiff, hs, d1]; exact rfl); (· rfl))
      | refine Wp.skip ?_
      | refine Wp.label ?_
      | refine Wp.block ?_
      | refine Wp.exit ?_
      | refine Wp.seq ?_)
    refine Wp.ret ⟨trivial, _, rfl, ?_, rfl⟩
    rw [keptB, if_pos h1]; exact VSub.refl _
  · have d1 := decide_eq_false h1
    by_cases h2 : S.last < t
    · have d2 := decide_eq_true h2
      repeat (first
        | ((first | apply Wp.seqItemsR | apply Wp.itemsR | ((first
            | (refine WpItems.glook ?_ ?_ (made_r hF) (by first | exact fun j o h => h | exact ok.sub (by simp) | assumption) (fun ids => ?_); (· simp only [go_sem, reduceIte, Nat.reduceEqDiff, Nat.reduceAdd, bx]); (· simp only [go_sem, reduceIte, Nat.reduceEqDiff, Nat.reduceAdd, bx, List.map]; first | exact VSubs.refl _ | (repeat (first | exact VSubs.nil | refine VSubs.cons (by first | exact VSub.refl _ | assumption | exact VSub.cap | exact VSub.any _) ?_))))); apply WpItems.evR)); (· simp only [go_sem, reduceIte, Nat.reduceEqDiff, Nat.reduceAdd, bx, ax, if_true, if_false, Nat.reduceMul, Nat.reduceLeDiff, hs, d1, d2]; exact rfl))
        | (refine WpItems.nil ⟨?_, ?_⟩; (· first | trivial | simp [pairsQ, pairsOk, apart, ent0]))
        | (apply Wp.cond_lit; (· simp only [go_sem, reduceIte, Nat.reduceEqDiff, Nat.reduceAdd, bx, ax, if_true, if_false, Nat.reduceMul, Nat.reduceLeDiff, hs, d1, d2]; exact rfl); (· rfl))
        | refine Wp.skip ?_
        | refine Wp.label ?_
        | refine Wp.block ?_
        | refine Wp.exit ?_
        | refine Wp.seq ?_)
      refine Wp.ret ⟨trivial, _, rfl, ?_, rfl⟩
      rw [keptB, if_neg h1, if_pos h2]; exact VSub.refl _
    · have d2 := decide_eq_false h2
      repeat (first
        | ((first | apply Wp.seqItemsR | apply Wp.itemsR | ((first
            | (refine WpItems.glook ?_ ?_ (made_r hF) (by first | exact fun j o h => h | exact ok.sub (by simp) | assumption) (fun ids => ?_); (· simp only [go_sem, reduceIte, Nat.reduceEqDiff, Nat.reduceAdd, bx]); (· simp only [go_sem, reduceIte, Nat.reduceEqDiff, Nat.reduceAdd, bx, List.map]; first | exact VSubs.refl _ | (repeat (first | exact VSubs.nil | refine VSubs.cons (by first | exact VSub.refl _ | assumption | exact VSub.cap | exact VSub.any _) ?_))))); apply WpItems.evR)); (· simp only [go_sem, reduceIte, Nat.reduceEqDiff, Nat.reduceAdd, bx, ax, if_true, if_false, Nat.reduceMul, Nat.reduceLeDiff, hs, d1, d2]; exact rfl))
        | (refine WpItems.nil ⟨?_, ?_⟩; (· first | trivial | simp [pairsQ, pairsOk, apart, ent0]))
        | (apply Wp.cond_lit; (· simp only [go_sem, reduceIte, Nat.reduceEqDiff, Nat.reduceAdd, bx, ax, if_true, if_false, Nat.reduceMul, Nat.reduceLeDiff, hs, d1, d2]; exact rfl); (· rfl))
        | refine Wp.skip ?_
        | refine Wp.label ?_
        | refine Wp.block ?_
        | refine Wp.exit ?_
        | refine Wp.seq ?_)
      refine Wp.ret ⟨trivial, _, rfl, ?_, rfl⟩
      rw [keptB, if_neg h1, if_neg h2]; exact VSub.refl _
def getB (S : Spc) (q : Bs) (t : Int) : Bs × Int := if keptB S t = 0 then (if (atB (mget S.L q) t).2 = true then ((atB (mget S.L q) t).1, 0) else ([], 7)) else ([], keptB S t)
theorem get_r {s : Nat} {S : Spc} {F : Fr} (hF : SpcF s S F) (hS : Small S) (q : Bs) (t : Int) : Looks Try.prog 20 [.ptr s 0, .str q, .int .i64 t] F (.tup [.str (getB S q t).1, .int .i64 (getB S q t).2]) := by
  obtain ⟨c, M, K, hM, hsc, hs, hc, hK⟩ := hF.go
  refine f20.looks hF.fin (by simp) fun n m => ?_
  unfold c20
  by_cases h1 : keptB S t = 0
  · have d1 := decide_eq_true h1
    have hat := at_p (mget S.L q) (by have := hS.2 q; omega) t
    have hl := look_sub M q
    rw [hM.eq q] at hl
    unfold vAV at hl
    have fit : VSubs [lookAV (.sl 3 [] (.exact 0)) false (mres M q), .int .i64 t] [.sl 3 ((mget S.L q).map encV) .any, .int .i64 t] := VSubs.cons hl (VSubs.refl _)
    cases ha : (atB (mget S.L q) t).2 with
    | true =>
      rw [ha] at hat
      repeat (first
        | ((first | apply Wp.seqItemsR | apply Wp.itemsR | ((first
            | (refine WpItems.glook ?_ ?_ (kept_r hF t) (by first | exact fun j o h => h | exact ok.sub (by simp) | assumption) (fun ids => ?_); (· simp only [go_sem, reduceIte, Nat.reduceEqDiff, Nat.reduceAdd, bx]); (· simp only [go_sem, reduceIte, Nat.reduceEqDiff, Nat.reduceAdd, bx, List.map]; first | exact VSubs.refl _ | (repeat (first | exact VSubs.nil | refine VSubs.cons (by first | exact VSub.refl _ | assumption | exact VSub.cap | exact VSub.any _) ?_))))
            | (refine WpItems.pcall ?_ ?_ (hat) ?_; (· simp only [go_sem, reduceIte, Nat.reduceEqDiff, Nat.reduceAdd, bx]); (· simp only [go_sem, reduceIte, Nat.reduceEqDiff, Nat.reduceAdd, bx, List.map]; exact fit))); apply WpItems.evR)); (· simp only [go_sem, reduceIte, Nat.reduceEqDiff, Nat.reduceAdd, bx, ax, if_true, if_false, Nat.reduceMul, Nat.reduceLeDiff, hs, hc, d1, mfind_enc]; exact rfl))
        | (refine WpItems.nil ⟨?_, ?_⟩; (· first | trivial | simp [pairsQ, pairsOk, apart, ent0]))
        | (apply Wp.cond_lit; (· simp only [go_sem, reduceIte, Nat.reduceEqDiff, Nat.reduceAdd, bx, ax, if_true, if_false, Nat.reduceMul, Nat.reduceLeDiff, hs, hc, d1, mfind_enc]; exact rfl); (· rfl))
        | refine Wp.skip ?_
        | refine Wp.label ?_
        | refine Wp.block ?_
        | refine Wp.exit ?_
        | refine Wp.seq ?_)
      refine Wp.ret ⟨trivial, _, rfl, ?_, rfl⟩
      rw [getB, if_pos h1, if_pos ha]; exact VSub.refl _
    | false =>
      rw [ha] at hat
      repeat (first
        | ((first | apply Wp.seqItemsR | apply Wp.itemsR | ((first
            | (refine WpItems.glook ?_ ?_ (kept_r hF t) (by first | exact fun j o h => h | exact ok.sub (by simp) | assumption) (fun ids => ?_); (· simp only [go_sem, reduceIte, Nat.reduceEqDiff, Nat.reduceAdd, bx]); (· simp only [go_sem, reduceIte, Nat.reduceEqDiff, Nat.reduceAdd, bx, List.map]; first | exact VSubs.refl _ | (repeat (first | exact VSubs.nil | refine VSubs.cons (by first | exact VSub.refl _ | assumption | exact VSub.cap | exact VSub.any _) ?_))))
            | (refine WpItems.pcall ?_ ?_ (hat) ?_; (· simp only [go_sem, reduceIte, Nat.reduceEqDiff, Nat.reduceAdd, bx]); (· simp only [go_sem, reduceIte, Nat.reduceEqDiff, Nat.reduceAdd, bx, List.map]; exact fit))); apply WpItems.evR)); (· simp only [go_sem, reduceIte, Nat.reduceEqDiff, Nat.reduceAdd, bx, ax, if_true, if_false, Nat.reduceMul, Nat.reduceLeDiff, hs, hc, d1, mfind_enc]; exact rfl))
        | (refine WpItems.nil ⟨?_, ?_⟩; (· first | trivial | simp [pairsQ, pairsOk, apart, ent0]))
        | (apply Wp.cond_lit; (· simp only [go_sem, reduceIte, Nat.reduceEqDiff, Nat.reduceAdd, bx, ax, if_true, if_false, Nat.reduceMul, Nat.reduceLeDiff, hs, hc, d1, mfind_enc]; exact rfl); (· rfl))
        | refine Wp.skip ?_
        | refine Wp.label ?_
        | refine Wp.block ?_
        | refine Wp.exit ?_
        | refine Wp.seq ?_)
      refine Wp.ret ⟨trivial, _, rfl, ?_, rfl⟩
      rw [getB, if_pos h1, if_neg (by simp [ha])]; exact VSub.refl _
  · have d1 := decide_eq_false h1
    repeat (first
      | ((first | apply Wp.seqItemsR | apply Wp.itemsR | ((first
          | (refine WpItems.glook ?_ ?_ (kept_r hF t) (by first | exact fun j o h => h | exact ok.sub (by simp) | assumption) (fun ids => ?_); (· simp only [go_sem, reduceIte, Nat.reduceEqDiff, Nat.reduceAdd, bx]); (· simp only [go_sem, reduceIte, Nat.reduceEqDiff, Nat.reduceAdd, bx, List.map]; first | exact VSubs.refl _ | (repeat (first | exact VSubs.nil | refine VSubs.cons (by first | exact VSub.refl _ | assumption | exact VSub.cap | exact VSub.any _) ?_))))); apply WpItems.evR)); (· simp only [go_sem, reduceIte, Nat.reduceEqDiff, Nat.reduceAdd, bx, ax, if_true, if_false, Nat.reduceMul, Nat.reduceLeDiff, hs, d1]; exact rfl))
      | (refine WpItems.nil ⟨?_, ?_⟩; (· first | trivial | simp [pairsQ, pairsOk, apart, ent0]))
      | (apply Wp.cond_lit; (· simp only [go_sem, reduceIte, Nat.reduceEqDiff, Nat.reduceAdd, bx, ax, if_true, if_false, Nat.reduceMul, Nat.reduceLeDiff, hs, d1]; exact rfl); (· rfl))
      | refine Wp.skip ?_
      | refine Wp.label ?_
      | refine Wp.block ?_
      | refine Wp.exit ?_
      | refine Wp.seq ?_)
    refine Wp.ret ⟨trivial, _, rfl, ?_, rfl⟩
    rw [getB, if_neg h1]; exact VSub.refl _
end Go.Proofs.Ytpehfflehebmbaa.Space
end
section
set_option linter.unusedSimpArgs false
set_option linter.unusedVariables false
set_option maxRecDepth 10000
namespace Go.Proofs.Ytpehfflehebmbaa.Space
open Go Go.Av Go.Proofs Go.Proofs.Ytpehfflehebmbaa.C Go.Proofs.Ytpehfflehebmbaa.Batch
def Rise (k : List Bs) : Prop := k.Pairwise fun a b => Op.bytesLess a b = true
def plK (k : List Bs) (q : Bs) : Nat := k.findIdx fun x => !Op.bytesLess x q
def thK (k : List Bs) (q : Bs) : Bool := decide (plK k q < k.length) && decide (k.getD (plK k q) [] = q)
theorem plK_le (k : List Bs) (q : Bs) : plK k q ≤ k.length := List.findIdx_le_length
theorem plK_lt {k : List Bs} {q : Bs} {i : Nat} (h : i < plK k q) : Op.bytesLess (k.getD i []) q = true := by
  have hl : i < k.length := Nat.lt_of_lt_of_le h (plK_le k q)
  have := List.not_of_lt_findIdx h
  rw [getD_el hl]
  simpa using this
theorem Rise.at {k : List Bs} (h : Rise k) {i j : Nat} (hij : i < j) (hj : j < k.length) : Op.bytesLess (k.getD i []) (k.getD j []) = true := by
  rw [getD_el hj, getD_el (by omega)]
  exact List.pairwise_iff_getElem.1 h i j (by omega) hj hij
theorem plK_ge {k : List Bs} (hk : Rise k) {q : Bs} {i : Nat} (h : plK k q ≤ i) (hl : i < k.length) : Op.bytesLess (k.getD i []) q = false := by
  have hp : plK k q < k.length := Nat.lt_of_le_of_lt h hl
  have h1 : Op.bytesLess (k.getD (plK k q) []) q = false := by
    have := List.findIdx_getElem (p := fun x => !Op.bytesLess x q) (xs := k) (w := hp)
    rw [getD_el hp]
    have h2 : (!Op.bytesLess (k[plK k q]'hp) q) = true := this
    simpa using h2
  by_cases e : i = plK k q
  · rw [e]; exact h1
  · have h2 := hk.at (i := plK k q) (j := i) (by omega) hl
    cases hc : Op.bytesLess (k.getD i []) q with
    | false => rfl
    | true => rw [less_trans h2 hc] at h1; cases h1
theorem thK_iff {k : List Bs} (h : Rise k) (q : Bs) : thK k q = decide (q ∈ k) := by
  have hp := plK_le k q
  refine Bool.eq_iff_iff.2 ?_
  simp only [thK, Bool.and_eq_true, decide_eq_true_eq]
  constructor
  · rintro ⟨h1, h2⟩
    rw [getD_el h1] at h2
    rw [← h2]; exact List.getElem_mem h1
  · intro hm
    obtain ⟨i, hi, e⟩ := List.mem_iff_getElem.1 hm
    have he : k.getD i [] = q := by rw [getD_el hi]; exact e
    have h1 : ¬ i < plK k q := by
      intro hlt
      have := plK_lt hlt
      rw [he, less_irrefl] at this; cases this
    have h2 : ¬ plK k q < i := by
      intro hlt
      have a1 := h.at hlt hi
      rw [he] at a1
      have a2 := plK_ge (q := q) h (Nat.le_refl _) (Nat.lt_trans hlt hi)
      rw [a1] at a2; cases a2
    have : plK k q = i := by omega
    rw [this]
    exact ⟨hi, he⟩
theorem bs_row {K : AV} {keys : List Bs} {o : Objs} {s c : Nat} (hK : RowIs K keys o s c) (hr : Rise keys) (hl : keys.length ≤ 1152921504606846976) (q : Bs) :
    ∃ (objs : Objs) (ids : List Nat), (∀ id p, objs id = some p → o id = some p) ∧ (∀ id, (objs id).isSome → id ∈ ids) ∧ RCalls Try.prog 81 [K, .str q] objs (.tup [.int .i64 (plK keys q), .bool (thK keys q)]) := by
  have hb := Reads.bsearch_p keys hl q (plK keys q) (plK_le keys q) (fun i h => plK_lt h) (fun i h hi => plK_ge hr h hi)
  rcases hK with ⟨rfl, rfl⟩ | ⟨k, rfl, h1, h2, h3⟩
  · refine ⟨none', [], fun id p h => by simp [none'] at h, fun id h => by simp [none'] at h, fun n m => ?_⟩
    intro G w vs hv R F
    refine hb n m G w vs ?_ R F
    exact (VSubs.cons VSub.cap (VSubs.refl _)) G w vs hv
  · refine ⟨upd none' k (some (.cells (strs keys))), [k], fun id p h => ?_, fun id h => ?_, ?_⟩
    · simp only [upd, none'] at h
      split at h
      · rename_i e; subst e; cases h; exact h1
      · cases h
    · simp only [upd, none'] at h
      split at h
      · rename_i e; simp [e]
      · cases h
    · have := hb.look (fun G G' w v h => by simpa only [VRel, VRels] using h) none k
      rwa [strs_length] at this
theorem ends_spc {s c n m : Nat} {F : Fr} {q r K : AV} {h : H} {S' : Spc} {M' : List It} {Q : AV → List Fr → Prop} (hs0 : (F.o s).isSome = true) (hc0 : (F.o c).isSome = true) (hsn : s < n) (hcn : c < n) (hsc : s ≠ c) (hn : n ≤ h.n)
    (h1 : h.objs s = some (.cells [K, .mp c, .int .i64 S'.last, .int .i64 S'.mark])) (h2 : h.objs c = some (.map (encM M'))) (hM : MapOk M' S'.L)
    (hrow : (K = .sl 1 [] (.exact 0) ∧ keysOf S'.L = []) ∨ ∃ k, K = .tsl 1 k 0 (keysOf S'.L).length none ∧ h.objs k = some (.cells (strs (keysOf S'.L))) ∧ k ≠ s ∧ k ≠ c ∧ k < h.n ∧ ((F.o k).isSome = true ∨ n ≤ k))
    (sub : VSub q r) (hQ : ∀ F', SpcF s S' F' → Q r [F']) : ∃ r l', Av.Ends [F] n m Q q h r l' := by
  have getF : ∀ j, (F.o j).isSome = true → (lay [F] j).isSome = true := fun j hj => by
    rw [lay_cons]
    obtain ⟨x, hx⟩ := Option.isSome_iff_exists.1 hj
    rw [hx]; rfl
  rcases hrow with ⟨rfl, hk⟩ | ⟨k, rfl, h3, hks, hkc, hkn, hk⟩
  · refine ⟨r, [cat [ob s (.cells [.sl 1 [] (.exact 0), .mp c, .int .i64 S'.last, .int .i64 S'.mark]), ob c (.map (encM M'))]], ⟨sub, ?_, fun t ht => ?_, ?_, fun j => ?_, fun t ht => ?_, hQ _ ⟨⟨c, M', _, hM, hsc, ?_, ?_, .inl ⟨rfl, hk⟩⟩, rfl, ⟨[s, c], fun id hid => ?_⟩⟩⟩⟩
    · exact OLe.lay_cat (m := []) (OLe.lay_ob h1 (OSub.refl _) (OLe.lay_ob h2 (OSub.refl _) (OLe.lay_nil _)))
    · simp [ks, cat, ob] at ht
    · refine ⟨fun F' hF' j hj => ?_, by simp, fun t ht => by simp [ks, cat, ob] at ht, by simp, fun t ht => by simp [ks, cat, ob] at ht⟩
      rw [List.mem_singleton.1 hF']
      simp only [cat, lay, ob_o, none']
      rw [if_neg (by omega), if_neg (by omega)]; rfl
    · by_cases e1 : j = s
      · subst e1; exact .inr (.inl (getF _ hs0))
      · by_cases e2 : j = c
        · subst e2; exact .inr (.inl (getF _ hc0))
        · right; right
          simp [lay, cat, ob_o, none', e1, e2]
    · simp [ks, cat, ob] at ht
    · simp [cat, lay, ob_o]
    · simp [cat, lay, ob_o, Ne.symm hsc]
    · simp only [cat, lay, ob_o, none'] at hid
      by_cases e1 : id = s
      · simp [e1]
      · by_cases e2 : id = c
        · simp [e2]
        · simp [e1, e2] at hid
  · refine ⟨r, [cat [ob s (.cells [.tsl 1 k 0 (keysOf S'.L).length none, .mp c, .int .i64 S'.last, .int .i64 S'.mark]), ob c (.map (encM M')), ob k (.cells (strs (keysOf S'.L)))]], ⟨sub, ?_, fun t ht => ?_, ?_, fun j => ?_, fun t ht => ?_, hQ _ ⟨⟨c, M', _, hM, hsc, ?_, ?_, .inr ⟨k, rfl, ?_, hks, hkc⟩⟩, rfl, ⟨[s, c, k], fun id hid => ?_⟩⟩⟩⟩
    · exact OLe.lay_cat (m := []) (OLe.lay_ob h1 (OSub.refl _) (OLe.lay_ob h2 (OSub.refl _) (OLe.lay_ob h3 (OSub.refl _) (OLe.lay_nil _))))
    · simp [ks, cat, ob] at ht
    · refine ⟨fun F' hF' j hj => ?_, by simp, fun t ht => by simp [ks, cat, ob] at ht, by simp, fun t ht => by simp [ks, cat, ob] at ht⟩
      rw [List.mem_singleton.1 hF']
      simp only [cat, lay, ob_o, none']
      rw [if_neg (by omega), if_neg (by omega), if_neg (by omega)]; rfl
    · by_cases e1 : j = s
      · subst e1; exact .inr (.inl (getF _ hs0))
      · by_cases e2 : j = c
        · subst e2; exact .inr (.inl (getF _ hc0))
        · by_cases e3 : j = k
          · subst e3
            rcases hk with hk | hk
            · exact .inr (.inl (getF _ hk))
            · exact .inl hk
          · right; right
            simp [lay, cat, ob_o, none', e1, e2, e3]
    · simp [ks, cat, ob] at ht
    · simp [cat, lay, ob_o]
    · simp [cat, lay, ob_o, Ne.symm hsc]
    · simp [cat, lay, ob_o, hks, hkc]
    · simp only [cat, lay, ob_o, none'] at hid
      by_cases e1 : id = s
      · simp [e1]
      · by_cases e2 : id = c
        · simp [e2]
        · by_cases e3 : id = k
          · simp [e3]
          · simp [e1, e2, e3] at hid
theorem new_g : GCalls Try.prog 13 [] [] (fun r l => ∃ s F, r = .ptr s 0 ∧ l = [F] ∧ SpcF s ⟨[], 0, 0⟩ F) := by
  refine f13.gcalls (by simp) fun n m ok => ?_
  unfold c13
  repeat (first
    | ((first | apply Wp.seqItemsR | apply Wp.itemsR); (· simp only [go_sem, reduceIte, Nat.reduceEqDiff, Nat.reduceAdd, bx, ax, if_true, if_false, Nat.reduceMul, Nat.reduceLeDiff]; exact rfl))
    | (refine WpItems.nil ⟨?_, ?_⟩; (· first | trivial | simp [pairsQ, pairsOk, apart, ent0]))
    | (apply Wp.cond_lit; (· simp only [go_sem, reduceIte, Nat.reduceEqDiff, Nat.reduceAdd, bx, ax, if_true, if_false, Nat.reduceMul, Nat.reduceLeDiff]; exact rfl); (· rfl))
    | refine Wp.skip ?_
    | refine Wp.label ?_
    | refine Wp.block ?_
    | refine Wp.exit ?_
    | refine Wp.seq ?_)
  refine Wp.ret ⟨trivial, _, rfl, .ptr (n + 1) 0, [cat [ob (n + 1) (.cells [.sl 1 [] (.exact 0), .mp n, .int .i64 0, .int .i64 0]), ob n (.map (encM []))]], ?_⟩
  refine ⟨VSub.refl _, ?_, fun t ht => ?_, ?_, fun j => ?_, fun t ht => ?_, n + 1, _, rfl, rfl, ⟨n, [], _, ⟨by simp, fun q => rfl⟩, by omega, ?_, ?_, .inl ⟨rfl, rfl⟩⟩, rfl, ⟨[n + 1, n], fun id hid => ?_⟩⟩
  · exact OLe.lay_cat (m := []) (OLe.lay_ob (by simp [upd]) (OSub.refl _) (OLe.lay_ob (by simp [upd]; rfl) (OSub.refl _) (OLe.lay_nil _)))
  · simp [ks, cat, ob] at ht
  · refine ⟨fun F' hF' j hj => ?_, by simp, fun t ht => by simp [ks, cat, ob] at ht, by simp, fun t ht => by simp [ks, cat, ob] at ht⟩
    rw [List.mem_singleton.1 hF']
    simp only at hj
    simp only [cat, lay, ob_o, none']
    rw [if_neg (by omega), if_neg (by omega)]; rfl
  · by_cases e : n ≤ j
    · exact .inl e
    · right; right
      simp only [lay, cat, ob_o, none']
      rw [if_neg (by omega), if_neg (by omega)]; rfl
  · simp [ks, cat, ob] at ht
  · simp [cat, lay, ob_o]
  · simp [cat, lay, ob_o]
  · simp only [cat, lay, ob_o, none'] at hid
    by_cases e1 : id = n + 1
    · simp [e1]
    · by_cases e2 : id = n
      · simp [e2]
      · simp [e1, e2] at hid
def setL (L : List It) (q : Bs) (v : List Ver) : List It :=
  if v = [] then (if thK (keysOf L) q = true then L.take (plK (keysOf L) q) ++ L.drop (plK (keysOf L) q + 1) else L)
  else if thK (keysOf L) q = true then L.take (plK (keysOf L) q) ++ (q, v) :: L.drop (plK (keysOf L) q + 1) else L.take (plK (keysOf L) q) ++ (q, v) :: L.drop (plK (keysOf L) q)
def RiseL (L : List It) : Prop := Rise (keysOf L)
theorem mget_app (q : Bs) : ∀ (A B : List It), mget (A ++ B) q = if q ∈ A.map (·.1) then mget A q else mget B q
  | [], B => by simp
  | p :: A, B => by
    simp only [List.cons_append, mget, List.map_cons, List.mem_cons]
    by_cases h : p.1 = q
    · simp [h]
    · have h' : ¬ q = p.1 := fun e => h e.symm
      simp only [if_neg h, h', false_or, mget_app q A B]
theorem setL_get {L : List It} (h : RiseL L) (q : Bs) (v : List Ver) (q' : Bs) : mget (setL L q v) q' = if q = q' then v else mget L q' := by
  have hp := plK_le (keysOf L) q
  have hlen : (keysOf L).length = L.length := by simp [keysOf]
  have hne : ∀ i (hi : i < L.length), i ≠ plK (keysOf L) q → (L[i]).1 ≠ q ∨ thK (keysOf L) q = false := by
    intro i hi hd
    by_cases ht : thK (keysOf L) q = true
    · left
      intro e
      simp only [thK, Bool.and_eq_true, decide_eq_true_eq] at ht
      have e1 : (keysOf L).getD i [] = q := by rw [getD_el (by omega)]; simpa [keysOf] using e
      rcases Nat.lt_or_gt_of_ne hd with hlt | hlt
      · have := h.at hlt ht.1
        rw [ht.2, e1, less_irrefl] at this; cases this
      · have := h.at hlt (by omega)
        rw [ht.2, e1, less_irrefl] at this; cases this
    · exact .inr (by simpa using ht)
  have memk : ∀ x, x ∈ (L.take (plK (keysOf L) q)).map (·.1) → x ≠ q := by
    intro x hx e
    obtain ⟨p, hp1, hp2⟩ := List.mem_map.1 hx
    obtain ⟨i, hi, rfl⟩ := List.mem_iff_getElem.1 hp1
    rw [List.length_take] at hi
    have h2 := plK_lt (k := keysOf L) (q := q) (i := i) (by omega)
    have h3 : (keysOf L).getD i [] = q := by
      rw [getD_el (by omega)]
      refine Eq.trans ?_ (hp2.trans e)
      simp [keysOf]
    rw [h3, less_irrefl] at h2; cases h2
  have hL : L = L.take (plK (keysOf L) q) ++ L.drop (plK (keysOf L) q) := by simp
  by_cases ht : thK (keysOf L) q = true
  · have ht2 := ht
    simp only [thK, Bool.and_eq_true, decide_eq_true_eq] at ht2
    have hlt : plK (keysOf L) q < L.length := by omega
    have hkey : (L[plK (keysOf L) q]).1 = q := by
      have := ht2.2
      rw [getD_el ht2.1] at this
      simpa [keysOf] using this
    have hd : L.drop (plK (keysOf L) q) = L[plK (keysOf L) q] :: L.drop (plK (keysOf L) q + 1) := List.drop_eq_getElem_cons hlt
    have nomem : q ∉ (L.drop (plK (keysOf L) q + 1)).map (·.1) := by
      intro hx
      obtain ⟨p, hp1, hp2⟩ := List.mem_map.1 hx
      obtain ⟨i, hi, rfl⟩ := List.mem_iff_getElem.1 hp1
      rw [List.length_drop] at hi
      rw [List.getElem_drop] at hp2
      rcases hne (plK (keysOf L) q + 1 + i) (by omega) (by omega) with e | e
      · exact e hp2
      · rw [ht] at e; cases e
    by_cases hv : v = []
    · rw [setL, if_pos hv, if_pos ht, mget_app]
      by_cases he : q = q'
      · subst he
        rw [if_neg (fun hm => memk _ hm rfl), if_pos rfl, hv]
        exact mget_none _ _ nomem
      · rw [if_neg he]
        conv => rhs; rw [hL, mget_app, hd]
        simp only [mget, hkey, if_neg he]
    · rw [setL, if_neg hv, if_pos ht, mget_app]
      by_cases he : q = q'
      · subst he
        rw [if_neg (fun hm => memk _ hm rfl), if_pos rfl]
        simp only [mget, if_true]
      · rw [if_neg he]
        conv => rhs; rw [hL, mget_app, hd]
        simp only [mget, hkey, if_neg he]
  · have hq : mget L q = [] := by
      refine mget_none _ _ fun hm => ?_
      have := thK_iff h q
      rw [decide_eq_true (show q ∈ keysOf L from hm)] at this
      exact ht this
    by_cases hv : v = []
    · rw [setL, if_pos hv, if_neg ht]
      by_cases he : q = q'
      · subst he; rw [if_pos rfl, hv, hq]
      · rw [if_neg he]
    · rw [setL, if_neg hv, if_neg ht, mget_app]
      by_cases he : q = q'
      · subst he
        rw [if_neg (fun hm => memk _ hm rfl), if_pos rfl]
        simp only [mget, if_true]
      · rw [if_neg he]
        conv => rhs; rw [hL, mget_app]
        simp only [mget, if_neg he]
theorem setL_keys (L : List It) (q : Bs) (v : List Ver) : keysOf (setL L q v) =
    if v = [] then (if thK (keysOf L) q = true then (keysOf L).take (plK (keysOf L) q) ++ (keysOf L).drop (plK (keysOf L) q + 1) else keysOf L)
    else if thK (keysOf L) q = true then keysOf L else (keysOf L).take (plK (keysOf L) q) ++ q :: (keysOf L).drop (plK (keysOf L) q) := by
  unfold setL
  split
  · split <;> simp [keysOf, List.map_take, List.map_drop]
  · split
    · rename_i ht
      simp only [thK, Bool.and_eq_true, decide_eq_true_eq] at ht
      have hlt : plK (keysOf L) q < (keysOf L).length := ht.1
      have hd := List.drop_eq_getElem_cons hlt
      have hk : (keysOf L)[plK (keysOf L) q] = q := by have := ht.2; rwa [getD_el hlt] at this
      have e1 : keysOf (L.take (plK (keysOf L) q) ++ (q, v) :: L.drop (plK (keysOf L) q + 1)) = (keysOf L).take (plK (keysOf L) q) ++ q :: (keysOf L).drop (plK (keysOf L) q + 1) := by
        simp [keysOf, List.map_take, List.map_drop]
      rw [e1]
      conv => rhs; rw [← List.take_append_drop (plK (keysOf L) q) (keysOf L), hd, hk]
    · simp [keysOf, List.map_take, List.map_drop]
theorem setL_rise {L : List It} (h : RiseL L) (q : Bs) (v : List Ver) : RiseL (setL L q v) := by
  unfold RiseL
  rw [setL_keys]
  have hk : Rise (keysOf L) := h
  split
  · split
    · refine List.pairwise_append.2 ⟨hk.sublist (List.take_sublist _ _), hk.sublist (List.drop_sublist _ _), fun a ha b hb => ?_⟩
      have e : keysOf L = (keysOf L).take (plK (keysOf L) q + 1) ++ (keysOf L).drop (plK (keysOf L) q + 1) := (List.take_append_drop _ _).symm
      have hp := hk
      unfold Rise at hp
      rw [e] at hp
      exact (List.pairwise_append.1 hp).2.2 a (List.take_subset_take_left _ (by omega) ha) b hb
    · exact hk
  · split
    · exact hk
    · rename_i ht
      refine List.pairwise_append.2 ⟨hk.sublist (List.take_sublist _ _), List.pairwise_cons.2 ⟨fun b hb => ?_, hk.sublist (List.drop_sublist _ _)⟩, fun a ha b hb => ?_⟩
      · obtain ⟨i, hi, rfl⟩ := List.mem_iff_getElem.1 hb
        rw [List.length_drop] at hi
        rw [List.getElem_drop]
        have h1 := plK_ge hk (q := q) (i := plK (keysOf L) q + i) (by omega) (by omega)
        rw [getD_el (by omega)] at h1
        rcases less_total q (keysOf L)[plK (keysOf L) q + i] with e | e | e
        · exact e
        · have := thK_iff hk q
          rw [decide_eq_true (show q ∈ keysOf L by rw [e]; exact List.getElem_mem _)] at this
          exact absurd this ht
        · rw [h1] at e; cases e
      · have hlt : Op.bytesLess a q = true := by
          obtain ⟨i, hi, rfl⟩ := List.mem_iff_getElem.1 ha
          rw [List.length_take] at hi
          have := plK_lt (k := keysOf L) (q := q) (i := i) (by omega)
          rw [getD_el (by omega)] at this
          rw [List.getElem_take]; exact this
        rcases List.mem_cons.1 hb with rfl | hb
        · exact hlt
        · obtain ⟨i, hi, rfl⟩ := List.mem_iff_getElem.1 hb
          obtain ⟨j, hj, rfl⟩ := List.mem_iff_getElem.1 ha
          rw [List.length_drop] at hi
          rw [List.length_take] at hj
          rw [List.getElem_drop, List.getElem_take]
          exact List.pairwise_iff_getElem.1 hk _ _ _ _ (by omega)
end Go.Proofs.Ytpehfflehebmbaa.Space
end
section
set_option linter.unusedSimpArgs false
set_option linter.unusedVariables false
set_option maxRecDepth 10000
namespace Go.Proofs.Ytpehfflehebmbaa.Space
open Go Go.Av Go.Proofs Go.Proofs.Ytpehfflehebmbaa.C Go.Proofs.Ytpehfflehebmbaa.Batch
def setS (S : Spc) (q : Bs) (v : List Ver) : Spc := { S with L := setL S.L q v }
set_option maxHeartbeats 2000000 in
theorem set_g {s : Nat} {S : Spc} {F : Fr} (hF : SpcF s S F) (hr : RiseL S.L) (hl : S.L.length ≤ 500000) (q : Bs) (v : List Ver) : GCalls Try.prog 55 [.ptr s 0, .str q, vAV v] [F] (fun r l => r = .tup [] ∧ ∃ F', l = [F'] ∧ SpcF s (setS S q v) F') := by
  obtain ⟨c, M, K, hM, hsc, hs, hc, hK⟩ := hF.go
  have hkl : (keysOf S.L).length = S.L.length := by simp [keysOf]
  obtain ⟨objs, ids, ho, hi, hb⟩ := bs_row hK hr (by omega) q
  refine f55.gcalls (by simp) fun n m ok => ?_
  unfold c55
  have fs := ok.at0 hs
  have fc := ok.at0 hc
  have hsn := ok.lt (by simp) hs
  have hcn := ok.lt (by simp) hc
  have ksF : ks [F] = [] := by simp [ks, hF.k]
  have hcs : (c = s) = False := by simp; exact Ne.symm hsc
  have hsc' : (s = c) = False := by simp [hsc]
  have hms : MapOk (if v = [] then mdel M q else mput M q v) (setS S q v).L := by
    refine ⟨?_, fun q' => ?_⟩
    · split
      · exact nodup_del _ _ hM.nd
      · exact nodup_put _ _ _ hM.nd
    · show _ = mget (setL S.L q v) q'
      rw [setL_get hr]
      split
      · rename_i hv; subst hv; rw [mget_del _ _ _ hM.nd, hM.eq]
      · rw [mget_put, hM.eq]
  have hke := setL_keys S.L q v
  rw [ksF]
  repeat (first
    | ((first | apply Wp.seqItemsR | apply Wp.itemsR); (· simp only [go_sem, reduceIte, Nat.reduceEqDiff, Nat.reduceAdd, bx, ax, if_true, if_false, Nat.reduceMul, Nat.reduceLeDiff, fs, fc]; exact rfl))
    | (refine WpItems.nil ⟨?_, ?_⟩; (· first | trivial | simp [pairsQ, pairsOk, apart, ent0]))
    | (apply Wp.cond_lit; (· simp only [go_sem, reduceIte, Nat.reduceEqDiff, Nat.reduceAdd, bx, ax, if_true, if_false, Nat.reduceMul, Nat.reduceLeDiff, fs, fc]; exact rfl); (· rfl))
    | refine Wp.skip ?_
    | refine Wp.label ?_
    | refine Wp.block ?_
    | refine Wp.exit ?_
    | refine Wp.seq ?_)
  refine WpItems.rcall ids (by simp only [go_sem]) (by simp only [go_sem, reduceIte, Nat.reduceEqDiff, List.map]; exact VSubs.refl _) (fun id o h => ok.sub (by simp) id o (ho id o h)) hi hb ?_
  refine WpItems.evR (by simp only [go_sem, reduceIte, Nat.reduceEqDiff, Nat.reduceAdd, bx]; exact rfl) ?_
  refine WpItems.nil ⟨by trivial, ?_⟩
  have b0 : decide (((0 : Nat) : Int) = 0) = true := rfl
  have b1 : decide ((0 : Int) < ((0 : Nat) : Int)) = false := rfl
  have hs0 : (F.o s).isSome = true := by rw [hs]; rfl
  have hc0 : (F.o c).isSome = true := by rw [hc]; rfl
  have row0 : ∀ (S' : Spc), keysOf S'.L = keysOf S.L → ((K = .sl 1 [] (.exact 0) ∧ keysOf S'.L = []) ∨ ∃ k, K = .tsl 1 k 0 (keysOf S'.L).length none ∧ lay [F] k = some (.cells (strs (keysOf S'.L))) ∧ k ≠ s ∧ k ≠ c ∧ k < n ∧ ((F.o k).isSome = true ∨ n ≤ k)) := by
    intro S' e
    rw [e]
    rcases hK with ⟨h1, h2⟩ | ⟨k, h1, h2, h3, h4⟩
    · exact .inl ⟨h1, h2⟩
    · exact .inr ⟨k, h1, ok.at0 h2, h3, h4, ok.lt (by simp) h2, .inl (by rw [h2]; rfl)⟩
  have hple := plK_le (keysOf S.L) q
  have i2 : IntKind.i64.wrap (((plK (keysOf S.L) q : Nat) : Int) + 1) = ((plK (keysOf S.L) q + 1 : Nat) : Int) := by rw [IntWalk.i64_in _ (by omega)]; omega
  by_cases hv : v = []
  · subst hv
    rw [if_pos rfl] at hms
    rw [if_pos rfl] at hke
    cases ht : thK (keysOf S.L) q with
    | false =>
      have e : setS S q [] = S := by
        simp only [setS, setL, if_true, ht, Bool.false_eq_true, if_false]
      rw [e]
      repeat (first
        | ((first | apply Wp.seqItemsR | apply Wp.itemsR); (· simp only [go_sem, reduceIte, Nat.reduceEqDiff, Nat.reduceAdd, bx, ax, if_true, if_false, Nat.reduceMul, Nat.reduceLeDiff, vAV, List.map_nil, List.length_nil, ht, b0, b1]; exact rfl))
        | (refine WpItems.nil ⟨?_, ?_⟩; (· first | trivial | simp [pairsQ, pairsOk, apart, ent0]))
        | (apply Wp.cond_lit; (· simp only [go_sem, reduceIte, Nat.reduceEqDiff, Nat.reduceAdd, bx, ax, if_true, if_false, Nat.reduceMul, Nat.reduceLeDiff, vAV, List.map_nil, List.length_nil, ht, b0, b1]; exact rfl); (· rfl))
        | refine Wp.skip ?_
        | refine Wp.label ?_
        | refine Wp.block ?_
        | refine Wp.exit ?_
        | refine Wp.seq ?_)
      exact ⟨trivial, _, rfl, ends_spc hs0 hc0 hsn hcn hsc (Nat.le_refl _) fs fc hM (row0 S rfl) (VSub.refl _) fun F' h => ⟨rfl, F', rfl, h⟩⟩
    | true =>
      rw [if_pos ht] at hke
      have ht2 := ht
      simp only [thK, Bool.and_eq_true, decide_eq_true_eq] at ht2
      rcases hK with ⟨rfl, h2⟩ | ⟨k, rfl, h2, h3, h4⟩
      · rw [h2] at ht2; simp at ht2
      have fk := ok.at0 h2
      have hkn := ok.lt (by simp) h2
      have hsk' : (s = k) = False := by simp; exact Ne.symm h3
      have hck' : (c = k) = False := by simp; exact Ne.symm h4
      obtain ⟨o1, o2, o3, o4⟩ := ne_off hsn
      obtain ⟨p1, p2, p3, p4⟩ := ne_off hcn
      repeat (first
        | ((first | apply Wp.seqItemsR | apply Wp.itemsR); (· simp only [go_sem, reduceIte, Nat.reduceEqDiff, Nat.reduceAdd, bx, ax, if_true, if_false, Nat.reduceMul, Nat.reduceLeDiff, vAV, List.map_nil, List.length_nil, ht, b0]; exact rfl))
        | (refine WpItems.nil ⟨?_, ?_⟩; (· first | trivial | simp [pairsQ, pairsOk, apart, ent0]))
        | (apply Wp.cond_lit; (· simp only [go_sem, reduceIte, Nat.reduceEqDiff, Nat.reduceAdd, bx, ax, if_true, if_false, Nat.reduceMul, Nat.reduceLeDiff, vAV, List.map_nil, List.length_nil, ht, b0]; exact rfl); (· rfl))
        | refine Wp.skip ?_
        | refine Wp.label ?_
        | refine Wp.block ?_
        | refine Wp.exit ?_
        | refine Wp.seq ?_)
      refine Wp.regN ?_
      refine WpItemsN.op (by simp only [go_sem, reduceIte, Nat.reduceEqDiff, Nat.reduceAdd, bx]) (by simp only [go_sem, reduceIte, Nat.reduceEqDiff, Nat.reduceAdd, bx]; exact rfl) ?_
      refine WpItemsN.op (by simp only [go_sem, reduceIte, Nat.reduceEqDiff, Nat.reduceAdd, bx]) (by simp only [go_sem, reduceIte, Nat.reduceEqDiff, Nat.reduceAdd, bx]; exact rfl) ?_
      refine WpItemsN.op (by simp only [go_sem, reduceIte, Nat.reduceEqDiff, Nat.reduceAdd, bx]) (by simp only [go_sem, reduceIte, Nat.reduceEqDiff, Nat.reduceAdd, bx]; exact rfl) ?_
      refine WpItemsN.op (by simp only [go_sem, reduceIte, Nat.reduceEqDiff, Nat.reduceAdd, bx]) (by simp only [go_sem, reduceIte, Nat.reduceEqDiff, Nat.reduceAdd, bx]; exact rfl) ?_
      refine WpItemsN.op (by simp only [go_sem, reduceIte, Nat.reduceEqDiff, Nat.reduceAdd, bx]) (by simp only [go_sem, reduceIte, Nat.reduceEqDiff, Nat.reduceAdd, bx, fs]; exact rfl) ?_
      refine WpItemsN.op (by simp only [go_sem, reduceIte, Nat.reduceEqDiff, Nat.reduceAdd, bx]) (by simp only [go_sem, reduceIte, Nat.reduceEqDiff, Nat.reduceAdd, bx, i2]; exact rfl) ?_
      refine WpItemsN.op (by simp only [go_sem, reduceIte, Nat.reduceEqDiff, Nat.reduceAdd, bx]) (by simp only [go_sem, reduceIte, Nat.reduceEqDiff, Nat.reduceAdd, bx, i2]; exact rfl) ?_
      refine WpItemsN.op (by simp only [go_sem, reduceIte, Nat.reduceEqDiff, Nat.reduceAdd, bx]) (by simp only [go_sem, reduceIte, Nat.reduceEqDiff, Nat.reduceAdd, bx, i2]; exact rfl) ?_
      refine WpItemsN.acall (by simp only [go_sem]) (by simp only [go_sem, reduceIte, Nat.reduceEqDiff, List.map]; exact VSubs.refl _) (delete_t (keysOf S.L) (plK (keysOf S.L) q) ht2.1 (by omega) (id := k) (h := .only (upd none' k (some (.cells (strs (keysOf S.L))))) [] n m) (by simp [H.only, upd]) rfl) (touch_turn _ fk hkn) ?_
      refine WpItemsN.op (by simp only [go_sem, reduceIte, Nat.reduceEqDiff, Nat.reduceAdd, bx]) (by simp only [go_sem, reduceIte, Nat.reduceEqDiff, Nat.reduceAdd, bx, H.turn, fs, o3, hsk']; exact rfl) ?_
      refine WpItemsN.op (by simp only [go_sem, reduceIte, Nat.reduceEqDiff, Nat.reduceAdd, bx]) (by simp only [go_sem, reduceIte, Nat.reduceEqDiff, Nat.reduceAdd, bx, H.turn, fs, o3, hsk']; exact rfl) ?_
      refine WpItemsN.op (by simp only [go_sem, reduceIte, Nat.reduceEqDiff, Nat.reduceAdd, bx]) (by simp only [go_sem, reduceIte, Nat.reduceEqDiff, Nat.reduceAdd, bx, H.turn, fs, o3, hsk']; exact rfl) ?_
      refine WpItems.toN (log := []) (WpItems.nil ?_)
      repeat (first
        | ((first | apply Wp.seqItemsR | apply Wp.itemsR); (· simp only [go_sem, reduceIte, Nat.reduceEqDiff, Nat.reduceAdd, bx, ax, if_true, if_false, Nat.reduceMul, Nat.reduceLeDiff, fc, mfind_enc, del_enc, p3, hck', hcs, hsc']; exact rfl))
        | (refine WpItems.nil ⟨?_, ?_⟩; (· first | trivial | simp [pairsQ, pairsOk, apart, ent0]))
        | (apply Wp.cond_lit; (· simp only [go_sem, reduceIte, Nat.reduceEqDiff, Nat.reduceAdd, bx, ax, if_true, if_false, Nat.reduceMul, Nat.reduceLeDiff, fc, mfind_enc, del_enc, p3, hck', hcs, hsc']; exact rfl); (· rfl))
        | refine Wp.skip ?_
        | refine Wp.label ?_
        | refine Wp.block ?_
        | refine Wp.exit ?_
        | refine Wp.seq ?_)
      have hl2 : (keysOf S.L).length - 1 = (keysOf (setS S q []).L).length := by
        show _ = (keysOf (setL S.L q [])).length
        rw [hke, List.length_append, List.length_take, List.length_drop]; omega
      refine ⟨trivial, _, rfl, ends_spc (S' := setS S q []) (M' := mdel M q) (K := .tsl 1 n 0 ((keysOf S.L).length - 1) none) hs0 hc0 hsn hcn hsc (by simp only; omega) ?_ ?_ hms (.inr ⟨n, by rw [hl2], ?_, by omega, by omega, by simp only; omega, .inr (Nat.le_refl _)⟩) (VSub.refl _) fun F' h => ⟨rfl, F', rfl, h⟩⟩
      · simp only [go_sem, H.turn, hsc', hcs, o3, hsk', fs, reduceIte]; rfl
      · simp only [go_sem, H.turn, hsc', hcs, p3, hck', fc, reduceIte]
        rw [← del_enc]; rfl
      · simp only [go_sem, H.turn, o4, p4, reduceIte]
        show some _ = some _
        rw [← hke]; rfl
  · rw [if_neg hv] at hms hke
    have hlen : 0 < v.length := List.length_pos_iff.2 hv
    have c0 : decide ((v.length : Int) = 0) = false := decide_eq_false (by omega)
    have c1 : decide ((0 : Int) < (v.length : Int)) = true := decide_eq_true (by omega)
    have hput := put_enc q v M
    simp only [vAV, putEs] at hput
    cases ht : thK (keysOf S.L) q with
    | true =>
      rw [if_pos ht] at hke
      repeat (first
        | ((first | apply Wp.seqItemsR | apply Wp.itemsR); (· simp only [go_sem, reduceIte, Nat.reduceEqDiff, Nat.reduceAdd, bx, ax, if_true, if_false, Nat.reduceMul, Nat.reduceLeDiff, vAV, List.length_map, ht, c0, c1, fc, fs, mfind_enc, hput]; exact rfl))
        | (refine WpItems.nil ⟨?_, ?_⟩; (· first | trivial | simp [pairsQ, pairsOk, apart, ent0]))
        | (apply Wp.cond_lit; (· simp only [go_sem, reduceIte, Nat.reduceEqDiff, Nat.reduceAdd, bx, ax, if_true, if_false, Nat.reduceMul, Nat.reduceLeDiff, vAV, List.length_map, ht, c0, c1, fc, fs, mfind_enc, hput]; exact rfl); (· rfl))
        | refine Wp.skip ?_
        | refine Wp.label ?_
        | refine Wp.block ?_
        | refine Wp.exit ?_
        | refine Wp.seq ?_)
      refine ⟨trivial, _, rfl, ends_spc (S' := setS S q v) (M' := mput M q v) (K := K) hs0 hc0 hsn hcn hsc (Nat.le_refl _) ?_ ?_ hms ?_ (VSub.refl _) fun F' h => ⟨rfl, F', rfl, h⟩⟩
      · simp only [go_sem, hsc', fs, reduceIte]; rfl
      · simp only [go_sem, reduceIte]
      · rcases row0 (setS S q v) hke with h | ⟨k, h1, h2, h3, h4, h5, h6⟩
        · exact .inl h
        · have hkc : (k = c) = False := by simp [h4]
          exact .inr ⟨k, h1, by simp only [go_sem, hkc, reduceIte]; exact h2, h3, h4, h5, h6⟩
    | false =>
      rw [if_neg (by simp [ht])] at hke
      obtain ⟨o1, o2, o3, o4⟩ := ne_off hsn
      obtain ⟨p1, p2, p3, p4⟩ := ne_off hcn
      have hl2 : (keysOf S.L).length + 1 = (keysOf (setS S q v).L).length := by
        show _ = (keysOf (setL S.L q v)).length
        rw [hke, List.length_append, List.length_cons, List.length_take, List.length_drop]; omega
      have n1 : (n = n + 1) = False := by simp
      have n2 : (n + 1 = n) = False := by simp
      rcases hK with ⟨rfl, h2⟩ | ⟨k, rfl, h2, h3, h4⟩
      · have hp0 : plK (keysOf S.L) q = 0 := by rw [h2]; rfl
        have z0 : ((0 : Nat) : Int) = 0 := rfl
        repeat (first
          | ((first | apply Wp.seqItemsR | apply Wp.itemsR); (· simp only [go_sem, reduceIte, Nat.reduceEqDiff, Nat.reduceAdd, bx, ax, if_true, if_false, Nat.reduceMul, Nat.reduceLeDiff, vAV, List.length_map, ht, c0, c1, hp0]; exact rfl))
          | (refine WpItems.nil ⟨?_, ?_⟩; (· first | trivial | simp [pairsQ, pairsOk, apart, ent0]))
          | (apply Wp.cond_lit; (· simp only [go_sem, reduceIte, Nat.reduceEqDiff, Nat.reduceAdd, bx, ax, if_true, if_false, Nat.reduceMul, Nat.reduceLeDiff, vAV, List.length_map, ht, c0, c1, hp0]; exact rfl); (· rfl))
          | refine Wp.skip ?_
          | refine Wp.label ?_
          | refine Wp.block ?_
          | refine Wp.exit ?_
          | refine Wp.seq ?_)
        refine Wp.regN ?_
        refine WpItemsN.op (by simp only [go_sem, reduceIte, Nat.reduceEqDiff, Nat.reduceAdd, bx]) (by simp only [go_sem, reduceIte, Nat.reduceEqDiff, Nat.reduceAdd, bx]; exact rfl) ?_
        refine WpItemsN.op (by simp only [go_sem, reduceIte, Nat.reduceEqDiff, Nat.reduceAdd, bx]) (by simp only [go_sem, reduceIte, Nat.reduceEqDiff, Nat.reduceAdd, bx]; exact rfl) ?_
        refine WpItemsN.op (by simp only [go_sem, reduceIte, Nat.reduceEqDiff, Nat.reduceAdd, bx]) (by simp only [go_sem, reduceIte, Nat.reduceEqDiff, Nat.reduceAdd, bx]; exact rfl) ?_
        refine WpItemsN.op (by simp only [go_sem, reduceIte, Nat.reduceEqDiff, Nat.reduceAdd, bx]) (by simp only [go_sem, reduceIte, Nat.reduceEqDiff, Nat.reduceAdd, bx]; exact rfl) ?_
        refine WpItemsN.op (by simp only [go_sem, reduceIte, Nat.reduceEqDiff, Nat.reduceAdd, bx]) (by simp only [go_sem, reduceIte, Nat.reduceEqDiff, Nat.reduceAdd, bx, fs]; exact rfl) ?_
        refine WpItemsN.op (by simp only [go_sem, reduceIte, Nat.reduceEqDiff, Nat.reduceAdd, bx]) (by simp only [go_sem, reduceIte, Nat.reduceEqDiff, Nat.reduceAdd, bx]; exact rfl) ?_
        refine WpItemsN.op (by simp only [go_sem, reduceIte, Nat.reduceEqDiff, Nat.reduceAdd, bx]) (by simp only [go_sem, reduceIte, Nat.reduceEqDiff, Nat.reduceAdd, bx]; exact rfl) ?_
        refine WpItemsN.opT (by simp only [go_sem, reduceIte, Nat.reduceEqDiff, Nat.reduceAdd, bx]) (by simp only [aopT, go_sem, reduceIte, Nat.reduceEqDiff, Nat.reduceAdd, bx, List.all_cons, List.all_nil, List.length_cons, List.length_nil, Nat.reduceMul, Nat.reduceLeDiff, and_self, if_true, decide_true, Bool.and_self]; exact rfl) ?_
        refine WpItemsN.acall (by simp only [go_sem]) (by simp only [go_sem, reduceIte, Nat.reduceEqDiff, List.map, z0]; exact VSubs.refl _) (Reads.insert_e q (id2 := n) (h := .only (upd none' n (some (.cells [.str q]))) [] (n + 1) m) (by simp [H.only, upd]) rfl) (touch_turn _ (id := n) (ob := .cells [.str q]) (by simp [upd, cellsOf]) (by simp)) ?_
        refine WpItemsN.op (by simp only [go_sem, reduceIte, Nat.reduceEqDiff, Nat.reduceAdd, bx]) (by simp only [go_sem, reduceIte, Nat.reduceEqDiff, Nat.reduceAdd, bx, H.turn, fs, o1, o3, n1, n2]; exact rfl) ?_
        refine WpItemsN.op (by simp only [go_sem, reduceIte, Nat.reduceEqDiff, Nat.reduceAdd, bx]) (by simp only [go_sem, reduceIte, Nat.reduceEqDiff, Nat.reduceAdd, bx, H.turn, fs, o1, o3, n1, n2]; exact rfl) ?_
        refine WpItemsN.op (by simp only [go_sem, reduceIte, Nat.reduceEqDiff, Nat.reduceAdd, bx]) (by simp only [go_sem, reduceIte, Nat.reduceEqDiff, Nat.reduceAdd, bx, H.turn, fs, o1, o3, n1, n2]; exact rfl) ?_
        refine WpItems.toN (log := []) (WpItems.nil ?_)
        repeat (first
          | ((first | apply Wp.seqItemsR | apply Wp.itemsR); (· simp only [go_sem, reduceIte, Nat.reduceEqDiff, Nat.reduceAdd, bx, ax, if_true, if_false, Nat.reduceMul, Nat.reduceLeDiff, fc, mfind_enc, hput, p1, p3, hcs, hsc', List.length_map, n1, n2]; exact rfl))
          | (refine WpItems.nil ⟨?_, ?_⟩; (· first | trivial | simp [pairsQ, pairsOk, apart, ent0]))
          | (apply Wp.cond_lit; (· simp only [go_sem, reduceIte, Nat.reduceEqDiff, Nat.reduceAdd, bx, ax, if_true, if_false, Nat.reduceMul, Nat.reduceLeDiff, fc, mfind_enc, hput, p1, p3, hcs, hsc', List.length_map, n1, n2]; exact rfl); (· rfl))
          | refine Wp.skip ?_
          | refine Wp.label ?_
          | refine Wp.block ?_
          | refine Wp.exit ?_
          | refine Wp.seq ?_)
        refine ⟨trivial, _, rfl, ends_spc (S' := setS S q v) (M' := mput M q v) (K := .tsl 1 (n + 1) 0 1 none) hs0 hc0 hsn hcn hsc (by simp only; omega) ?_ ?_ hms (.inr ⟨n + 1, by rw [← hl2, h2]; rfl, ?_, by omega, by omega, by simp only; omega, .inr (by omega)⟩) (VSub.refl _) fun F' h => ⟨rfl, F', rfl, h⟩⟩
        · simp only [go_sem, H.turn, hsc', hcs, o1, o3, fs, n1, n2, reduceIte]; rfl
        · simp only [go_sem, H.turn, hsc', hcs, p1, p3, fc, n1, n2, reduceIte]
        · simp only [go_sem, H.turn, o2, o4, p2, p4, n1, n2, reduceIte]
          show some _ = some (Av.Obj.cells (strs (keysOf (setL S.L q v))))
          rw [hke, h2]; rfl
      · have fk := ok.at0 h2
        have hkn := ok.lt (by simp) h2
        have hsk' : (s = k) = False := by simp; exact Ne.symm h3
        have hck' : (c = k) = False := by simp; exact Ne.symm h4
        obtain ⟨r1, r2, r3, r4⟩ := ne_off hkn
        have ins : ∀ (m2 : Nat), ACalls Try.prog 82 [.tsl 1 k 0 (keysOf S.L).length none, .int .i64 (plK (keysOf S.L) q), .tsl 1 n 0 1 none] (.only (upd (upd none' k (some (.cells (strs (keysOf S.L))))) n (some (.cells [.str q]))) [] (n + 1) m2) (.tsl 1 (n + 1) 0 ((keysOf S.L).length + 1) none) ((H.only (upd (upd none' k (some (.cells (strs (keysOf S.L))))) n (some (.cells [.str q]))) [] (n + 1) m2).turn k (.cells (strs ((keysOf S.L).take (plK (keysOf S.L) q) ++ q :: (keysOf S.L).drop (plK (keysOf S.L) q))))) := by
          intro m2
          by_cases hz : keysOf S.L = []
          · rw [hz]
            exact insert_z q (id := k) (id2 := n) (h := .only (upd (upd none' k (some (.cells (strs [])))) n (some (.cells [.str q]))) [] (n + 1) m2) (by omega) (by simp [H.only, upd, r3]) (by simp [H.only, upd]) rfl
          · exact Reads.insert_t (keysOf S.L) (plK (keysOf S.L) q) q (by omega) (by omega) (List.length_pos_iff.2 hz) (id := k) (id2 := n) (h := .only (upd (upd none' k (some (.cells (strs (keysOf S.L))))) n (some (.cells [.str q]))) [] (n + 1) m2) (by omega) (by simp [H.only, upd, r3]) (by simp [H.only, upd]) rfl
        repeat (first
          | ((first | apply Wp.seqItemsR | apply Wp.itemsR); (· simp only [go_sem, reduceIte, Nat.reduceEqDiff, Nat.reduceAdd, bx, ax, if_true, if_false, Nat.reduceMul, Nat.reduceLeDiff, vAV, List.length_map, ht, c0, c1]; exact rfl))
          | (refine WpItems.nil ⟨?_, ?_⟩; (· first | trivial | simp [pairsQ, pairsOk, apart, ent0]))
          | (apply Wp.cond_lit; (· simp only [go_sem, reduceIte, Nat.reduceEqDiff, Nat.reduceAdd, bx, ax, if_true, if_false, Nat.reduceMul, Nat.reduceLeDiff, vAV, List.length_map, ht, c0, c1]; exact rfl); (· rfl))
          | refine Wp.skip ?_
          | refine Wp.label ?_
          | refine Wp.block ?_
          | refine Wp.exit ?_
          | refine Wp.seq ?_)
        refine Wp.regN ?_
        refine WpItemsN.op (by simp only [go_sem, reduceIte, Nat.reduceEqDiff, Nat.reduceAdd, bx]) (by simp only [go_sem, reduceIte, Nat.reduceEqDiff, Nat.reduceAdd, bx]; exact rfl) ?_
        refine WpItemsN.op (by simp only [go_sem, reduceIte, Nat.reduceEqDiff, Nat.reduceAdd, bx]) (by simp only [go_sem, reduceIte, Nat.reduceEqDiff, Nat.reduceAdd, bx]; exact rfl) ?_
        refine WpItemsN.op (by simp only [go_sem, reduceIte, Nat.reduceEqDiff, Nat.reduceAdd, bx]) (by simp only [go_sem, reduceIte, Nat.reduceEqDiff, Nat.reduceAdd, bx]; exact rfl) ?_
        refine WpItemsN.op (by simp only [go_sem, reduceIte, Nat.reduceEqDiff, Nat.reduceAdd, bx]) (by simp only [go_sem, reduceIte, Nat.reduceEqDiff, Nat.reduceAdd, bx]; exact rfl) ?_
        refine WpItemsN.op (by simp only [go_sem, reduceIte, Nat.reduceEqDiff, Nat.reduceAdd, bx]) (by simp only [go_sem, reduceIte, Nat.reduceEqDiff, Nat.reduceAdd, bx, fs]; exact rfl) ?_
        refine WpItemsN.op (by simp only [go_sem, reduceIte, Nat.reduceEqDiff, Nat.reduceAdd, bx]) (by simp only [go_sem, reduceIte, Nat.reduceEqDiff, Nat.reduceAdd, bx]; exact rfl) ?_
        refine WpItemsN.op (by simp only [go_sem, reduceIte, Nat.reduceEqDiff, Nat.reduceAdd, bx]) (by simp only [go_sem, reduceIte, Nat.reduceEqDiff, Nat.reduceAdd, bx]; exact rfl) ?_
        refine WpItemsN.opT (by simp only [go_sem, reduceIte, Nat.reduceEqDiff, Nat.reduceAdd, bx]) (by simp only [aopT, go_sem, reduceIte, Nat.reduceEqDiff, Nat.reduceAdd, bx, List.all_cons, List.all_nil, List.length_cons, List.length_nil, Nat.reduceMul, Nat.reduceLeDiff, and_self, if_true, decide_true, Bool.and_self]; exact rfl) ?_
        refine WpItemsN.acall (by simp only [go_sem]) (by simp only [go_sem, reduceIte, Nat.reduceEqDiff, List.map]; exact VSubs.refl _) (ins _) (touch_turn2 _ (id := k) (id2 := n) (ob := .cells (strs (keysOf S.L))) (ob2 := .cells [.str q]) (by simp [upd, r3, fk]) (by simp [upd, cellsOf]) (by omega) (by simp only; omega) (by simp)) ?_
        refine WpItemsN.op (by simp only [go_sem, reduceIte, Nat.reduceEqDiff, Nat.reduceAdd, bx]) (by simp only [go_sem, reduceIte, Nat.reduceEqDiff, Nat.reduceAdd, bx, H.turn, fs, o1, o3, hsk', n1, n2]; exact rfl) ?_
        refine WpItemsN.op (by simp only [go_sem, reduceIte, Nat.reduceEqDiff, Nat.reduceAdd, bx]) (by simp only [go_sem, reduceIte, Nat.reduceEqDiff, Nat.reduceAdd, bx, H.turn, fs, o1, o3, hsk', n1, n2]; exact rfl) ?_
        refine WpItemsN.op (by simp only [go_sem, reduceIte, Nat.reduceEqDiff, Nat.reduceAdd, bx]) (by simp only [go_sem, reduceIte, Nat.reduceEqDiff, Nat.reduceAdd, bx, H.turn, fs, o1, o3, hsk', n1, n2]; exact rfl) ?_
        refine WpItems.toN (log := []) (WpItems.nil ?_)
        repeat (first
          | ((first | apply Wp.seqItemsR | apply Wp.itemsR); (· simp only [go_sem, reduceIte, Nat.reduceEqDiff, Nat.reduceAdd, bx, ax, if_true, if_false, Nat.reduceMul, Nat.reduceLeDiff, fc, mfind_enc, hput, p1, p3, hck', hcs, hsc', List.length_map, n1, n2]; exact rfl))
          | (refine WpItems.nil ⟨?_, ?_⟩; (· first | trivial | simp [pairsQ, pairsOk, apart, ent0]))
          | (apply Wp.cond_lit; (· simp only [go_sem, reduceIte, Nat.reduceEqDiff, Nat.reduceAdd, bx, ax, if_true, if_false, Nat.reduceMul, Nat.reduceLeDiff, fc, mfind_enc, hput, p1, p3, hck', hcs, hsc', List.length_map, n1, n2]; exact rfl); (· rfl))
          | refine Wp.skip ?_
          | refine Wp.label ?_
          | refine Wp.block ?_
          | refine Wp.exit ?_
          | refine Wp.seq ?_)
        refine ⟨trivial, _, rfl, ends_spc (S' := setS S q v) (M' := mput M q v) (K := .tsl 1 (n + 1) 0 ((keysOf S.L).length + 1) none) hs0 hc0 hsn hcn hsc (by simp only; omega) ?_ ?_ hms (.inr ⟨n + 1, by rw [← hl2], ?_, by omega, by omega, by simp only; omega, .inr (by omega)⟩) (VSub.refl _) fun F' h => ⟨rfl, F', rfl, h⟩⟩
        · simp only [go_sem, H.turn, hsc', hcs, o1, o3, hsk', fs, n1, n2, reduceIte]; rfl
        · simp only [go_sem, H.turn, hsc', hcs, p1, p3, hck', fc, n1, n2, reduceIte]
        · simp only [go_sem, H.turn, o2, o4, p2, p4, n1, n2, reduceIte]
          show some _ = some (Av.Obj.cells (strs (keysOf (setL S.L q v))))
          rw [hke]
end Go.Proofs.Ytpehfflehebmbaa.Space
end
section
set_option linter.unusedVariables false
set_option linter.unusedSimpArgs false
namespace Go.Av
section
variable {P : Program} {N : Nat} {Q : AExit → St → Prop}
structure On (l0 : List Fr) (n0 m0 : Nat) (l : List Fr) (n : Nat) (T : List Nat) (m : Nat) : Prop where
  gn : n0 ≤ n
  gm : m0 ≤ m
  ok : Ok l n T m
  wi : Wi l0 n0 l
  ki : Ki l0 m0 l
theorem On.refl {l : List Fr} {n m : Nat} {T : List Nat} (ok : Ok l n T m) : On l n m l n T m := ⟨Nat.le_refl _, Nat.le_refl _, ok, .refl, .refl⟩
theorem On.step {l0 l l' : List Fr} {n0 m0 n m n' m' : Nat} {T T' : List Nat} (a : On l0 n0 m0 l n T m) (b : On l n m l' n' T' m') : On l0 n0 m0 l' n' T' m' :=
  ⟨Nat.le_trans a.gn b.gn, Nat.le_trans a.gm b.gm, b.ok, a.wi.trans a.gn b.wi, a.ki.trans a.gm b.ki⟩
theorem On.ends {l0 l : List Fr} {n0 m0 n m : Nat} {T : List Nat} {q r : AV} {QQ : AV → List Fr → Prop} (a : On l0 n0 m0 l n T m) (hs : VSub q r) (hq : QQ r l) : Ends l0 n0 m0 QQ q ⟨lay l, n, T, m⟩ r l :=
  ⟨hs, fun j o h => ⟨o, h, OSub.refl _⟩, a.ok.tk, a.ok.shrink, a.wi, a.ki, hq⟩
theorem Wp.loopG {β : Type} (L : List Nat) {K : List (Nat × AV)} {c : AC} {t : Tm} {l0 : List Fr} {n0 m0 : Nat} {T0 : List Nat} (hK : (L.map fun i => (i, t i)) = K) (ch : β → List (Nat × AV)) (J : β → List Fr → Prop) (μ : β → Nat) (b0 : β) (h0 : J b0 l0) (ok0 : Ok l0 n0 T0 m0) (hs : AllSub t (ch b0))
    (round : ∀ b l n T m, On l0 n0 m0 l n T m → J b l → Wp P N c ⟨tm (K ++ ch b), ⟨lay l, n, T, m⟩⟩ (AExit.andThen (fun s' => ∃ b' l' n' T' m', On l n m l' n' T' m' ∧ J b' l' ∧ μ b' < μ b ∧ StLe s' ⟨tm (K ++ ch b'), ⟨lay l', n', T', m'⟩⟩) Q)) : Wp P N (.loop c) ⟨t, ⟨lay l0, n0, T0, m0⟩⟩ Q := by
  refine Wp.loopH (β := β × List Fr × Nat × List Nat × Nat) L hK (fun j => ch j.1) (fun j => ⟨lay j.2.1, j.2.2.1, j.2.2.2.1, j.2.2.2.2⟩) (fun j => On l0 n0 m0 j.2.1 j.2.2.1 j.2.2.2.1 j.2.2.2.2 ∧ J j.1 j.2.1) (fun j => μ j.1) (b0, l0, n0, T0, m0) ⟨On.refl ok0, h0⟩ rfl hs ?_
  rintro ⟨b, l, n, T, m⟩ ⟨hn, hb⟩
  refine Wp.mono (round b l n T m hn hb) ?_
  intro e s' h
  cases e with
  | normal => obtain ⟨b', l', n', T', m', h1, h2, h3, h4⟩ := h; exact ⟨(b', l', n', T', m'), ⟨hn.step h1, h2⟩, h3, h4⟩
  | exit id => exact h
  | goto l => exact h
  | ret => exact h
  | panic v => exact h
theorem WpItems.gcall1 {dst : Option Nat} {g : Option (Nat × Bool)} {f : FuncId} {l : List Opd} {its : List AItem} {t : Tm} {log : List Ent} {K : Tm → H → List Ent → Prop} {vals : List AV} {Q : AV → List Fr → Prop} {G : List Fr} {n m : Nat} {T : List Nat}
    (hg : guardOf t g = some true) (hs : VSubs (l.map (ev t)) vals) (hc : GCalls P f vals G Q) (ok : Ok G n T m)
    (rest : ∀ r G' n' T' m' ids, Q r G' → On G n m G' n' T' m' → WpItems P N its (putT t dst r) ⟨lay G', n', T', m'⟩ (⟨[], ids, ks G ++ ks G'⟩ :: log) K) :
    WpItems P N (⟨dst, g, .call f l⟩ :: its) t ⟨lay G, n, T, m⟩ log K := by
  have ok' : Ok ([] ++ G ++ []) n T m := by simpa using ok
  have := WpItems.gcall (P := P) (N := N) (dst := dst) (its := its) (log := log) (K := K) [] G [] hg hs hc ok' fun r G' n' m' ids h1 h2 h3 h4 h5 h6 => ?_
  · simpa using this
  · simp only [List.nil_append, List.append_nil] at h4 h5 h6 ⊢
    exact rest r G' n' _ m' _ h1 ⟨h2, h3, h4, h5, h6⟩
theorem WpItems.gyield1 {dst : Option Nat} {g : Option (Nat × Bool)} {id : Nat} {y : Opd} {l : List Opd} {its : List AItem} {t : Tm} {log : List Ent} {K : Tm → H → List Ent → Prop} {vals : List AV} {Q : AV → List Fr → Prop} {G : List Fr} {n m : Nat} {T : List Nat}
    (hg : guardOf t g = some true) (hy : ev t y = .yld id) (hs : VSubs (l.map (ev t)) vals) (hc : GYields P id vals G Q) (ok : Ok G n T m)
    (rest : ∀ r G' n' T' m' ids, Q r G' → On G n m G' n' T' m' → WpItems P N its (putT t dst r) ⟨lay G', n', T', m'⟩ (⟨[], ids, ks G ++ ks G'⟩ :: log) K) :
    WpItems P N (⟨dst, g, .callv y l⟩ :: its) t ⟨lay G, n, T, m⟩ log K := by
  have ok' : Ok ([] ++ G ++ []) n T m := by simpa using ok
  have := WpItems.gyield (P := P) (N := N) (dst := dst) (its := its) (log := log) (K := K) [] G [] hg hy hs hc ok' fun r G' n' m' ids h1 h2 h3 h4 h5 h6 => ?_
  · simpa using this
  · simp only [List.nil_append, List.append_nil] at h4 h5 h6 ⊢
    exact rest r G' n' _ m' _ h1 ⟨h2, h3, h4, h5, h6⟩
theorem WpItems.gkeep {dst : Option Nat} {g : Option (Nat × Bool)} {f : FuncId} {l : List Opd} {its : List AItem} {t : Tm} {log : List Ent} {K : Tm → H → List Ent → Prop} {vals : List AV} {r : AV} {F : Fr} (A B : List Fr) {n m : Nat} {T : List Nat}
    (hg : guardOf t g = some true) (hs : VSubs (l.map (ev t)) vals) (hc : GCalls P f vals [F] fun r' l' => r' = r ∧ l' = [F]) (hk : F.k = []) (ok : Ok (A ++ F :: B) n T m)
    (rest : ∀ n' m' ids, n ≤ n' → m ≤ m' → Ok (A ++ F :: B) n' T m' → WpItems P N its (putT t dst r) ⟨lay (A ++ F :: B), n', T, m'⟩ (⟨[], ids, []⟩ :: log) K) :
    WpItems P N (⟨dst, g, .call f l⟩ :: its) t ⟨lay (A ++ F :: B), n, T, m⟩ log K := by
  have e : A ++ F :: B = A ++ [F] ++ B := by simp
  rw [e] at ok ⊢
  refine WpItems.gcall A [F] B hg hs hc ok fun r' G' n' m' ids h1 h2 h3 h4 h5 h6 => ?_
  obtain ⟨rfl, rfl⟩ := h1
  have k0 : ks [F] = [] := by simp [ks, hk]
  have f0 : T.filter (fun _ : Nat => true) = T := by simp
  simp only [k0, List.nil_append, List.contains_nil, Bool.not_false, f0] at h4 ⊢
  rw [← e] at h4 ⊢
  exact rest n' m' ids h2 h3 h4
theorem Ok.more {l : List Fr} {n m : Nat} {T : List Nat} (ok : Ok l n T m) (o : Obj) : Ok (ob n o :: l) (n + 1) T m where
  bd F hF j hj := by
    rcases List.mem_cons.1 hF with rfl | hF
    · rw [ob_o, if_neg (by omega)]
    · exact ok.bd F hF j (by omega)
  dj := List.pairwise_cons.2 ⟨fun F hF j => by
    rw [ob_o]
    by_cases e : j = n
    · exact .inr (ok.bd F hF j (by omega))
    · exact .inl (if_neg e), ok.dj⟩
  tk t ht := ok.tk t (by simpa [ks, ob] using ht)
  td := List.pairwise_cons.2 ⟨fun F hF t ht => by simp [ob] at ht, ok.td⟩
  tb := ok.tb
theorem lay_ob_at (i : Nat) (o : Obj) (l : List Fr) : lay (ob i o :: l) i = some o := by simp [lay, ob_o]
theorem lay_ob_ne {i j : Nat} (o : Obj) (l : List Fr) (h : j ≠ i) : lay (ob i o :: l) j = lay l j := by simp [lay, ob_o, h]
theorem upd_ob (i : Nat) (o o' : Obj) (l : List Fr) : upd (lay (ob i o :: l)) i (some o') = lay (ob i o' :: l) := by
  funext j
  simp only [upd]
  split
  · rename_i e; subst e; rw [lay_ob_at]
  · rename_i e; rw [lay_ob_ne _ _ e, lay_ob_ne _ _ e]
theorem upd_new {n : Nat} {o : Obj} {l : List Fr} : upd (lay l) n (some o) = lay (ob n o :: l) := by
  funext j
  simp only [upd]
  split
  · rename_i e; subst e; rw [lay_ob_at]
  · rename_i e; rw [lay_ob_ne _ _ e]
theorem Ok.alone {i : Nat} {o : Obj} {l : List Fr} {n m : Nat} {T : List Nat} (ok : Ok (ob i o :: l) n T m) : lay l i = none := ok.old (by simp [ob_o])
theorem Ok.turn {i : Nat} {o o' : Obj} {l : List Fr} {n m : Nat} {T : List Nat} (ok : Ok (ob i o :: l) n T m) : Ok (ob i o' :: l) n T m := by
  have hi : i < n := ok.lt (by simp) (j := i) (F := ob i o) (o := o) (by simp [ob_o])
  have := ok.put (i := i) (o := o') ok.alone hi
  have e : (⟨upd (ob i o).o i (some o'), (ob i o).k⟩ : Fr) = ob i o' := by
    simp only [ob, Fr.mk.injEq, and_true]
    funext j
    simp only [upd, none']
    split <;> rfl
  rwa [e] at this
theorem ks_ob (i : Nat) (o : Obj) (l : List Fr) : ks (ob i o :: l) = ks l := by simp [ks, ob]
theorem ob_none (i j : Nat) (o o' : Obj) : (ob i o).o j = none → (ob i o').o j = none := by
  simp only [ob_o]; split <;> simp
theorem Ok.put_ob {A B : List Fr} {i : Nat} {o o' : Obj} {n m : Nat} {T : List Nat} (ok : Ok (A ++ ob i o :: B) n T m) : Ok (A ++ ob i o' :: B) n T m where
  bd F hF j hj := by
    rcases List.mem_append.1 hF with h | h
    · exact ok.bd F (by simp [h]) j hj
    · rcases List.mem_cons.1 h with rfl | h
      · exact ob_none i j o o' (ok.bd (ob i o) (by simp) j hj)
      · exact ok.bd F (by simp [h]) j hj
  dj := by
    have h1 := List.pairwise_append.1 ok.dj
    have h2 := List.pairwise_cons.1 h1.2.1
    refine List.pairwise_append.2 ⟨h1.1, List.pairwise_cons.2 ⟨fun F hF j => (h2.1 F hF j).imp (ob_none i j o o') id, h2.2⟩, fun F hF F' hF' j => ?_⟩
    rcases List.mem_cons.1 hF' with rfl | h
    · exact (h1.2.2 F hF (ob i o) (by simp) j).imp id (ob_none i j o o')
    · exact h1.2.2 F hF F' (by simp [h]) j
  tk t ht := ok.tk t (by simpa [ks, ob] using ht)
  td := by
    have h1 := List.pairwise_append.1 ok.td
    have h2 := List.pairwise_cons.1 h1.2.1
    refine List.pairwise_append.2 ⟨h1.1, List.pairwise_cons.2 ⟨fun F hF t ht => by simp [ob] at ht, h2.2⟩, fun F hF F' hF' t ht => ?_⟩
    rcases List.mem_cons.1 hF' with rfl | h
    · simp [ob]
    · exact h1.2.2 F hF F' (by simp [h]) t ht
  tb := ok.tb
theorem Ok.upd_ob {A B : List Fr} {i : Nat} {o : Obj} (o' : Obj) {n m : Nat} {T : List Nat} (ok : Ok (A ++ ob i o :: B) n T m) : upd (lay (A ++ ob i o :: B)) i (some o') = lay (A ++ ob i o' :: B) := by
  have h1 : lay A i = none := lay_none.2 fun F hF => by
    rcases (List.pairwise_append.1 ok.dj).2.2 F hF (ob i o) (by simp) i with h | h
    · exact h
    · simp [ob_o] at h
  funext j
  simp only [upd, lay_append]
  split
  · rename_i e; subst e; rw [h1, lay_ob_at]; rfl
  · rename_i e; rw [lay_ob_ne _ _ e, lay_ob_ne _ _ e]
theorem On.put_ob {A B : List Fr} {i : Nat} {o o' : Obj} {n m : Nat} {T : List Nat} (ok : Ok (A ++ ob i o :: B) n T m) : On (A ++ ob i o :: B) n m (A ++ ob i o' :: B) n T m where
  gn := Nat.le_refl _
  gm := Nat.le_refl _
  ok := ok.put_ob
  wi j := by
    simp only [lay_append]
    by_cases e : j = i
    · subst e
      rw [lay_ob_at]
      right; left
      cases lay A j <;> rfl
    · rw [lay_ob_ne _ _ e, lay_ob_ne _ _ e]
      cases h : (lay A j).or (lay B j) with
      | none => exact .inr (.inr rfl)
      | some x => exact .inr (.inl rfl)
  ki t ht := .inl (by simpa [ks, ob] using ht)
theorem ole_drop_ob {i : Nat} {o : Obj} {l : List Fr} (h : lay l i = none) : OLe (lay (ob i o :: l)) (lay l) := by
  intro j p hj
  have e : j ≠ i := by rintro rfl; rw [h] at hj; cases hj
  exact ⟨p, (lay_ob_ne _ _ e).trans hj, OSub.refl _⟩
theorem On.under {l l' : List Fr} {n m n' m' : Nat} {T' : List Nat} {o o' : Obj} (a : On (ob n o :: l) (n + 1) m (ob n o' :: l') n' T' m') : On l n m l' n' T' m' := by
  refine ⟨by have := a.gn; omega, a.gm, a.ok.tail, fun j => ?_, fun t ht => ?_⟩
  · by_cases e : j = n
    · exact .inl (by omega)
    · rcases a.wi j with h | h | h
      · exact .inl (by omega)
      · rw [lay_ob_ne _ _ e] at h; exact .inr (.inl h)
      · rw [lay_ob_ne _ _ e] at h; exact .inr (.inr h)
  · have := a.ki t (by rw [ks_ob]; exact ht)
    rwa [ks_ob] at this
theorem On.put {F : Fr} {l : List Fr} {i : Nat} {o : Obj} {n m : Nat} {T : List Nat} (ok : Ok (F :: l) n T m) (h : (F.o i).isSome = true) : On (F :: l) n m (⟨upd F.o i (some o), F.k⟩ :: l) n T m := by
  have hn : i < n := by
    obtain ⟨x, hx⟩ := Option.isSome_iff_exists.1 h
    exact ok.lt (by simp) hx
  refine ⟨Nat.le_refl _, Nat.le_refl _, ok.put (ok.old h) hn, fun j => ?_, fun t ht => .inl (by simpa [ks] using ht)⟩
  simp only [lay, upd]
  by_cases e : j = i
  · subst e
    right; left
    obtain ⟨x, hx⟩ := Option.isSome_iff_exists.1 h
    rw [hx]; rfl
  · rw [if_neg e]
    cases hh : (F.o j).or (lay l j) with
    | none => exact .inr (.inr rfl)
    | some x => exact .inr (.inl rfl)
def obk (i : Nat) (o : Obj) (k : List Nat) : Fr := ⟨upd none' i (some o), k⟩
theorem obk_o (i : Nat) (o : Obj) (k : List Nat) (j : Nat) : (obk i o k).o j = if j = i then some o else none := rfl
theorem lay_obk_at (i : Nat) (o : Obj) (k : List Nat) (l : List Fr) : lay (obk i o k :: l) i = some o := by simp [lay, obk_o]
theorem lay_obk_ne {i j : Nat} (o : Obj) (k : List Nat) (l : List Fr) (h : j ≠ i) : lay (obk i o k :: l) j = lay l j := by simp [lay, obk_o, h]
theorem Ok.upd_obk {A B : List Fr} {i : Nat} {o : Obj} {k : List Nat} (o' : Obj) (k' : List Nat) {n m : Nat} {T : List Nat} (ok : Ok (A ++ obk i o k :: B) n T m) : upd (lay (A ++ obk i o k :: B)) i (some o') = lay (A ++ obk i o' k' :: B) := by
  have h1 : lay A i = none := lay_none.2 fun F hF => by
    rcases (List.pairwise_append.1 ok.dj).2.2 F hF (obk i o k) (by simp) i with h | h
    · exact h
    · simp [obk_o] at h
  funext j
  simp only [upd, lay_append]
  split
  · rename_i e; subst e; rw [h1, lay_obk_at]; rfl
  · rename_i e; rw [lay_obk_ne _ _ _ e, lay_obk_ne _ _ _ e]
theorem On.put_obk {A B : List Fr} {i : Nat} {o o' : Obj} {k n m : Nat} {T : List Nat} (ok : Ok (A ++ obk i o [k] :: B) n T m) : On (A ++ obk i o [k] :: B) n m (A ++ obk i o' [m] :: B) n ([m] ++ T.filter fun t => ![k].contains t) (m + 1) := by
  have hi : i < n := ok.lt (F := obk i o [k]) (by simp) (j := i) (o := o) (by simp [obk_o])
  have okG' : Ok [obk i o' [m]] n (ks [obk i o' [m]]) (m + 1) := ⟨fun F hF j hj => by
    rw [List.mem_singleton.1 hF, obk_o, if_neg (by omega)], by simp, fun t h => h, by simp, fun t ht => by simp [ks, obk] at ht; omega⟩
  have e0 : A ++ obk i o [k] :: B = A ++ [obk i o [k]] ++ B := by simp
  have e1 : A ++ obk i o' [m] :: B = A ++ [obk i o' [m]] ++ B := by simp
  rw [e0] at ok ⊢
  rw [e1]
  have hw : ∀ j, n ≤ j ∨ (lay [obk i o [k]] j).isSome = true ∨ lay [obk i o' [m]] j = none := fun j => by
    by_cases e : j = i
    · subst e; rw [lay_obk_at]; exact .inr (.inl rfl)
    · rw [lay_obk_ne _ _ _ e, lay_obk_ne _ _ _ e]; exact .inr (.inr rfl)
  have hk : ∀ t ∈ ks [obk i o' [m]], t ∈ ks [obk i o [k]] ∨ m ≤ t := fun t ht => by simp [ks, obk] at ht; omega
  have := ok.swap okG' (Nat.le_refl _) (Nat.le_succ _) hw hk
  exact ⟨Nat.le_refl _, Nat.le_succ _, by simpa [ks, obk] using this, .mid hw, .mid hk⟩
theorem Ok.more_k {l : List Fr} {n m : Nat} {T : List Nat} (ok : Ok l n T m) (o : Obj) : Ok (obk n o [m] :: l) (n + 1) (m :: T) (m + 1) where
  bd F hF j hj := by
    rcases List.mem_cons.1 hF with rfl | hF
    · rw [obk_o, if_neg (by omega)]
    · exact ok.bd F hF j (by omega)
  dj := List.pairwise_cons.2 ⟨fun F hF j => by
    rw [obk_o]
    by_cases e : j = n
    · exact .inr (ok.bd F hF j (by omega))
    · exact .inl (if_neg e), ok.dj⟩
  tk t ht := by
    simp only [ks, obk, List.flatMap_cons, List.mem_append, List.mem_singleton] at ht
    rcases ht with rfl | ht
    · simp
    · exact List.mem_cons_of_mem _ (ok.tk t ht)
  td := List.pairwise_cons.2 ⟨fun F hF t ht h2 => by
    simp only [obk, List.mem_singleton] at ht
    subst ht
    have := ok.tb _ (ok.tk _ (mem_ks.2 ⟨F, hF, h2⟩))
    omega, ok.td⟩
  tb t ht := by
    rcases List.mem_cons.1 ht with rfl | ht
    · omega
    · have := ok.tb t ht; omega
theorem upd_newk {n : Nat} {o : Obj} {k : List Nat} {l : List Fr} : upd (lay l) n (some o) = lay (obk n o k :: l) := by
  funext j
  simp only [upd]
  split
  · rename_i e; subst e; rw [lay_obk_at]
  · rename_i e; rw [lay_obk_ne _ _ _ e]
theorem Wp.rfunG {g : Opd} {ps : List Nat} {x y : AC} {t : Tm} {l : List Fr} {n m : Nat} {T : List Nat} {fi : FuncId} {fn : Func} {first caps : List AV} (hg : ev t g = .clo (.func fi) first caps) (hf : P.funcs[fi]? = some fn) (hfb : fn.body.isSome = true) (hfn : fn.name ≠ "runtime.NumGoroutine")
    (ok : Ok l n T m) (hT : T = ks l)
    (hw : ∀ asg body, cCode P N asg = some x → cCode P N body = some y → noRF asg = true → noRF body = true →
      GCalls P fi (first ++ [.yld n] ++ caps) (ob n (.loop N t ps asg body .ready none) :: l) fun r l' => ∃ t2 st pend e l1, l' = ob n (.loop N t2 ps asg body st pend) :: l1 ∧ st ≠ .busy ∧ LoopEnd pend e ∧ ∀ n' m', On l n m l1 n' (ks l1) m' → Q e ⟨t, ⟨lay l1, n', ks l1, m'⟩⟩) : Wp P N (.rfun g ps x y) ⟨t, ⟨lay l, n, T, m⟩⟩ Q := by
  subst hT
  refine Wp.rfun hg hf hfb hfn (ok.lay_bd (Nat.le_refl _)) fun asg body h1 h2 h3 h4 => ?_
  obtain ⟨r, l', n', m', k1, k2, k3, k4, k5, k6, t2, st, pend, e, l1, rfl, k8, k9, k10⟩ := hw asg body h1 h2 h3 h4 (n + 1) m (by rw [ks_ob]; exact ok.more _)
  simp only [ks_ob] at k1 k4 k6
  refine ⟨r, lay (ob n (.loop N t2 ps asg body st pend) :: l1), n', ks l1, m', t2, st, pend, e, ?_, k2, k3, lay_ob_at _ _ _, k8, k9, ?_⟩
  · rw [upd_new]; exact k1
  · have e1 : (fun j => if j = n then none else lay (ob n (.loop N t2 ps asg body st pend) :: l1) j) = lay l1 := by
      funext j
      split
      · rename_i e; subst e; exact k4.alone.symm
      · rename_i e; rw [lay_ob_ne _ _ e]
    rw [e1]
    refine k10 n' m' ⟨by omega, k3, k4.tail, fun j => ?_, fun t ht => k6 t ht⟩
    by_cases e : j = n
    · exact .inl (by omega)
    · rcases k5 j with h | h | h
      · exact .inl (by omega)
      · rw [lay_ob_ne _ _ e] at h; exact .inr (.inl h)
      · rw [lay_ob_ne _ _ e] at h; exact .inr (.inr h)
theorem YCalls.le {id : Nat} {args : List AV} {h h' h'' : H} {r r' : AV} (hc : YCalls P id args h r h') (hs : VSub r r') (hl : HLe h' h'') (n : h'.n = h''.n) (m : h'.m = h''.m) : YCalls P id args h r' h'' := by
  intro G w vs hd hv R F
  obtain ⟨fn, tmps, assign, body, q1, q2⟩ := hc G w vs hd hv R (by unfold Fresh at F ⊢; rwa [n, m])
  refine ⟨fn, tmps, assign, body, q1, q2.mono ?_⟩
  rintro e w' ⟨v, G', rfl, T, R', V⟩
  exact ⟨v, G', rfl, T.trans R R' (Trans.le hl (by omega) (by omega)), R'.le hl, hs G' w' v V⟩
theorem gyields_of {id M : Nat} {t : Tm} {ps : List Nat} {asg body : Code} {x y : AC} {args : List AV} {l : List Fr} {Q : AV → List Fr → Prop} (ha : cCode P M asg = some x) (hb : cCode P M body = some y) (hna : noRF asg = true) (hnb : noRF body = true)
    (hl : args.length = ps.length) (hps : ∀ p ∈ ps, p < M)
    (hw : ∀ n m, Ok (ob id (.loop M t ps asg body .busy none) :: l) n (ks l) m →
      Wp P M x ⟨putPs t ps args, ⟨lay (ob id (.loop M t ps asg body .ready none) :: l), n, ks l, m⟩⟩ fun e s => e = .normal ∧ s.h = ⟨lay (ob id (.loop M t ps asg body .ready none) :: l), n, ks l, m⟩ ∧
        Wp P M y ⟨s.t, ⟨lay (ob id (.loop M t ps asg body .busy none) :: l), n, ks l, m⟩⟩ fun e2 s2 => ∃ b st pend l', RoundEnd e2 b st pend ∧
          Ends (ob id (.loop M t ps asg body .busy none) :: l) n m (fun _ _ => True) (.bool b) s2.h (.bool b) (ob id (.loop M t ps asg body .busy none) :: l') ∧ Q (.bool b) (ob id (.loop M t ps asg body st pend) :: l')) :
    GYields P id args (ob id (.loop M t ps asg body .ready none) :: l) Q := by
  intro n m ok
  rw [ks_ob] at ok
  have okb : Ok (ob id (.loop M t ps asg body .busy none) :: l) n (ks l) m := ok.turn
  obtain ⟨r, h', hy, st, pend, b, l', e2, rfl, hre, h2, E, hq, hn, hm, ho2, rfl⟩ := ycalls_of (P := P) (id := id) (M := M) (n := n) (m := m) (f := lay (ob id (.loop M t ps asg body .ready none) :: l)) (T := ks l) (t := t) (ps := ps) (asg := asg) (body := body) (x := x) (y := y) (args := args)
    (Q := fun r h' => ∃ st pend b l' e2, r = .bool b ∧ RoundEnd e2 b st pend ∧ ∃ h2 : H, Ends (ob id (.loop M t ps asg body .busy none) :: l) n m (fun _ _ => True) (.bool b) h2 (.bool b) (ob id (.loop M t ps asg body .busy none) :: l') ∧ Q (.bool b) (ob id (.loop M t ps asg body st pend) :: l') ∧ n ≤ h2.n ∧ m ≤ h2.m ∧ h2.objs id = some (.loop M t ps asg body .busy none) ∧ h' = { h2 with objs := upd h2.objs id (some (.loop M t ps asg body st pend)) })
    (lay_ob_at _ _ _) ha hb hna hnb hl hps ((hw n m okb).mono fun e s ⟨h1, h2, h3⟩ => ⟨h1, t, by rw [h2]; exact lay_ob_at _ _ _, by
      rw [h2]
      simp only [upd_ob]
      refine h3.nm.mono ?_
      rintro e2 s2 ⟨⟨b, st, pend, l', k1, k2, k3⟩, k4, k5⟩
      have hid : s2.h.objs id = some (.loop M t ps asg body .busy none) := by
        obtain ⟨o, a1, a2⟩ := k2.ole id _ (lay_ob_at _ _ _)
        rw [a1]
        cases o <;> simp only [OSub] at a2
        rw [a2]
      exact ⟨t, b, st, pend, hid, k1, st, pend, b, l', e2, rfl, k1, s2.h, k2, k3, k4, k5, hid, rfl⟩⟩)
  have low : OLe (upd h2.objs id (some (.loop M t ps asg body st pend))) (lay (ob id (.loop M t ps asg body st pend) :: l')) := by
    intro j o hj
    by_cases e : j = id
    · subst e
      rw [lay_ob_at] at hj
      cases hj
      exact ⟨_, by simp [upd], OSub.refl _⟩
    · rw [lay_ob_ne _ _ e] at hj
      obtain ⟨o', a1, a2⟩ := E.ole j o (by rw [lay_ob_ne _ _ e]; exact hj)
      exact ⟨o', by simp [upd, e, a1], a2⟩
  have ek := E.tk
  have eok := E.ok
  have ekn := E.knew
  simp only [ks_ob] at ek eok ekn
  refine ⟨.bool b, ob id (.loop M t ps asg body st pend) :: l', h2.n, h2.m, ?_, hn, hm, ?_, fun j => ?_, ?_, hq⟩
  · simp only [ks_ob]
    exact hy.le (VSub.refl _) ⟨low, ek⟩ rfl rfl
  · rw [ks_ob]; exact eok.turn
  · rcases E.new j with h | h | h
    · exact .inl h
    · by_cases e : j = id
      · subst e; rw [lay_ob_at]; exact .inr (.inl rfl)
      · rw [lay_ob_ne _ _ e] at h ⊢; exact .inr (.inl h)
    · by_cases e : j = id
      · subst e; rw [lay_ob_at]; exact .inr (.inl rfl)
      · rw [lay_ob_ne _ _ e] at h; rw [lay_ob_ne _ _ e, lay_ob_ne _ _ e]; exact .inr (.inr h)
  · simp only [ks_ob]; exact ekn
end
end Go.Av
end
section
set_option linter.unusedSimpArgs false
set_option linter.unusedVariables false
set_option maxRecDepth 10000
namespace Go.Proofs.Ytpehfflehebmbaa.Space
open Go Go.Av Go.Proofs Go.Proofs.Ytpehfflehebmbaa.C Go.Proofs.Ytpehfflehebmbaa.Batch
def iterV (s : Nat) (a b : Bs) : AV := .clo (.func 106) [] [.ref [.ptr s 0], .ref [.str a], .ref [.str b]]
theorem between_g {s : Nat} {S : Spc} {F : Fr} (hF : SpcF s S F) (a b : Bs) : GCalls Try.prog 59 [.ptr s 0, .str a, .str b] [F] (fun r l => r = iterV s a b ∧ l = [F]) := by
  obtain ⟨c, M, K, hM, hsc, hs, hc, hK⟩ := hF.go
  refine f59.gsameF (by simp) fun n m ok => ?_
  unfold c59
  have hsn := ok.lt (by simp) hs
  obtain ⟨o1, o2, o3, o4⟩ := ne_off hsn
  have d1 : decide (n ≤ s) = false := decide_eq_false (by omega)
  repeat (first
    | ((first | apply Wp.seqItemsR | apply Wp.itemsR); (· simp only [go_sem, reduceIte, Nat.reduceEqDiff, Nat.reduceAdd, bx, ax, if_true, if_false, Nat.reduceMul, Nat.reduceLeDiff]; exact rfl))
    | (refine WpItems.nil ⟨?_, ?_⟩; (· first | trivial | simp [pairsQ, pairsOk, apart, ent0]))
    | (apply Wp.cond_lit; (· simp only [go_sem, reduceIte, Nat.reduceEqDiff, Nat.reduceAdd, bx, ax, if_true, if_false, Nat.reduceMul, Nat.reduceLeDiff]; exact rfl); (· rfl))
    | refine Wp.skip ?_
    | refine Wp.label ?_
    | refine Wp.block ?_
    | refine Wp.exit ?_
    | refine Wp.seq ?_)
  refine Wp.ret ⟨trivial, _, rfl, ?_, fun j hj => ?_, fun t ht => ht⟩
  · have e1 : (n = n + 1 + 1) = False := by simp; omega
    have e2 : (n ≤ n + 1 + 1) = True := by simp; omega
    simp [unT, unTs, upd, d1, iterV, go_sem, e1, e2]
    exact VSub.refl _
  · simp only [upd]
    rw [if_neg (by omega), if_neg (by omega), if_neg (by omega)]
def selP (b x : Bs) : Bool := decide (b = []) || Op.bytesLess x b
def selK (k : List Bs) (a b : Bs) : List Bs := (k.drop (plK k a)).takeWhile (selP b)
theorem selK_at {k : List Bs} {a b : Bs} {i : Nat} (h : i < (selK k a b).length) : plK k a + i < k.length ∧ (selK k a b).getD i [] = k.getD (plK k a + i) [] ∧ selP b (k.getD (plK k a + i) []) = true := by
  have hp : selK k a b <+: k.drop (plK k a) := List.takeWhile_prefix _
  have hl := hp.length_le
  rw [List.length_drop] at hl
  have h1 : plK k a + i < k.length := by omega
  have h2 : (selK k a b).getD i [] = k.getD (plK k a + i) [] := by
    rw [getD_el h, getD_el h1, hp.getElem h, List.getElem_drop]
  refine ⟨h1, h2, ?_⟩
  rw [← h2, getD_el h]
  exact (List.all_eq_true.1 (List.all_takeWhile (p := selP b) (l := k.drop (plK k a)))) _ (List.getElem_mem h)
theorem selK_end {k : List Bs} {a b : Bs} (h : plK k a + (selK k a b).length < k.length) : selP b (k.getD (plK k a + (selK k a b).length) []) = false := by
  have key : ∀ l : List Bs, (h : (l.takeWhile (selP b)).length < l.length) → selP b (l[(l.takeWhile (selP b)).length]) = false := by
    intro l
    induction l with
    | nil => intro h; simp at h
    | cons x l ih =>
      intro h
      by_cases hx : selP b x = true
      · simp only [List.takeWhile_cons, hx, if_true, List.length_cons] at h ⊢
        simpa using ih (by omega)
      · simp [List.takeWhile_cons, hx]
  have h2 := key (k.drop (plK k a)) (by rw [List.length_drop]; unfold selK at h; omega)
  rw [getD_el h]
  rw [List.getElem_drop] at h2
  exact h2
theorem iter_g {s : Nat} {S : Spc} {F : Fr} (hF : SpcF s S F) (hr : RiseL S.L) (hl : S.L.length ≤ 500000) (a b : Bs) (id : Nat) (J : Nat → List Fr → Prop) (E : List Fr → Prop) (hJ : ∀ i l, J i l → F ∈ l)
    (hY : ∀ i l, i < (selK (keysOf S.L) a b).length → J i l → GYields Try.prog id [.str ((selK (keysOf S.L) a b).getD i [])] l fun r l' => (r = .bool true ∧ J (i + 1) l') ∨ (r = .bool false ∧ E l'))
    (l0 : List Fr) (h0 : J 0 l0) : GCalls Try.prog 106 [.yld id, .ref [.ptr s 0], .ref [.str a], .ref [.str b]] l0 (fun r l' => r = .tup [] ∧ (J (selK (keysOf S.L) a b).length l' ∨ E l')) := by
  obtain ⟨c, M, K, hM, hsc, hs, hc, hK⟩ := hF.go
  have hkl : (keysOf S.L).length = S.L.length := by simp [keysOf]
  obtain ⟨objs, ids, ho, hi, hb⟩ := bs_row hK hr (by omega) a
  have hple := plK_le (keysOf S.L) a
  have hsl : plK (keysOf S.L) a + (selK (keysOf S.L) a b).length ≤ (keysOf S.L).length := by
    have := (List.takeWhile_prefix (selP b) (l := (keysOf S.L).drop (plK (keysOf S.L) a))).length_le
    rw [List.length_drop] at this
    unfold selK; omega
  refine f106.gcalls (by simp) fun n m ok => ?_
  unfold c106
  have fs := ok.sub (hJ _ _ h0) _ _ hs
  repeat (first
    | ((first | apply Wp.seqItemsR | apply Wp.itemsR); (· simp only [go_sem, reduceIte, Nat.reduceEqDiff, Nat.reduceAdd, bx, ax, if_true, if_false, Nat.reduceMul, Nat.reduceLeDiff, fs]; exact rfl))
    | (refine WpItems.nil ⟨?_, ?_⟩; (· first | trivial | simp [pairsQ, pairsOk, apart, ent0]))
    | (apply Wp.cond_lit; (· simp only [go_sem, reduceIte, Nat.reduceEqDiff, Nat.reduceAdd, bx, ax, if_true, if_false, Nat.reduceMul, Nat.reduceLeDiff, fs]; exact rfl); (· rfl))
    | refine Wp.skip ?_
    | refine Wp.label ?_
    | refine Wp.block ?_
    | refine Wp.exit ?_
    | refine Wp.seq ?_)
  refine WpItems.rcall ids (by simp only [go_sem]) (by simp only [go_sem, reduceIte, Nat.reduceEqDiff, List.map]; exact VSubs.refl _) (fun id o h => ok.sub (hJ _ _ h0) id o (ho id o h)) hi hb ?_
  refine WpItems.evR (by simp only [go_sem, reduceIte, Nat.reduceEqDiff, Nat.reduceAdd, bx]; exact rfl) ?_
  refine WpItems.nil ⟨by simp [pairsQ, pairsOk, apart, ent0], ?_⟩
  rcases hK with ⟨rfl, h2⟩ | ⟨k, rfl, h2, h3, h4⟩
  · have hp0 : plK (keysOf S.L) a = 0 := by rw [h2]; rfl
    have hs0 : (selK (keysOf S.L) a b).length = 0 := by rw [h2]; simp [selK]
    have b1 : decide ((0 : Int) < ((0 : Nat) : Int)) = false := rfl
    repeat (first
      | ((first | apply Wp.seqItemsR | apply Wp.itemsR); (· simp only [go_sem, reduceIte, Nat.reduceEqDiff, Nat.reduceAdd, bx, ax, if_true, if_false, Nat.reduceMul, Nat.reduceLeDiff, fs, hp0]; exact rfl))
      | (refine WpItems.nil ⟨?_, ?_⟩; (· first | trivial | simp [pairsQ, pairsOk, apart, ent0]))
      | (apply Wp.cond_lit; (· simp only [go_sem, reduceIte, Nat.reduceEqDiff, Nat.reduceAdd, bx, ax, if_true, if_false, Nat.reduceMul, Nat.reduceLeDiff, fs, hp0]; exact rfl); (· rfl))
      | refine Wp.skip ?_
      | refine Wp.label ?_
      | refine Wp.block ?_
      | refine Wp.exit ?_
      | refine Wp.seq ?_)
    refine Wp.loopL (WpL.next ?_)
    repeat (first
      | ((first | apply Wp.seqItemsR | apply Wp.itemsR); (· simp only [go_sem, reduceIte, Nat.reduceEqDiff, Nat.reduceAdd, bx, ax, if_true, if_false, Nat.reduceMul, Nat.reduceLeDiff, b1]; exact rfl))
      | (refine WpItems.nil ⟨?_, ?_⟩; (· first | trivial | simp [pairsQ, pairsOk, apart, ent0]))
      | (apply Wp.cond_lit; (· simp only [go_sem, reduceIte, Nat.reduceEqDiff, Nat.reduceAdd, bx, ax, if_true, if_false, Nat.reduceMul, Nat.reduceLeDiff, b1]; exact rfl); (· rfl))
      | refine Wp.skip ?_
      | refine Wp.label ?_
      | refine Wp.block ?_
      | refine Wp.exit ?_
      | refine Wp.seq ?_)
    exact ⟨trivial, _, rfl, _, _, (On.refl ok).ends (VSub.refl _) ⟨rfl, .inl (hs0 ▸ h0)⟩⟩
  · have fk := ok.sub (hJ _ _ h0) _ _ h2
    have i1 : (0 : Int) ≤ ((plK (keysOf S.L) a : Nat) : Int) := by omega
    have i2 : ((plK (keysOf S.L) a : Nat) : Int) ≤ (((keysOf S.L).length : Nat) : Int) := by omega
    repeat (first
      | ((first | apply Wp.seqItemsR | apply Wp.itemsR); (· simp only [go_sem, reduceIte, Nat.reduceEqDiff, Nat.reduceAdd, bx, ax, if_true, if_false, Nat.reduceMul, Nat.reduceLeDiff, fs, i1, i2]; exact rfl))
      | (refine WpItems.nil ⟨?_, ?_⟩; (· first | trivial | simp [pairsQ, pairsOk, apart, ent0]))
      | (apply Wp.cond_lit; (· simp only [go_sem, reduceIte, Nat.reduceEqDiff, Nat.reduceAdd, bx, ax, if_true, if_false, Nat.reduceMul, Nat.reduceLeDiff, fs, i1, i2]; exact rfl); (· rfl))
      | refine Wp.skip ?_
      | refine Wp.label ?_
      | refine Wp.block ?_
      | refine Wp.exit ?_
      | refine Wp.seq ?_)
    refine Wp.loopG (β := Nat) [0, 3, 23, 24] (by simp only [go_sem, reduceIte, Nat.reduceEqDiff, List.map]; exact rfl) (fun i => [(25, .int .i64 (i : Nat))]) (fun i l => J i l ∧ i ≤ (selK (keysOf S.L) a b).length) (fun i => (keysOf S.L).length - i) 0 ⟨h0, Nat.zero_le _⟩ ok (by simp only [AllSub, go_sem, reduceIte, Nat.reduceEqDiff]; exact ⟨VSub.refl _, trivial⟩) ?_
    rintro i l n1 T1 m1 on ⟨hj, hil⟩
    have fk := on.ok.sub (hJ _ _ hj) _ _ h2
    have hget : plK (keysOf S.L) a + i < (keysOf S.L).length → (strs (keysOf S.L))[plK (keysOf S.L) a + i]? = some (.str ((keysOf S.L).getD (plK (keysOf S.L) a + i) [])) := by
      intro h
      have := getD_el (d := ([] : Bs)) h
      simp [strs, h]
    by_cases hi2 : i < (selK (keysOf S.L) a b).length
    · obtain ⟨k1, k2, k3⟩ := selK_at hi2
      have hg := hget k1
      have g1 : decide (((i : Nat) : Int) < ((((keysOf S.L).length - plK (keysOf S.L) a) : Nat) : Int)) = true := decide_eq_true (by omega)
      have h2 : (0 : Int) ≤ ((i : Nat) : Int) := by omega
      have h3 : ((i : Nat) : Int) < ((((keysOf S.L).length - plK (keysOf S.L) a) : Nat) : Int) := by omega
      have e1 : IntKind.i64.wrap (((i : Nat) : Int) + 1) = ((i + 1 : Nat) : Int) := by rw [IntWalk.i64_in _ (by omega)]; omega
      by_cases hbe : b = []
      · have d1 : decide (b = []) = true := decide_eq_true hbe
        repeat (first
          | ((first | apply Wp.seqItemsR | apply Wp.itemsR); (· simp only [go_sem, reduceIte, Nat.reduceEqDiff, Nat.reduceAdd, bx, ax, if_true, if_false, Nat.reduceMul, Nat.reduceLeDiff, g1, h2, h3, fk, hg, Nat.mul_one, d1]; exact rfl))
          | (refine WpItems.nil ⟨?_, ?_⟩; (· first | trivial | simp [pairsQ, pairsOk, apart, ent0]))
          | (apply Wp.cond_lit; (· simp only [go_sem, reduceIte, Nat.reduceEqDiff, Nat.reduceAdd, bx, ax, if_true, if_false, Nat.reduceMul, Nat.reduceLeDiff, g1, h2, h3, fk, hg, Nat.mul_one, d1]; exact rfl); (· rfl))
          | refine Wp.skip ?_
          | refine Wp.label ?_
          | refine Wp.block ?_
          | refine Wp.exit ?_
          | refine Wp.seq ?_)
        refine WpItems.gyield1 (by simp only [go_sem, reduceIte, Nat.reduceEqDiff]; rfl) (by simp only [go_sem, reduceIte, Nat.reduceEqDiff]) (by simp only [go_sem, reduceIte, Nat.reduceEqDiff, List.map]; rw [← k2]; exact VSubs.refl _) (hY i l hi2 hj) on.ok fun r l' n' T' m' ids hq on2 => ?_
        rcases hq with ⟨rfl, hq⟩ | ⟨rfl, hq⟩
        · refine WpItems.evR (by simp only [go_sem, reduceIte, Nat.reduceEqDiff, Nat.reduceAdd, bx]; exact rfl) ?_
          refine WpItems.nil ⟨by trivial, ?_⟩
          repeat (first
            | ((first | apply Wp.seqItemsR | apply Wp.itemsR); (· simp only [go_sem, reduceIte, Nat.reduceEqDiff, Nat.reduceAdd, bx, ax, if_true, if_false, Nat.reduceMul, Nat.reduceLeDiff, e1]; exact rfl))
            | (refine WpItems.nil ⟨?_, ?_⟩; (· first | trivial | simp [pairsQ, pairsOk, apart, ent0]))
            | (apply Wp.cond_lit; (· simp only [go_sem, reduceIte, Nat.reduceEqDiff, Nat.reduceAdd, bx, ax, if_true, if_false, Nat.reduceMul, Nat.reduceLeDiff, e1]; exact rfl); (· rfl))
            | refine Wp.skip ?_
            | refine Wp.label ?_
            | refine Wp.block ?_
            | refine Wp.exit ?_
            | refine Wp.seq ?_)
          refine ⟨i + 1, l', n', T', m', on2, ⟨hq, by omega⟩, by omega, ?_⟩
          refine StLe.tm (by simp only [AllSub, go_sem, reduceIte, Nat.reduceEqDiff, Nat.reduceAdd, bx, Nat.mul_one]; and_intros <;> first | exact trivial | exact VSub.refl _ | exact VSub.any _ | (refine VSub.int ?_; omega))
        · refine WpItems.evR (by simp only [go_sem, reduceIte, Nat.reduceEqDiff, Nat.reduceAdd, bx]; exact rfl) ?_
          refine WpItems.nil ⟨by trivial, ?_⟩
          repeat (first
            | ((first | apply Wp.seqItemsR | apply Wp.itemsR); (· simp only [go_sem, reduceIte, Nat.reduceEqDiff, Nat.reduceAdd, bx, ax, if_true, if_false, Nat.reduceMul, Nat.reduceLeDiff]; exact rfl))
            | (refine WpItems.nil ⟨?_, ?_⟩; (· first | trivial | simp [pairsQ, pairsOk, apart, ent0]))
            | (apply Wp.cond_lit; (· simp only [go_sem, reduceIte, Nat.reduceEqDiff, Nat.reduceAdd, bx, ax, if_true, if_false, Nat.reduceMul, Nat.reduceLeDiff]; exact rfl); (· rfl))
            | refine Wp.skip ?_
            | refine Wp.label ?_
            | refine Wp.block ?_
            | refine Wp.exit ?_
            | refine Wp.seq ?_)
          exact Wp.ret ⟨trivial, _, rfl, _, _, (on.step on2).ends (VSub.refl _) ⟨rfl, .inr hq⟩⟩
      · have d1 : decide (b = []) = false := decide_eq_false hbe
        have d2 : Op.bytesLess ((keysOf S.L).getD (plK (keysOf S.L) a + i) []) b = true := by
          unfold selP at k3; rw [d1, Bool.false_or] at k3; exact k3
        repeat (first
          | ((first | apply Wp.seqItemsR | apply Wp.itemsR); (· simp only [go_sem, reduceIte, Nat.reduceEqDiff, Nat.reduceAdd, bx, ax, if_true, if_false, Nat.reduceMul, Nat.reduceLeDiff, g1, h2, h3, fk, hg, Nat.mul_one, d1, d2]; exact rfl))
          | (refine WpItems.nil ⟨?_, ?_⟩; (· first | trivial | simp [pairsQ, pairsOk, apart, ent0]))
          | (apply Wp.cond_lit; (· simp only [go_sem, reduceIte, Nat.reduceEqDiff, Nat.reduceAdd, bx, ax, if_true, if_false, Nat.reduceMul, Nat.reduceLeDiff, g1, h2, h3, fk, hg, Nat.mul_one, d1, d2]; exact rfl); (· rfl))
          | refine Wp.skip ?_
          | refine Wp.label ?_
          | refine Wp.block ?_
          | refine Wp.exit ?_
          | refine Wp.seq ?_)
        refine WpItems.gyield1 (by simp only [go_sem, reduceIte, Nat.reduceEqDiff]; rfl) (by simp only [go_sem, reduceIte, Nat.reduceEqDiff]) (by simp only [go_sem, reduceIte, Nat.reduceEqDiff, List.map]; rw [← k2]; exact VSubs.refl _) (hY i l hi2 hj) on.ok fun r l' n' T' m' ids hq on2 => ?_
        rcases hq with ⟨rfl, hq⟩ | ⟨rfl, hq⟩
        · refine WpItems.evR (by simp only [go_sem, reduceIte, Nat.reduceEqDiff, Nat.reduceAdd, bx]; exact rfl) ?_
          refine WpItems.nil ⟨by trivial, ?_⟩
          repeat (first
            | ((first | apply Wp.seqItemsR | apply Wp.itemsR); (· simp only [go_sem, reduceIte, Nat.reduceEqDiff, Nat.reduceAdd, bx, ax, if_true, if_false, Nat.reduceMul, Nat.reduceLeDiff, e1]; exact rfl))
            | (refine WpItems.nil ⟨?_, ?_⟩; (· first | trivial | simp [pairsQ, pairsOk, apart, ent0]))
            | (apply Wp.cond_lit; (· simp only [go_sem, reduceIte, Nat.reduceEqDiff, Nat.reduceAdd, bx, ax, if_true, if_false, Nat.reduceMul, Nat.reduceLeDiff, e1]; exact rfl); (· rfl))
            | refine Wp.skip ?_
            | refine Wp.label ?_
            | refine Wp.block ?_
            | refine Wp.exit ?_
            | refine Wp.seq ?_)
          refine ⟨i + 1, l', n', T', m', on2, ⟨hq, by omega⟩, by omega, ?_⟩
          refine StLe.tm (by simp only [AllSub, go_sem, reduceIte, Nat.reduceEqDiff, Nat.reduceAdd, bx, Nat.mul_one]; and_intros <;> first | exact trivial | exact VSub.refl _ | exact VSub.any _ | (refine VSub.int ?_; omega))
        · refine WpItems.evR (by simp only [go_sem, reduceIte, Nat.reduceEqDiff, Nat.reduceAdd, bx]; exact rfl) ?_
          refine WpItems.nil ⟨by trivial, ?_⟩
          repeat (first
            | ((first | apply Wp.seqItemsR | apply Wp.itemsR); (· simp only [go_sem, reduceIte, Nat.reduceEqDiff, Nat.reduceAdd, bx, ax, if_true, if_false, Nat.reduceMul, Nat.reduceLeDiff]; exact rfl))
            | (refine WpItems.nil ⟨?_, ?_⟩; (· first | trivial | simp [pairsQ, pairsOk, apart, ent0]))
            | (apply Wp.cond_lit; (· simp only [go_sem, reduceIte, Nat.reduceEqDiff, Nat.reduceAdd, bx, ax, if_true, if_false, Nat.reduceMul, Nat.reduceLeDiff]; exact rfl); (· rfl))
            | refine Wp.skip ?_
            | refine Wp.label ?_
            | refine Wp.block ?_
            | refine Wp.exit ?_
            | refine Wp.seq ?_)
          exact Wp.ret ⟨trivial, _, rfl, _, _, (on.step on2).ends (VSub.refl _) ⟨rfl, .inr hq⟩⟩
    · have he : i = (selK (keysOf S.L) a b).length := by omega
      subst he
      by_cases hend : plK (keysOf S.L) a + (selK (keysOf S.L) a b).length < (keysOf S.L).length
      · have k3 := selK_end hend
        have hg := hget hend
        have g1 : decide ((((selK (keysOf S.L) a b).length : Nat) : Int) < ((((keysOf S.L).length - plK (keysOf S.L) a) : Nat) : Int)) = true := decide_eq_true (by omega)
        have h2 : (0 : Int) ≤ (((selK (keysOf S.L) a b).length : Nat) : Int) := by omega
        have h3 : (((selK (keysOf S.L) a b).length : Nat) : Int) < ((((keysOf S.L).length - plK (keysOf S.L) a) : Nat) : Int) := by omega
        have e1 : IntKind.i64.wrap ((((selK (keysOf S.L) a b).length : Nat) : Int) + 1) = (((selK (keysOf S.L) a b).length + 1 : Nat) : Int) := by rw [IntWalk.i64_in _ (by omega)]; omega
        unfold selP at k3
        rw [Bool.or_eq_false_iff] at k3
        repeat (first
          | ((first | apply Wp.seqItemsR | apply Wp.itemsR); (· simp only [go_sem, reduceIte, Nat.reduceEqDiff, Nat.reduceAdd, bx, ax, if_true, if_false, Nat.reduceMul, Nat.reduceLeDiff, g1, h2, h3, fk, hg, Nat.mul_one, k3.1, k3.2]; exact rfl))
          | (refine WpItems.nil ⟨?_, ?_⟩; (· first | trivial | simp [pairsQ, pairsOk, apart, ent0]))
          | (apply Wp.cond_lit; (· simp only [go_sem, reduceIte, Nat.reduceEqDiff, Nat.reduceAdd, bx, ax, if_true, if_false, Nat.reduceMul, Nat.reduceLeDiff, g1, h2, h3, fk, hg, Nat.mul_one, k3.1, k3.2]; exact rfl); (· rfl))
          | refine Wp.skip ?_
          | refine Wp.label ?_
          | refine Wp.block ?_
          | refine Wp.exit ?_
          | refine Wp.seq ?_)
        exact Wp.ret ⟨trivial, _, rfl, _, _, on.ends (VSub.refl _) ⟨rfl, .inl hj⟩⟩
      · have g1 : decide ((((selK (keysOf S.L) a b).length : Nat) : Int) < (((keysOf S.L).length - plK (keysOf S.L) a : Nat) : Int)) = false := decide_eq_false (by omega)
        repeat (first
          | ((first | apply Wp.seqItemsR | apply Wp.itemsR); (· simp only [go_sem, reduceIte, Nat.reduceEqDiff, Nat.reduceAdd, bx, ax, if_true, if_false, Nat.reduceMul, Nat.reduceLeDiff, g1]; exact rfl))
          | (refine WpItems.nil ⟨?_, ?_⟩; (· first | trivial | simp [pairsQ, pairsOk, apart, ent0]))
          | (apply Wp.cond_lit; (· simp only [go_sem, reduceIte, Nat.reduceEqDiff, Nat.reduceAdd, bx, ax, if_true, if_false, Nat.reduceMul, Nat.reduceLeDiff, g1]; exact rfl); (· rfl))
          | refine Wp.skip ?_
          | refine Wp.label ?_
          | refine Wp.block ?_
          | refine Wp.exit ?_
          | refine Wp.seq ?_)
        exact ⟨trivial, _, rfl, _, _, on.ends (VSub.refl _) ⟨rfl, .inl hj⟩⟩
def RndQ (J : List Fr → Prop) (E : AExit → List Fr → Prop) : AExit → List Fr → Prop
  | .normal, l => J l
  | .panic _, _ => False
  | e, l => E e l
theorem loop_between {N : Nat} {s : Nat} {S : Spc} {F : Fr} (hF : SpcF s S F) (hr : RiseL S.L) (hl : S.L.length ≤ 500000) (a b : Bs) {g : Opd} {p q : Nat} {y : AC} {t : Tm} {l : List Fr} {n m : Nat} {T : List Nat} {Q : AExit → St → Prop} (hg : ev t g = iterV s a b) (ok : Ok l n T m) (hT : T = ks l) (hp : p < N)
    (J : Nat → List Fr → Prop) (E : AExit → List Fr → Prop) (hJ : ∀ i l, J i l → F ∈ l) (h0 : J 0 l)
    (round : ∀ i l o n1 n2 m2, i < (selK (keysOf S.L) a b).length → J i l → n ≤ n1 → Ok (ob n1 o :: l) n2 (ks l) m2 →
      Wp Try.prog N y ⟨upd (upd t p (.str ((selK (keysOf S.L) a b).getD i []))) q (.str ((selK (keysOf S.L) a b).getD i [])), ⟨lay (ob n1 o :: l), n2, ks l, m2⟩⟩ fun e2 s2 => ∃ l', Av.Ends (ob n1 o :: l) n2 m2 (fun _ _ => True) (.tup []) s2.h (.tup []) (ob n1 o :: l') ∧ RndQ (J (i + 1)) E e2 l')
    (fin : ∀ l1 n' m', On l n m l1 n' (ks l1) m' → J (selK (keysOf S.L) a b).length l1 → Q .normal ⟨t, ⟨lay l1, n', ks l1, m'⟩⟩)
    (out : ∀ e l1 n' m', On l n m l1 n' (ks l1) m' → E e l1 → Q e ⟨t, ⟨lay l1, n', ks l1, m'⟩⟩) :
    Wp Try.prog N (.rfun g [p] (.reg [⟨some q, none, .mov (.t p)⟩] none) y) ⟨t, ⟨lay l, n, T, m⟩⟩ Q := by
  refine Wp.rfunG (fi := 106) (first := []) (caps := [.ref [.ptr s 0], .ref [.str a], .ref [.str b]]) hg (Try.func106) rfl (of_decide_eq_true (by kernel_rfl)) ok hT fun asg body c1 c2 c3 c4 => ?_
  refine (iter_g hF hr hl a b n (fun i L => ∃ l', L = ob n (.loop N t [p] asg body .ready none) :: l' ∧ J i l') (fun L => ∃ l' st pend e, L = ob n (.loop N t [p] asg body st pend) :: l' ∧ st ≠ .busy ∧ LoopEnd pend e ∧ E e l') ?_ ?_ _ ⟨l, rfl, h0⟩).mono ?_
  · rintro i L ⟨l', rfl, h⟩
    exact List.mem_cons_of_mem _ (hJ i l' h)
  · rintro i L hi ⟨l', rfl, h⟩
    refine gyields_of c1 c2 c3 c4 rfl (by simpa using hp) fun n2 m2 ok2 => ?_
    refine Wp.reg1 (by simp only [go_sem, reduceIte, Nat.reduceEqDiff, putPs]; exact rfl) (by trivial) ⟨rfl, rfl, ?_⟩
    refine (round i l' _ n n2 m2 hi h (Nat.le_refl _) ok2).mono ?_
    rintro e2 s2 ⟨l2, hE, hq⟩
    cases e2 with
    | normal => exact ⟨true, .ready, none, l2, .normal, ⟨VSub.refl _, hE.ole, hE.tk, hE.ok, hE.new, hE.knew, trivial⟩, .inl ⟨rfl, l2, rfl, hq⟩⟩
    | exit i => exact ⟨false, .done, _, l2, .exit i, ⟨VSub.refl _, hE.ole, hE.tk, hE.ok, hE.new, hE.knew, trivial⟩, .inr ⟨rfl, l2, _, _, _, rfl, by simp, .exit i, hq⟩⟩
    | goto i => exact ⟨false, .done, _, l2, .goto i, ⟨VSub.refl _, hE.ole, hE.tk, hE.ok, hE.new, hE.knew, trivial⟩, .inr ⟨rfl, l2, _, _, _, rfl, by simp, .goto i, hq⟩⟩
    | ret => exact ⟨false, .done, _, l2, .ret, ⟨VSub.refl _, hE.ole, hE.tk, hE.ok, hE.new, hE.knew, trivial⟩, .inr ⟨rfl, l2, _, _, _, rfl, by simp, .ret, hq⟩⟩
    | panic v => exact False.elim hq
  · rintro r L ⟨rfl, h⟩
    rcases h with ⟨l', rfl, h⟩ | ⟨l', st, pend, e, rfl, h1, h2, h3⟩
    · exact ⟨t, .ready, none, .normal, l', rfl, by simp, .none, fun n' m' on => fin l' n' m' on h⟩
    · exact ⟨t, st, pend, e, l', rfl, h1, h2, fun n' m' on => out e l' n' m' on h3⟩
end Go.Proofs.Ytpehfflehebmbaa.Space
end
section
set_option linter.unusedSimpArgs false
set_option linter.unusedVariables false
set_option maxRecDepth 10000
namespace Go.Proofs.Ytpehfflehebmbaa.Space
open Go Go.Av Go.Proofs Go.Proofs.Ytpehfflehebmbaa.C Go.Proofs.Ytpehfflehebmbaa.Batch
def sinceS (S : Spc) (a b : Bs) (t : Int) : Bool := (selK (keysOf S.L) a b).any fun k => sinceB (mget S.L k) t
theorem since_g {s : Nat} {S : Spc} {F : Fr} (hF : SpcF s S F) (hr : RiseL S.L) (hS : Small S) (a b : Bs) (t : Int) : GCalls Try.prog 22 [.ptr s 0, .str a, .str b, .int .i64 t] [F] (fun r l => r = .bool (sinceS S a b t) ∧ l = [F]) := by
  obtain ⟨c, M, K, hM, hsc, hs, hc, hK⟩ := hF.go
  refine f22.gsame (by simp) fun n m ok => ?_
  unfold c22
  have hsn := ok.lt (by simp) hs
  obtain ⟨o1, o2, o3, o4⟩ := ne_off hsn
  have ksF : ks [F] = [] := by simp [ks, hF.k]
  rw [ksF] at ok ⊢
  refine Wp.seqReg (by simp only [go_sem, reduceIte, Nat.reduceEqDiff, Nat.reduceAdd, bx]; exact rfl) (by trivial) ?_
  simp only [upd_new]
  have ok3 := ((ok.more (.cells [.ptr s 0])).more (.cells [.int .i64 t])).more (.cells [.bool false])
  have ok := ok3
  have n1 : (n = n + 1) = False := by simp
  have n2 : (n = n + 1 + 1) = False := by simp; omega
  have n3 : (n + 1 = n + 1 + 1) = False := by simp
  have f4 := ok3.sub (F := ob n (.cells [.ptr s 0])) (by simp) n _ (by simp [ob_o]; rfl)
  have f7 := ok3.sub (F := ob (n + 1) (.cells [.int .i64 t])) (by simp) (n + 1) _ (by simp [ob_o]; rfl)
  repeat (first
    | ((first | apply Wp.seqItemsR | apply Wp.itemsR | ((first
        | (refine WpItems.glook ?_ ?_ (made_r hF) (by first | exact fun j o h => h | exact ok.sub (by simp) | assumption) (fun ids => ?_); (· simp only [go_sem, reduceIte, Nat.reduceEqDiff, Nat.reduceAdd, bx]); (· simp only [go_sem, reduceIte, Nat.reduceEqDiff, Nat.reduceAdd, bx, List.map]; first | exact VSubs.refl _ | (repeat (first | exact VSubs.nil | refine VSubs.cons (by first | exact VSub.refl _ | assumption | exact VSub.cap | exact VSub.any _) ?_))))); apply WpItems.evR)); (· simp only [go_sem, reduceIte, Nat.reduceEqDiff, Nat.reduceAdd, bx, ax, if_true, if_false, Nat.reduceMul, Nat.reduceLeDiff, f4]; exact rfl))
    | (refine WpItems.nil ⟨?_, ?_⟩; (· first | trivial | simp [pairsQ, pairsOk, apart, ent0]))
    | (apply Wp.cond_lit; (· simp only [go_sem, reduceIte, Nat.reduceEqDiff, Nat.reduceAdd, bx, ax, if_true, if_false, Nat.reduceMul, Nat.reduceLeDiff, f4]; exact rfl); (· rfl))
    | refine Wp.skip ?_
    | refine Wp.label ?_
    | refine Wp.block ?_
    | refine Wp.exit ?_
    | refine Wp.seq ?_)
  refine WpItems.gkeep [_, _, _] [] (by simp only [go_sem]) (by simp only [go_sem, reduceIte, Nat.reduceEqDiff, List.map]; exact VSubs.refl _) (between_g hF a b) hF.k ok3 fun n4 m4 ids hn4 hm4 ok4 => ?_
  refine WpItems.evR (by simp only [go_sem, reduceIte, Nat.reduceEqDiff, Nat.reduceAdd, bx]; exact rfl) ?_
  refine WpItems.nil ⟨by trivial, ?_⟩
  refine Wp.block ?_
  have hsel : ∀ i, i < (selK (keysOf S.L) a b).length → (selK (keysOf S.L) a b).getD i [] ∈ selK (keysOf S.L) a b := fun i hi => by rw [getD_el hi]; exact List.getElem_mem hi
  refine loop_between hF hr hS.1 a b (by simp only [go_sem, reduceIte, Nat.reduceEqDiff]) ok4 (by simp [ks, hF.k, ob]) (by simp)
    (fun i l => l = [ob (n + 1 + 1) (.cells [.bool false]), ob (n + 1) (.cells [.int .i64 t]), ob n (.cells [.ptr s 0]), F] ∧ ∀ j, j < i → sinceB (mget S.L ((selK (keysOf S.L) a b).getD j [])) t = false)
    (fun e l => e = .ret ∧ l = [ob (n + 1 + 1) (.cells [.bool true]), ob (n + 1) (.cells [.int .i64 t]), ob n (.cells [.ptr s 0]), F] ∧ sinceS S a b t = true) ?_ ⟨rfl, fun j hj => by omega⟩ ?_ ?_ ?_
  · rintro i l ⟨rfl, -⟩; simp
  · rintro i l oo k1 k2 k3 hi ⟨rfl, hno⟩ hk1 ok5
    have ok := ok5
    have g4 := ok5.sub (F := ob n (.cells [.ptr s 0])) (by simp) n _ (by simp [ob_o]; rfl)
    have g7 := ok5.sub (F := ob (n + 1) (.cells [.int .i64 t])) (by simp) (n + 1) _ (by simp [ob_o]; rfl)
    have g8 := ok5.sub (F := ob (n + 1 + 1) (.cells [.bool false])) (by simp) (n + 1 + 1) _ (by simp [ob_o]; rfl)
    have gs := ok5.sub (F := F) (by simp) _ _ hs
    have gc := ok5.sub (F := F) (by simp) _ _ hc
    have hat := since_p (mget S.L ((selK (keysOf S.L) a b).getD i [])) (by have := hS.2 ((selK (keysOf S.L) a b).getD i []); omega) t
    have hl := look_sub M ((selK (keysOf S.L) a b).getD i [])
    rw [hM.eq] at hl
    unfold vAV at hl
    have fit : VSubs [lookAV (.sl 3 [] (.exact 0)) false (mres M ((selK (keysOf S.L) a b).getD i [])), .int .i64 t] [.sl 3 ((mget S.L ((selK (keysOf S.L) a b).getD i [])).map encV) .any, .int .i64 t] := VSubs.cons hl (VSubs.refl _)
    cases hb : sinceB (mget S.L ((selK (keysOf S.L) a b).getD i [])) t with
    | true =>
      rw [hb] at hat
      repeat (first
        | ((first | apply Wp.seqItemsR | apply Wp.itemsR | ((first
            | (refine WpItems.pcall ?_ ?_ (hat) ?_; (· simp only [go_sem, reduceIte, Nat.reduceEqDiff, Nat.reduceAdd, bx]); (· simp only [go_sem, reduceIte, Nat.reduceEqDiff, Nat.reduceAdd, bx, List.map]; exact fit))); apply WpItems.evR)); (· simp only [go_sem, reduceIte, Nat.reduceEqDiff, Nat.reduceAdd, bx, ax, if_true, if_false, Nat.reduceMul, Nat.reduceLeDiff, g4, g7, gs, gc, mfind_enc, g8]; exact rfl))
        | (refine WpItems.nil ⟨?_, ?_⟩; (· first | trivial | simp [pairsQ, pairsOk, apart, ent0]))
        | (apply Wp.cond_lit; (· simp only [go_sem, reduceIte, Nat.reduceEqDiff, Nat.reduceAdd, bx, ax, if_true, if_false, Nat.reduceMul, Nat.reduceLeDiff, g4, g7, gs, gc, mfind_enc, g8]; exact rfl); (· rfl))
        | refine Wp.skip ?_
        | refine Wp.label ?_
        | refine Wp.block ?_
        | refine Wp.exit ?_
        | refine Wp.seq ?_)
      have e8 := Ok.upd_ob (A := [_]) (.cells [.bool true]) ok5
      have on8 := On.put_ob (A := [_]) (o' := .cells [.bool true]) ok5
      refine Wp.ret ⟨_, (?_ : Av.Ends _ _ _ _ _ ⟨_, _, _, _⟩ _ _), rfl, rfl, ?_⟩
      · simp only [List.cons_append, List.nil_append] at e8 on8
        rw [e8]
        exact on8.ends (VSub.refl _) trivial
      · exact List.any_eq_true.2 ⟨_, hsel i hi, hb⟩
    | false =>
      rw [hb] at hat
      repeat (first
        | ((first | apply Wp.seqItemsR | apply Wp.itemsR | ((first
            | (refine WpItems.pcall ?_ ?_ (hat) ?_; (· simp only [go_sem, reduceIte, Nat.reduceEqDiff, Nat.reduceAdd, bx]); (· simp only [go_sem, reduceIte, Nat.reduceEqDiff, Nat.reduceAdd, bx, List.map]; exact fit))); apply WpItems.evR)); (· simp only [go_sem, reduceIte, Nat.reduceEqDiff, Nat.reduceAdd, bx, ax, if_true, if_false, Nat.reduceMul, Nat.reduceLeDiff, g4, g7, gs, gc, mfind_enc]; exact rfl))
        | (refine WpItems.nil ⟨?_, ?_⟩; (· first | trivial | simp [pairsQ, pairsOk, apart, ent0]))
        | (apply Wp.cond_lit; (· simp only [go_sem, reduceIte, Nat.reduceEqDiff, Nat.reduceAdd, bx, ax, if_true, if_false, Nat.reduceMul, Nat.reduceLeDiff, g4, g7, gs, gc, mfind_enc]; exact rfl); (· rfl))
        | refine Wp.skip ?_
        | refine Wp.label ?_
        | refine Wp.block ?_
        | refine Wp.exit ?_
        | refine Wp.seq ?_)
      exact ⟨_, (On.refl ok5).ends (VSub.refl _) trivial, rfl, fun j hj => by
        by_cases e : j = i
        · rw [e]; exact hb
        · exact hno j (by omega)⟩
  · rintro l1 n' m' on ⟨rfl, hno⟩
    have g8 := on.ok.sub (F := ob (n + 1 + 1) (.cells [.bool false])) (by simp) (n + 1 + 1) _ (by simp [ob_o]; rfl)
    have hz : sinceS S a b t = false := by
      rw [sinceS, List.any_eq_false]
      intro x hx
      obtain ⟨j, hj, rfl⟩ := List.mem_iff_getElem.1 hx
      have := hno j hj
      rw [getD_el hj] at this
      simp [this]
    rw [hz]
    show Wp _ _ _ _ _
    repeat (first
      | ((first | apply Wp.seqItemsR | apply Wp.itemsR); (· simp only [go_sem, reduceIte, Nat.reduceEqDiff, Nat.reduceAdd, bx, ax, if_true, if_false, Nat.reduceMul, Nat.reduceLeDiff, g8]; exact rfl))
      | (refine WpItems.nil ⟨?_, ?_⟩; (· first | trivial | simp [pairsQ, pairsOk, apart, ent0]))
      | (apply Wp.cond_lit; (· simp only [go_sem, reduceIte, Nat.reduceEqDiff, Nat.reduceAdd, bx, ax, if_true, if_false, Nat.reduceMul, Nat.reduceLeDiff, g8]; exact rfl); (· rfl))
      | refine Wp.skip ?_
      | refine Wp.label ?_
      | refine Wp.block ?_
      | refine Wp.exit ?_
      | refine Wp.seq ?_)
    refine Wp.ret ⟨trivial, .bool false, ?_, VSub.refl _, fun j hj => ?_, by simp⟩
    · simp [resOf, rvs, rv, go_sem, upd]
    · have q1 : j ≠ n := by omega
      have q2 : j ≠ n + 1 := by omega
      have q3 : j ≠ n + 1 + 1 := by omega
      simp [upd, lay, ob_o, q1, q2, q3]
  · rintro e l1 n' m' on ⟨rfl, rfl, hy⟩
    rw [hy]
    have g8 := on.ok.sub (F := ob (n + 1 + 1) (.cells [.bool true])) (by simp) (n + 1 + 1) _ (by simp [ob_o]; rfl)
    refine ⟨trivial, .bool true, ?_, VSub.refl _, fun j hj => ?_, by simp⟩
    · simp [resOf, rvs, rv, go_sem, g8]
    · have q1 : j ≠ n := by omega
      have q2 : j ≠ n + 1 := by omega
      have q3 : j ≠ n + 1 + 1 := by omega
      simp [lay, ob_o, q1, q2, q3]
end Go.Proofs.Ytpehfflehebmbaa.Space
end
section
set_option linter.unusedSimpArgs false
set_option linter.unusedVariables false
set_option maxRecDepth 10000
namespace Go.Proofs.Ytpehfflehebmbaa.Batch
open Go Go.Av Go.Proofs Go.Proofs.Ytpehfflehebmbaa.C
abbrev Bs := List UInt8
structure Pr where
  k : Bs
  v : Bs
  deriving DecidableEq
structure Ch where
  k : Bs
  v : Bs
  d : Bool
  deriving DecidableEq
instance : Inhabited Pr := ⟨⟨[], []⟩⟩
instance : Inhabited Ch := ⟨⟨[], [], false⟩⟩
def encPr (p : Pr) : AV := .agg [.str p.k, .str p.v]
def encCh (c : Ch) : AV := .agg [.str c.k, .str c.v, .bool c.d]
def prs (l : List Pr) : List AV := l.map encPr
def chs (l : List Ch) : List AV := l.map encCh
theorem prs_length (l : List Pr) : (prs l).length = l.length := by simp [prs]
theorem chs_length (l : List Ch) : (chs l).length = l.length := by simp [chs]
theorem prs_getD (l : List Pr) (k : Nat) (d : AV) (h : k < l.length) : (prs l).getD k d = encPr (l.getD k default) := by
  simp [prs, List.getD, List.getElem?_map, List.getElem?_eq_getElem h]
theorem chs_getD (l : List Ch) (k : Nat) (d : AV) (h : k < l.length) : (chs l).getD k d = encCh (l.getD k default) := by
  simp [chs, List.getD, List.getElem?_map, List.getElem?_eq_getElem h]
theorem allPure_map {α : Type} {f : α → AV} (h : ∀ x, isPure (f x) = true) : ∀ l : List α, allPure (l.map f) = true
  | [] => rfl
  | x :: l => by simp only [List.map_cons, allPure, h x, Bool.true_and]; exact allPure_map h l
theorem prs_pure (l : List Pr) : allPure (prs l) = true := allPure_map (fun x => by simp [encPr, isPure, allPure]) l
theorem chs_pure (l : List Ch) : allPure (chs l) = true := allPure_map (fun x => by simp [encCh, isPure, allPure]) l
end Go.Proofs.Ytpehfflehebmbaa.Batch
end
section
set_option linter.unusedSimpArgs false
set_option linter.unusedVariables false
set_option maxRecDepth 10000
namespace Go.Proofs.Ytpehfflehebmbaa.Space
open Go Go.Av Go.Proofs Go.Proofs.Ytpehfflehebmbaa.C Go.Proofs.Ytpehfflehebmbaa.Batch
def tellS (S : Spc) (t : Int) (k : Bs) : Option Pr := if (atB (mget S.L k) t).2 = true then some ⟨k, (atB (mget S.L k) t).1⟩ else none
def allS (S : Spc) (a b : Bs) (t : Int) : List Pr := (selK (keysOf S.L) a b).filterMap (tellS S t)
def cutL (most : Int) (l : List Pr) : List Pr := if most < 0 then l else l.take most.toNat
def scanB (S : Spc) (a b : Bs) (t most : Int) : List Pr × Int := if keptB S t = 0 then (cutL most (allS S a b t), 0) else ([], keptB S t)
theorem scan_g {s : Nat} {S : Spc} {F : Fr} (hF : SpcF s S F) (hr : RiseL S.L) (hS : Small S) (a b : Bs) (t most : Int) : GCalls Try.prog 17 [.ptr s 0, .str a, .str b, .int .i64 t, .int .i64 most] [F] (fun r l => r = .tup [.sl 2 (prs (scanB S a b t most).1) .any, .int .i64 (scanB S a b t most).2] ∧ l = [F]) := by
  obtain ⟨c, M, K, hM, hsc, hs, hc, hK⟩ := hF.go
  refine f17.gsame (by simp) fun n m ok => ?_
  unfold c17
  have hsn := ok.lt (by simp) hs
  have ksF : ks [F] = [] := by simp [ks, hF.k]
  rw [ksF] at ok ⊢
  refine Wp.seqReg (by simp only [go_sem, reduceIte, Nat.reduceEqDiff, Nat.reduceAdd, bx]; exact rfl) (by trivial) ?_
  simp only [upd_new]
  have ok3 := ((ok.more (.cells [.ptr s 0])).more (.cells [.int .i64 t])).more (.cells [.int .i64 most])
  have n1 : (n = n + 1) = False := by simp
  have n2 : (n = n + 1 + 1) = False := by simp; omega
  have n3 : (n + 1 = n + 1 + 1) = False := by simp
  have f5 := ok3.sub (F := ob n (.cells [.ptr s 0])) (by simp) n _ (by simp [ob_o]; rfl)
  have f8 := ok3.sub (F := ob (n + 1) (.cells [.int .i64 t])) (by simp) (n + 1) _ (by simp [ob_o]; rfl)
  by_cases h1 : keptB S t = 0
  · have d1 := decide_eq_true h1
    have okx := ok
    have ok := ok3
    refine Wp.seq ?_
    repeat (first
      | ((first | apply Wp.seqItemsR | apply Wp.itemsR | ((first
          | (refine WpItems.glook ?_ ?_ (kept_r hF t) (by first | exact fun j o h => h | exact ok.sub (by simp) | assumption) (fun ids => ?_); (· simp only [go_sem, reduceIte, Nat.reduceEqDiff, Nat.reduceAdd, bx]); (· simp only [go_sem, reduceIte, Nat.reduceEqDiff, Nat.reduceAdd, bx, List.map]; first | exact VSubs.refl _ | (repeat (first | exact VSubs.nil | refine VSubs.cons (by first | exact VSub.refl _ | assumption | exact VSub.cap | exact VSub.any _) ?_))))); apply WpItems.evR)); (· simp only [go_sem, reduceIte, Nat.reduceEqDiff, Nat.reduceAdd, bx, ax, if_true, if_false, Nat.reduceMul, Nat.reduceLeDiff, f5, f8, d1]; exact rfl))
      | (refine WpItems.nil ⟨?_, ?_⟩; (· first | trivial | simp [pairsQ, pairsOk, apart, ent0]))
      | (apply Wp.cond_lit; (· simp only [go_sem, reduceIte, Nat.reduceEqDiff, Nat.reduceAdd, bx, ax, if_true, if_false, Nat.reduceMul, Nat.reduceLeDiff, f5, f8, d1]; exact rfl); (· rfl))
      | refine Wp.skip ?_
      | refine Wp.label ?_
      | refine Wp.block ?_
      | refine Wp.exit ?_
      | refine Wp.seq ?_)
    rw [upd_newk (k := [m])]
    refine Wp.le (StLe.trans (StLe.tok _ _) (StLe.of (f' := lay [obk (n + 1 + 1 + 1) (.cells [.sl 2 [] (.own m)]) [m], ob (n + 1 + 1) (.cells [.int .i64 most]), ob (n + 1) (.cells [.int .i64 t]), ob n (.cells [.ptr s 0]), F]) (n' := n + 1 + 1 + 1 + 1) (m' := m + 1) (k' := [m]) (fun i => VSub.refl _) ?_ (by simp) (by simp) (by simp))) ?_
    · intro j o hj
      by_cases e : j = n + 1 + 1 + 1
      · subst e
        rw [lay_obk_at] at hj
        cases hj
        exact ⟨_, lay_obk_at _ _ _ _, VSubs.cons (VSub.own_of rfl) VSubs.nil⟩
      · rw [lay_obk_ne _ _ _ e] at hj
        exact ⟨o, (lay_obk_ne _ _ _ e).trans hj, OSub.refl _⟩
    have ok4 := ok3.more_k (.cells [.sl 2 [] (.own m)])
    have g5 := ok4.sub (F := ob n (.cells [.ptr s 0])) (by simp) n _ (by simp [ob_o]; rfl)
    repeat (first
      | ((first | apply Wp.seqItemsR | apply Wp.itemsR); (· simp only [go_sem, reduceIte, Nat.reduceEqDiff, Nat.reduceAdd, bx, ax, if_true, if_false, Nat.reduceMul, Nat.reduceLeDiff, g5]; exact rfl))
      | (refine WpItems.nil ⟨?_, ?_⟩; (· first | trivial | simp [pairsQ, pairsOk, apart, ent0]))
      | (apply Wp.cond_lit; (· simp only [go_sem, reduceIte, Nat.reduceEqDiff, Nat.reduceAdd, bx, ax, if_true, if_false, Nat.reduceMul, Nat.reduceLeDiff, g5]; exact rfl); (· rfl))
      | refine Wp.skip ?_
      | refine Wp.label ?_
      | refine Wp.block ?_
      | refine Wp.exit ?_
      | refine Wp.seq ?_)
    refine WpItems.gkeep [_, _, _, _] [] (by simp only [go_sem]) (by simp only [go_sem, reduceIte, Nat.reduceEqDiff, List.map]; exact VSubs.refl _) (between_g hF a b) hF.k ok4 fun n5 m5 ids hn5 hm5 ok5 => ?_
    refine WpItems.evR (by simp only [go_sem, reduceIte, Nat.reduceEqDiff, Nat.reduceAdd, bx]; exact rfl) ?_
    refine WpItems.nil ⟨by trivial, ?_⟩
    refine Wp.block ?_
    have hlen : (selK (keysOf S.L) a b).length ≤ 500000 := by
      have := (List.takeWhile_prefix (selP b) (l := (keysOf S.L).drop (plK (keysOf S.L) a))).length_le
      have hkl : (keysOf S.L).length = S.L.length := by simp [keysOf]
      rw [List.length_drop] at this
      have := hS.1
      unfold selK; omega
    have hz : (scanB S a b t most).2 = 0 := by rw [scanB, if_pos h1]
    refine loop_between hF hr hS.1 a b (by simp only [go_sem, reduceIte, Nat.reduceEqDiff]) ok5 (by simp [ks, hF.k, ob, obk]) (by simp)
      (fun i l => ∃ tk, l = [obk (n + 1 + 1 + 1) (.cells [.sl 2 (prs (((selK (keysOf S.L) a b).take i).filterMap (tellS S t))) (.own tk)]) [tk], ob (n + 1 + 1) (.cells [.int .i64 most]), ob (n + 1) (.cells [.int .i64 t]), ob n (.cells [.ptr s 0]), F] ∧ (most < 0 ∨ (((selK (keysOf S.L) a b).take i).filterMap (tellS S t)).length ≤ most.toNat))
      (fun e l => e = .exit 0 ∧ ∃ tk, l = [obk (n + 1 + 1 + 1) (.cells [.sl 2 (prs (scanB S a b t most).1) (.own tk)]) [tk], ob (n + 1 + 1) (.cells [.int .i64 most]), ob (n + 1) (.cells [.int .i64 t]), ob n (.cells [.ptr s 0]), F]) ?_ ⟨m, rfl, by simp⟩ ?_ ?_ ?_
    · rintro i l ⟨tk, rfl, -⟩; simp
    · rintro i l oo k1 k2 k3 hi ⟨tk, rfl, hmost⟩ hk1 ok6
      have hstep : ((selK (keysOf S.L) a b).take (i + 1)).filterMap (tellS S t) = ((selK (keysOf S.L) a b).take i).filterMap (tellS S t) ++ (tellS S t ((selK (keysOf S.L) a b).getD i [])).toList := by
        rw [take_snoc [] hi, List.filterMap_append]
        congr 1
      have holen : (((selK (keysOf S.L) a b).take i).filterMap (tellS S t)).length ≤ 500000 := by
        refine Nat.le_trans (List.length_filterMap_le _ _) ?_
        rw [List.length_take]; omega
      have hpre : ∃ x, allS S a b t = ((selK (keysOf S.L) a b).take i).filterMap (tellS S t) ++ x := ⟨((selK (keysOf S.L) a b).drop i).filterMap (tellS S t), by rw [← List.filterMap_append, List.take_append_drop]; rfl⟩
      have h13 := ok6.sub (F := obk (n + 1 + 1 + 1) (.cells [.sl 2 (prs (((selK (keysOf S.L) a b).take i).filterMap (tellS S t))) (.own tk)]) [tk]) (by simp) (n + 1 + 1 + 1) _ (by simp [obk_o]; rfl)
      generalize hO : ((selK (keysOf S.L) a b).take i).filterMap (tellS S t) = O at *
      generalize hq : (selK (keysOf S.L) a b).getD i [] = q at *
      have h5 := ok6.sub (F := ob n (.cells [.ptr s 0])) (by simp) n _ (by simp [ob_o]; rfl)
      have h8 := ok6.sub (F := ob (n + 1) (.cells [.int .i64 t])) (by simp) (n + 1) _ (by simp [ob_o]; rfl)
      have h9 := ok6.sub (F := ob (n + 1 + 1) (.cells [.int .i64 most])) (by simp) (n + 1 + 1) _ (by simp [ob_o]; rfl)
      have gs := ok6.sub (F := F) (by simp) _ _ hs
      have gc := ok6.sub (F := F) (by simp) _ _ hc
      have hat := at_p (mget S.L q) (by have := hS.2 q; omega) t
      have hl := look_sub M q
      rw [hM.eq] at hl
      unfold vAV at hl
      have fit : VSubs [lookAV (.sl 3 [] (.exact 0)) false (mres M q), .int .i64 t] [.sl 3 ((mget S.L q).map encV) .any, .int .i64 t] := VSubs.cons hl (VSubs.refl _)
      have hpl : (prs O).length = O.length := by simp [prs]
      have hks : ks [obk (n + 1 + 1 + 1) (.cells [.sl 2 (prs O) (.own tk)]) [tk], ob (n + 1 + 1) (.cells [.int .i64 most]), ob (n + 1) (.cells [.int .i64 t]), ob n (.cells [.ptr s 0]), F] = [tk] := by simp [ks, ob, obk, hF.k]
      rw [hks] at ok6 ⊢
      have rm1 : (O.length + 1) * 32 ≤ 140737488355328 := by omega
      have rm2 : O.length + 1 < 4611686018427387904 := by omega
      by_cases p0 : 0 ≤ most
      · have c0 := decide_eq_true p0
        by_cases p1 : most ≤ (O.length : Int)
        · have c1 := decide_eq_true p1
          refine Wp.block ?_
          repeat (first
            | ((first | apply Wp.seqItemsR | apply Wp.itemsR); (· simp only [go_sem, reduceIte, Nat.reduceEqDiff, Nat.reduceAdd, bx, ax, if_true, if_false, Nat.reduceMul, Nat.reduceLeDiff, h9, h13, hpl, c0, c1]; exact rfl))
            | (refine WpItems.nil ⟨?_, ?_⟩; (· first | trivial | simp [pairsQ, pairsOk, apart, ent0]))
            | (apply Wp.cond_lit; (· simp only [go_sem, reduceIte, Nat.reduceEqDiff, Nat.reduceAdd, bx, ax, if_true, if_false, Nat.reduceMul, Nat.reduceLeDiff, h9, h13, hpl, c0, c1]; exact rfl); (· rfl))
            | refine Wp.skip ?_
            | refine Wp.label ?_
            | refine Wp.block ?_
            | refine Wp.exit ?_
            | refine Wp.seq ?_)
          refine ⟨_, (On.refl ok6).ends (VSub.refl _) trivial, rfl, tk, ?_⟩
          obtain ⟨x, hx⟩ := hpre
          have : most.toNat = O.length := by omega
          rw [scanB, if_pos h1, cutL, if_neg (by omega), hx, this]
          simp
        · have c1 := decide_eq_false p1
          cases ha : (atB (mget S.L q) t).2 with
          | true =>
            rw [ha] at hat
            repeat (first
              | ((first | apply Wp.seqItemsR | apply Wp.itemsR | ((first
                  | (refine WpItems.pcall ?_ ?_ (hat) ?_; (· simp only [go_sem, reduceIte, Nat.reduceEqDiff, Nat.reduceAdd, bx]); (· simp only [go_sem, reduceIte, Nat.reduceEqDiff, Nat.reduceAdd, bx, List.map]; exact fit))); apply WpItems.evR)); (· simp only [go_sem, reduceIte, Nat.reduceEqDiff, Nat.reduceAdd, bx, ax, if_true, if_false, Nat.reduceMul, Nat.reduceLeDiff, h5, h8, h13, gs, gc, mfind_enc, h9, hpl, c0, c1, rm1, rm2, List.mem_singleton, List.length_cons, List.length_nil]; exact rfl))
              | (refine WpItems.nil ⟨?_, ?_⟩; (· first | trivial | simp [pairsQ, pairsOk, apart, ent0]))
              | (apply Wp.cond_lit; (· simp only [go_sem, reduceIte, Nat.reduceEqDiff, Nat.reduceAdd, bx, ax, if_true, if_false, Nat.reduceMul, Nat.reduceLeDiff, h5, h8, h13, gs, gc, mfind_enc, h9, hpl, c0, c1, rm1, rm2, List.mem_singleton, List.length_cons, List.length_nil]; exact rfl); (· rfl))
              | refine Wp.skip ?_
              | refine Wp.label ?_
              | refine Wp.block ?_
              | refine Wp.exit ?_
              | refine Wp.seq ?_)
            have e13 := Ok.upd_obk (A := [ob k1 oo]) (.cells [.sl 2 (prs (O ++ [⟨q, (atB (mget S.L q) t).1⟩])) (.own k3)]) [k3] ok6
            have on13 := On.put_obk (A := [ob k1 oo]) (o' := .cells [.sl 2 (prs (O ++ [⟨q, (atB (mget S.L q) t).1⟩])) (.own k3)]) ok6
            simp only [List.cons_append, List.nil_append, prs, List.map_append, List.map_cons, List.map_nil, encPr] at e13 on13
            have ft : (([tk] : List Nat).filter fun t => ![tk].contains t) = [] := by simp
            rw [ft] at on13
            refine ⟨[obk (n + 1 + 1 + 1) (.cells [.sl 2 (prs (O ++ [⟨q, (atB (mget S.L q) t).1⟩])) (.own k3)]) [k3], ob (n + 1 + 1) (.cells [.int .i64 most]), ob (n + 1) (.cells [.int .i64 t]), ob n (.cells [.ptr s 0]), F], ?_, k3, ?_, ?_⟩
            · simp only [prs, List.map_append, List.map_cons, List.map_nil, encPr]
              have := on13.ends (QQ := fun _ _ => True) (VSub.refl (.tup [])) trivial
              rw [← e13] at this
              exact this
            · rw [hstep, tellS, if_pos ha]; rfl
            · rw [hstep, tellS, if_pos ha]; simp only [Option.toList_some, List.length_append, List.length_cons, List.length_nil]; omega
          | false =>
            rw [ha] at hat
            repeat (first
              | ((first | apply Wp.seqItemsR | apply Wp.itemsR | ((first
                  | (refine WpItems.pcall ?_ ?_ (hat) ?_; (· simp only [go_sem, reduceIte, Nat.reduceEqDiff, Nat.reduceAdd, bx]); (· simp only [go_sem, reduceIte, Nat.reduceEqDiff, Nat.reduceAdd, bx, List.map]; exact fit))); apply WpItems.evR)); (· simp only [go_sem, reduceIte, Nat.reduceEqDiff, Nat.reduceAdd, bx, ax, if_true, if_false, Nat.reduceMul, Nat.reduceLeDiff, h5, h8, h13, gs, gc, mfind_enc, h9, hpl, c0, c1]; exact rfl))
              | (refine WpItems.nil ⟨?_, ?_⟩; (· first | trivial | simp [pairsQ, pairsOk, apart, ent0]))
              | (apply Wp.cond_lit; (· simp only [go_sem, reduceIte, Nat.reduceEqDiff, Nat.reduceAdd, bx, ax, if_true, if_false, Nat.reduceMul, Nat.reduceLeDiff, h5, h8, h13, gs, gc, mfind_enc, h9, hpl, c0, c1]; exact rfl); (· rfl))
              | refine Wp.skip ?_
              | refine Wp.label ?_
              | refine Wp.block ?_
              | refine Wp.exit ?_
              | refine Wp.seq ?_)
            refine ⟨_, (On.refl ok6).ends (VSub.refl _) trivial, tk, ?_, ?_⟩
            · rw [hstep, tellS, if_neg (by simp [ha])]; simp
            · rw [hstep, tellS, if_neg (by simp [ha])]; simpa using hmost
      · have c0 := decide_eq_false p0
        cases ha : (atB (mget S.L q) t).2 with
        | true =>
          rw [ha] at hat
          repeat (first
            | ((first | apply Wp.seqItemsR | apply Wp.itemsR | ((first
                | (refine WpItems.pcall ?_ ?_ (hat) ?_; (· simp only [go_sem, reduceIte, Nat.reduceEqDiff, Nat.reduceAdd, bx]); (· simp only [go_sem, reduceIte, Nat.reduceEqDiff, Nat.reduceAdd, bx, List.map]; exact fit))); apply WpItems.evR)); (· simp only [go_sem, reduceIte, Nat.reduceEqDiff, Nat.reduceAdd, bx, ax, if_true, if_false, Nat.reduceMul, Nat.reduceLeDiff, h5, h8, h13, gs, gc, mfind_enc, h9, hpl, c0, rm1, rm2, List.mem_singleton, List.length_cons, List.length_nil]; exact rfl))
            | (refine WpItems.nil ⟨?_, ?_⟩; (· first | trivial | simp [pairsQ, pairsOk, apart, ent0]))
            | (apply Wp.cond_lit; (· simp only [go_sem, reduceIte, Nat.reduceEqDiff, Nat.reduceAdd, bx, ax, if_true, if_false, Nat.reduceMul, Nat.reduceLeDiff, h5, h8, h13, gs, gc, mfind_enc, h9, hpl, c0, rm1, rm2, List.mem_singleton, List.length_cons, List.length_nil]; exact rfl); (· rfl))
            | refine Wp.skip ?_
            | refine Wp.label ?_
            | refine Wp.block ?_
            | refine Wp.exit ?_
            | refine Wp.seq ?_)
          have e13 := Ok.upd_obk (A := [ob k1 oo]) (.cells [.sl 2 (prs (O ++ [⟨q, (atB (mget S.L q) t).1⟩])) (.own k3)]) [k3] ok6
          have on13 := On.put_obk (A := [ob k1 oo]) (o' := .cells [.sl 2 (prs (O ++ [⟨q, (atB (mget S.L q) t).1⟩])) (.own k3)]) ok6
          simp only [List.cons_append, List.nil_append, prs, List.map_append, List.map_cons, List.map_nil, encPr] at e13 on13
          have ft : (([tk] : List Nat).filter fun t => ![tk].contains t) = [] := by simp
          rw [ft] at on13
          refine ⟨[obk (n + 1 + 1 + 1) (.cells [.sl 2 (prs (O ++ [⟨q, (atB (mget S.L q) t).1⟩])) (.own k3)]) [k3], ob (n + 1 + 1) (.cells [.int .i64 most]), ob (n + 1) (.cells [.int .i64 t]), ob n (.cells [.ptr s 0]), F], ?_, k3, ?_, ?_⟩
          · simp only [prs, List.map_append, List.map_cons, List.map_nil, encPr]
            have := on13.ends (QQ := fun _ _ => True) (VSub.refl (.tup [])) trivial
            rw [← e13] at this
            exact this
          · rw [hstep, tellS, if_pos ha]; rfl
          · rw [hstep, tellS, if_pos ha]; simp only [Option.toList_some, List.length_append, List.length_cons, List.length_nil]; omega
        | false =>
          rw [ha] at hat
          repeat (first
            | ((first | apply Wp.seqItemsR | apply Wp.itemsR | ((first
                | (refine WpItems.pcall ?_ ?_ (hat) ?_; (· simp only [go_sem, reduceIte, Nat.reduceEqDiff, Nat.reduceAdd, bx]); (· simp only [go_sem, reduceIte, Nat.reduceEqDiff, Nat.reduceAdd, bx, List.map]; exact fit))); apply WpItems.evR)); (· simp only [go_sem, reduceIte, Nat.reduceEqDiff, Nat.reduceAdd, bx, ax, if_true, if_false, Nat.reduceMul, Nat.reduceLeDiff, h5, h8, h13, gs, gc, mfind_enc, h9, hpl, c0]; exact rfl))
            | (refine WpItems.nil ⟨?_, ?_⟩; (· first | trivial | simp [pairsQ, pairsOk, apart, ent0]))
            | (apply Wp.cond_lit; (· simp only [go_sem, reduceIte, Nat.reduceEqDiff, Nat.reduceAdd, bx, ax, if_true, if_false, Nat.reduceMul, Nat.reduceLeDiff, h5, h8, h13, gs, gc, mfind_enc, h9, hpl, c0]; exact rfl); (· rfl))
            | refine Wp.skip ?_
            | refine Wp.label ?_
            | refine Wp.block ?_
            | refine Wp.exit ?_
            | refine Wp.seq ?_)
          refine ⟨_, (On.refl ok6).ends (VSub.refl _) trivial, tk, ?_, ?_⟩
          · rw [hstep, tellS, if_neg (by simp [ha])]; simp
          · rw [hstep, tellS, if_neg (by simp [ha])]; simpa using hmost
    · rintro l1 n' m' on ⟨tk, rfl, hmost⟩
      have hres : ((selK (keysOf S.L) a b).take (selK (keysOf S.L) a b).length).filterMap (tellS S t) = (scanB S a b t most).1 := by
        rw [List.take_length] at hmost ⊢
        rw [scanB, if_pos h1, cutL]
        split
        · rfl
        · rw [List.take_of_length_le]; rfl
          unfold allS; omega
      rw [hres] at on ⊢
      have h13 := on.ok.sub (F := obk (n + 1 + 1 + 1) (.cells [.sl 2 (prs (scanB S a b t most).1) (.own tk)]) [tk]) (by simp) (n + 1 + 1 + 1) _ (by simp [obk_o]; rfl)
      show Wp _ _ _ _ _
      repeat (first
        | ((first | apply Wp.seqItemsR | apply Wp.itemsR); (· simp only [go_sem, reduceIte, Nat.reduceEqDiff, Nat.reduceAdd, bx, ax, if_true, if_false, Nat.reduceMul, Nat.reduceLeDiff, h13]; exact rfl))
        | (refine WpItems.nil ⟨?_, ?_⟩; (· first | trivial | simp [pairsQ, pairsOk, apart, ent0]))
        | (apply Wp.cond_lit; (· simp only [go_sem, reduceIte, Nat.reduceEqDiff, Nat.reduceAdd, bx, ax, if_true, if_false, Nat.reduceMul, Nat.reduceLeDiff, h13]; exact rfl); (· rfl))
        | refine Wp.skip ?_
        | refine Wp.label ?_
        | refine Wp.block ?_
        | refine Wp.exit ?_
        | refine Wp.seq ?_)
      refine Wp.ret ⟨trivial, _, rfl, ?_, fun j hj => ?_, by simp⟩
      · rw [hz]; exact VSub.tup (VSubs.cons VSub.cap (VSubs.refl _))
      · have q1 : j ≠ n := by omega
        have q2 : j ≠ n + 1 := by omega
        have q3 : j ≠ n + 1 + 1 := by omega
        have q4 : j ≠ n + 1 + 1 + 1 := by omega
        simp [lay, ob_o, obk_o, q1, q2, q3, q4]
    · rintro e l1 n' m' on ⟨rfl, tk, rfl⟩
      have h13 := on.ok.sub (F := obk (n + 1 + 1 + 1) (.cells [.sl 2 (prs (scanB S a b t most).1) (.own tk)]) [tk]) (by simp) (n + 1 + 1 + 1) _ (by simp [obk_o]; rfl)
      show Wp _ _ _ _ _
      repeat (first
        | ((first | apply Wp.seqItemsR | apply Wp.itemsR); (· simp only [go_sem, reduceIte, Nat.reduceEqDiff, Nat.reduceAdd, bx, ax, if_true, if_false, Nat.reduceMul, Nat.reduceLeDiff, h13]; exact rfl))
        | (refine WpItems.nil ⟨?_, ?_⟩; (· first | trivial | simp [pairsQ, pairsOk, apart, ent0]))
        | (apply Wp.cond_lit; (· simp only [go_sem, reduceIte, Nat.reduceEqDiff, Nat.reduceAdd, bx, ax, if_true, if_false, Nat.reduceMul, Nat.reduceLeDiff, h13]; exact rfl); (· rfl))
        | refine Wp.skip ?_
        | refine Wp.label ?_
        | refine Wp.block ?_
        | refine Wp.exit ?_
        | refine Wp.seq ?_)
      refine Wp.ret ⟨trivial, _, rfl, ?_, fun j hj => ?_, by simp⟩
      · rw [hz]; exact VSub.tup (VSubs.cons VSub.cap (VSubs.refl _))
      · have q1 : j ≠ n := by omega
        have q2 : j ≠ n + 1 := by omega
        have q3 : j ≠ n + 1 + 1 := by omega
        have q4 : j ≠ n + 1 + 1 + 1 := by omega
        simp [lay, ob_o, obk_o, q1, q2, q3, q4]
  · have d1 := decide_eq_false h1
    have okx := ok
    have ok := ok3
    refine Wp.seq ?_
    repeat (first
      | ((first | apply Wp.seqItemsR | apply Wp.itemsR | ((first
          | (refine WpItems.glook ?_ ?_ (kept_r hF t) (by first | exact fun j o h => h | exact ok.sub (by simp) | assumption) (fun ids => ?_); (· simp only [go_sem, reduceIte, Nat.reduceEqDiff, Nat.reduceAdd, bx]); (· simp only [go_sem, reduceIte, Nat.reduceEqDiff, Nat.reduceAdd, bx, List.map]; first | exact VSubs.refl _ | (repeat (first | exact VSubs.nil | refine VSubs.cons (by first | exact VSub.refl _ | assumption | exact VSub.cap | exact VSub.any _) ?_))))); apply WpItems.evR)); (· simp only [go_sem, reduceIte, Nat.reduceEqDiff, Nat.reduceAdd, bx, ax, if_true, if_false, Nat.reduceMul, Nat.reduceLeDiff, f5, f8, d1]; exact rfl))
      | (refine WpItems.nil ⟨?_, ?_⟩; (· first | trivial | simp [pairsQ, pairsOk, apart, ent0]))
      | (apply Wp.cond_lit; (· simp only [go_sem, reduceIte, Nat.reduceEqDiff, Nat.reduceAdd, bx, ax, if_true, if_false, Nat.reduceMul, Nat.reduceLeDiff, f5, f8, d1]; exact rfl); (· rfl))
      | refine Wp.skip ?_
      | refine Wp.label ?_
      | refine Wp.block ?_
      | refine Wp.exit ?_
      | refine Wp.seq ?_)
    refine Wp.ret ⟨trivial, _, rfl, ?_, fun j hj => ?_, by simp⟩
    · rw [scanB, if_neg h1]; exact VSub.tup (VSubs.cons VSub.cap (VSubs.refl _))
    · have q1 : j ≠ n := by omega
      have q2 : j ≠ n + 1 := by omega
      have q3 : j ≠ n + 1 + 1 := by omega
      simp [lay, ob_o, q1, q2, q3]
end Go.Proofs.Ytpehfflehebmbaa.Space
end
section
set_option linter.unusedSimpArgs false
set_option linter.unusedVariables false
set_option maxRecDepth 10000
namespace Go.Proofs.Ytpehfflehebmbaa.Space
open Go Go.Av Go.Proofs Go.Proofs.Ytpehfflehebmbaa.C Go.Proofs.Ytpehfflehebmbaa.Batch
def encE (E : List (Bs × Nat)) : List (AV × AV) := E.map fun p => (.str p.1, .int .i64 (p.2 : Nat))
theorem fE_no (q : Bs) : ∀ E : List (Bs × Nat), q ∉ E.map (·.1) → mfind q (encE E) = some none
  | [], _ => rfl
  | p :: E, h => by
    simp only [List.map_cons, List.mem_cons, not_or] at h
    have ih := fE_no q E h.2
    simp only [encE, List.map_cons, mfind] at ih ⊢
    rw [if_neg (fun e => h.1 e.symm), ih]; rfl
theorem fE_yes (q : Bs) : ∀ E : List (Bs × Nat), q ∈ E.map (·.1) → ∃ p, mfind q (encE E) = some (some p)
  | [], h => by simp at h
  | p :: E, h => by
    by_cases e : p.1 = q
    · exact ⟨(0, .int .i64 (p.2 : Nat)), by simp only [encE, List.map_cons, mfind, if_pos e]⟩
    · simp only [List.map_cons, List.mem_cons] at h
      obtain ⟨r, hr⟩ := fE_yes q E (h.resolve_left fun e' => e e'.symm)
      refine ⟨(r.1 + 1, r.2), ?_⟩
      simp only [encE, List.map_cons, mfind] at hr ⊢
      rw [if_neg e, hr]; rfl
def fitAt (l : List Ch) (i : Nat) : Bool := !decide ((l.getD i default).k ∈ (l.take i).map (·.k)) && decide (((l.getD i default).k.length : Int) ≤ 128) && decide (((l.getD i default).v.length : Int) ≤ 200) && (!(l.getD i default).d || decide ((l.getD i default).v = []))
def fitB (l : List Ch) : Bool := (List.range l.length).all (fitAt l)
theorem fit_p (l : List Ch) (hl : l.length ≤ 1000000) : PCalls Try.prog 53 [.sl 3 (chs l) .any] (.bool (fitB l)) := by
  refine f53.pcalls0 (by simp) (by simp [allPure, isPure, capPure, chs_pure]) rfl ?_
  unfold c53
  repeat (first
    | ((first | apply Wp.seqItemsR | apply Wp.itemsR); (· simp only [go_sem, reduceIte, Nat.reduceEqDiff, Nat.reduceAdd, bx, ax, if_true, if_false, Nat.reduceMul, Nat.reduceLeDiff, chs_length]; exact rfl))
    | (refine WpItems.nil ⟨?_, ?_⟩; (· first | trivial | simp [pairsQ, pairsOk, apart, ent0]))
    | (apply Wp.cond_lit; (· simp only [go_sem, reduceIte, Nat.reduceEqDiff, Nat.reduceAdd, bx, ax, if_true, if_false, Nat.reduceMul, Nat.reduceLeDiff, chs_length]; exact rfl); (· rfl))
    | refine Wp.skip ?_
    | refine Wp.label ?_
    | refine Wp.block ?_
    | refine Wp.exit ?_
    | refine Wp.seq ?_)
  refine Wp.loopH (β := Nat × List (Bs × Nat) × Nat) [3, 9, 10] (by simp only [go_sem, reduceIte, Nat.reduceEqDiff, List.map, chs_length]; exact rfl) (fun j => [(11, .int .i64 (j.1 : Nat))]) (fun j => ⟨upd none' 0 (some (.map (encE j.2.1))), j.2.2, [], 0⟩) (fun j => j.1 ≤ l.length ∧ j.2.1.map (·.1) = (l.take j.1).map (·.k) ∧ 1 ≤ j.2.2 ∧ ∀ i, i < j.1 → fitAt l i = true) (fun j => l.length - j.1) (0, [], 1) ⟨Nat.zero_le _, rfl, Nat.le_refl _, fun i h => absurd h (by omega)⟩ rfl ?_ ?_
  · simp only [AllSub, go_sem, reduceIte, Nat.reduceEqDiff, Nat.reduceAdd, bx]; and_intros <;> first | exact trivial | exact VSub.refl _ | exact VSub.any _ | (refine VSub.int ?_; omega)
  rintro ⟨j, E, n⟩ ⟨hj, hE, hn, hs⟩
  simp only at hj hE hn hs ⊢
  by_cases hcj : j < l.length
  · have g1 : decide (((j : Nat) : Int) < ((l.length : Nat) : Int)) = true := decide_eq_true (by omega)
    have h2 : (0 : Int) ≤ ((j : Nat) : Int) := by omega
    have h3 : ((j : Nat) : Int) < ((l.length : Nat) : Int) := by omega
    have e1 : IntKind.i64.wrap (((j : Nat) : Int) + 1) = ((j + 1 : Nat) : Int) := by rw [IntWalk.i64_in _ (by omega)]; omega
    have hat := chs_getD l j .any hcj
    have a1 : (0 = n) = False := by simp; omega
    have a2 : (n = 0) = False := by simp; omega
    generalize hx : l.getD j default = x at *
    by_cases ht : x.k ∈ E.map (·.1)
    · obtain ⟨p, hp⟩ := fE_yes x.k E ht
      repeat (first
        | ((first | apply Wp.seqItemsR | apply Wp.itemsR); (· simp only [go_sem, reduceIte, Nat.reduceEqDiff, Nat.reduceAdd, bx, ax, if_true, if_false, Nat.reduceMul, Nat.reduceLeDiff, g1, h2, h3, hat, encCh, a1, a2, hp, chs_length]; exact rfl))
        | (refine WpItems.nil ⟨?_, ?_⟩; (· first | trivial | simp [pairsQ, pairsOk, apart, ent0]))
        | (apply Wp.cond_lit; (· simp only [go_sem, reduceIte, Nat.reduceEqDiff, Nat.reduceAdd, bx, ax, if_true, if_false, Nat.reduceMul, Nat.reduceLeDiff, g1, h2, h3, hat, encCh, a1, a2, hp, chs_length]; exact rfl); (· rfl))
        | refine Wp.skip ?_
        | refine Wp.label ?_
        | refine Wp.block ?_
        | refine Wp.exit ?_
        | refine Wp.seq ?_)
      refine Wp.ret ⟨trivial, _, rfl, ?_⟩
      simp only [go_sem, reduceIte, Nat.reduceEqDiff, Nat.reduceAdd, bx]
      rw [fitB, all_no hcj (by rw [fitAt, hx, ← hE, decide_eq_true ht]; rfl)]
      exact VSub.refl _
    · have hp := fE_no x.k E ht
      repeat (first
        | ((first | apply Wp.seqItemsR | apply Wp.itemsR); (· simp only [go_sem, reduceIte, Nat.reduceEqDiff, Nat.reduceAdd, bx, ax, if_true, if_false, Nat.reduceMul, Nat.reduceLeDiff, g1, h2, h3, hat, encCh, a1, a2, hp, chs_length]; exact rfl))
        | (refine WpItems.nil ⟨?_, ?_⟩; (· first | trivial | simp [pairsQ, pairsOk, apart, ent0]))
        | (apply Wp.cond_lit; (· simp only [go_sem, reduceIte, Nat.reduceEqDiff, Nat.reduceAdd, bx, ax, if_true, if_false, Nat.reduceMul, Nat.reduceLeDiff, g1, h2, h3, hat, encCh, a1, a2, hp, chs_length]; exact rfl); (· rfl))
        | refine Wp.skip ?_
        | refine Wp.label ?_
        | refine Wp.block ?_
        | refine Wp.exit ?_
        | refine Wp.seq ?_)
      repeat' (first
        | (refine WpItems.nil ⟨?_, ?_⟩; (· first | trivial | simp [pairsQ, pairsOk, apart, ent0]))
        | (apply WpItems.evU; (· simp only [go_sem, reduceIte, Nat.reduceEqDiff, Nat.reduceAdd, bx, ax, if_true, if_false, Nat.reduceMul, Nat.reduceLeDiff, a1, a2, e1, hp, putEs, encCh, List.length_map]; exact rfl); (· simp only [go_sem, reduceIte, Nat.reduceEqDiff, Nat.reduceAdd, bx, ax, if_true, if_false, Nat.reduceMul, Nat.reduceLeDiff, a1, a2, e1, hp, putEs, encCh, List.length_map]; exact rfl))
        | (apply WpItems.part 1; (· simp only [go_sem, reduceIte, Nat.reduceEqDiff, Nat.reduceAdd, bx, ax, if_true, if_false, Nat.reduceMul, Nat.reduceLeDiff, a1, a2, e1, hp, putEs, encCh, List.length_map]; exact rfl); (try simp only [List.drop_succ_cons, List.drop_zero, List.drop_nil]))
        | (refine WpItems.gsplit_dec (p := ?_) ?_ (fun hc => ?_) (fun hc => ?_); rotate_left; (· simp only [go_sem, reduceIte, Nat.reduceEqDiff, Nat.reduceAdd, bx, ax, if_true, if_false, Nat.reduceMul, Nat.reduceLeDiff, a1, a2, e1, hp, putEs, encCh, List.length_map]; exact rfl))
        | (refine WpItems.gsplit_ndec (p := ?_) ?_ (fun hc => ?_) (fun hc => ?_); rotate_left; (· simp only [go_sem, reduceIte, Nat.reduceEqDiff, Nat.reduceAdd, bx, ax, if_true, if_false, Nat.reduceMul, Nat.reduceLeDiff, a1, a2, e1, hp, putEs, encCh, List.length_map]; exact rfl))
        | (refine WpItems.gsplit (b := ?_) ?_ (fun hc => ?_) (fun hc => ?_); rotate_left; (· simp only [go_sem, reduceIte, Nat.reduceEqDiff, Nat.reduceAdd, bx, ax, if_true, if_false, Nat.reduceMul, Nat.reduceLeDiff, a1, a2, e1, hp, putEs, encCh, List.length_map]; exact rfl))
        | refine Wp.seqRegS ?_
        | refine Wp.regS ?_
        | (refine Wp.cond_true ?_ ?_; (· simp only [go_sem, reduceIte, Nat.reduceEqDiff, Nat.reduceAdd, bx, ax, if_true, if_false, Nat.reduceMul, Nat.reduceLeDiff, a1, a2, e1, hp, putEs, encCh, List.length_map]))
        | (refine Wp.cond_false ?_ ?_; (· simp only [go_sem, reduceIte, Nat.reduceEqDiff, Nat.reduceAdd, bx, ax, if_true, if_false, Nat.reduceMul, Nat.reduceLeDiff, a1, a2, e1, hp, putEs, encCh, List.length_map]))
        | (refine Wp.cond_dec (p := ?_) ?_ (fun hc => ?_) (fun hc => ?_); rotate_left; (· simp only [go_sem, reduceIte, Nat.reduceEqDiff, Nat.reduceAdd, bx, ax, if_true, if_false, Nat.reduceMul, Nat.reduceLeDiff, a1, a2, e1, hp, putEs, encCh, List.length_map]; exact rfl))
        | (refine Wp.cond_ndec (p := ?_) ?_ (fun hc => ?_) (fun hc => ?_); rotate_left; (· simp only [go_sem, reduceIte, Nat.reduceEqDiff, Nat.reduceAdd, bx, ax, if_true, if_false, Nat.reduceMul, Nat.reduceLeDiff, a1, a2, e1, hp, putEs, encCh, List.length_map]; exact rfl))
        | (refine Wp.cond_split (b := ?_) ?_ (fun hc => ?_) (fun hc => ?_); rotate_left; (· simp only [go_sem, reduceIte, Nat.reduceEqDiff, Nat.reduceAdd, bx, ax, if_true, if_false, Nat.reduceMul, Nat.reduceLeDiff, a1, a2, e1, hp, putEs, encCh, List.length_map]; exact rfl))
        | refine Wp.skip ?_
        | refine Wp.label ?_
        | refine Wp.block ?_
        | refine Wp.exit ?_
        | refine Wp.seq ?_)
      any_goals
        refine Wp.ret ⟨trivial, _, rfl, ?_⟩
        rw [fitB, all_no hcj (by rw [fitAt, hx]; first | (simp_all; done) | (simp_all; intros; exfalso; omega))]
        exact VSub.refl _
      all_goals
        refine ⟨(j + 1, E ++ [(x.k, j)], n + 1), ⟨by simp only; omega, ?_, by simp only; omega, all_step hs ?_⟩, by simp only; omega, ?_⟩
        · simp only [List.map_append, hE, take_snoc default hcj, hx, List.map_cons, List.map_nil]
        · rw [fitAt, hx]; simp_all
        · simp only [encE, List.map_append, List.map_cons, List.map_nil]
          refine StLe.tmN (by omega) (OLe.at (by simp [upd, none', a1, a2])) (by simp only [AllSub, go_sem, reduceIte, Nat.reduceEqDiff, Nat.reduceAdd, bx, a1, a2]; and_intros <;> first | exact trivial | exact VSub.refl _ | exact VSub.any _ | (refine VSub.int ?_; omega))
  · have hje : j = l.length := by omega
    subst hje
    have g1 : decide (((l.length : Nat) : Int) < ((l.length : Nat) : Int)) = false := decide_eq_false (by omega)
    repeat (first
      | ((first | apply Wp.seqItemsR | apply Wp.itemsR); (· simp only [go_sem, reduceIte, Nat.reduceEqDiff, Nat.reduceAdd, bx, ax, if_true, if_false, Nat.reduceMul, Nat.reduceLeDiff, g1]; exact rfl))
      | (refine WpItems.nil ⟨?_, ?_⟩; (· first | trivial | simp [pairsQ, pairsOk, apart, ent0]))
      | (apply Wp.cond_lit; (· simp only [go_sem, reduceIte, Nat.reduceEqDiff, Nat.reduceAdd, bx, ax, if_true, if_false, Nat.reduceMul, Nat.reduceLeDiff, g1]; exact rfl); (· rfl))
      | refine Wp.skip ?_
      | refine Wp.label ?_
      | refine Wp.block ?_
      | refine Wp.exit ?_
      | refine Wp.seq ?_)
    refine Wp.ret ⟨trivial, _, rfl, ?_⟩
    simp only [go_sem, reduceIte, Nat.reduceEqDiff, Nat.reduceAdd, bx]
    rw [fitB, all_yes hs]
    exact VSub.refl _
end Go.Proofs.Ytpehfflehebmbaa.Space
end
section
set_option linter.unusedSimpArgs false
set_option linter.unusedVariables false
set_option maxRecDepth 10000
namespace Go.Proofs.Ytpehfflehebmbaa.Space
open Go Go.Av Go.Proofs Go.Proofs.Ytpehfflehebmbaa.C Go.Proofs.Ytpehfflehebmbaa.Batch
def stepS (t : Int) (S : Spc) (c : Ch) : Spc := setS S c.k (addB (mget S.L c.k) ⟨t, c.v, c.d⟩).1
def doS (t : Int) (S : Spc) (l : List Ch) : Spc := l.foldl (stepS t) S
def applyB (S : Spc) (t : Int) (l : List Ch) : Spc × Int := if t ≤ S.last ∨ 1152921504606846976 < t then (S, 18) else if fitB l = false then (S, 2) else ({ doS t S l with last := t }, 0)
def Room (S : Spc) (k : Nat) : Prop := S.L.length + k ≤ 500000 ∧ ∀ q, (mget S.L q).length + k ≤ 500000
theorem add_len (v : List Ver) (x : Ver) : (addB v x).1.length ≤ v.length + 1 := by
  unfold addB; split
  · simp
  · split
    · simp
    · split <;> simp
theorem setL_len (L : List It) (q : Bs) (v : List Ver) : (setL L q v).length ≤ L.length + 1 := by
  have := plK_le (keysOf L) q
  have hk : (keysOf L).length = L.length := by simp [keysOf]
  unfold setL
  split
  · split <;> simp <;> omega
  · split <;> simp <;> omega
theorem Room.step {S : Spc} {k : Nat} (h : Room S (k + 1)) (hr : RiseL S.L) (t : Int) (c : Ch) : Room (stepS t S c) k := by
  refine ⟨?_, fun q => ?_⟩
  · have := setL_len S.L c.k (addB (mget S.L c.k) ⟨t, c.v, c.d⟩).1
    have := h.1
    show (setL _ _ _).length + k ≤ _
    omega
  · show (mget (setL _ _ _) q).length + k ≤ _
    rw [setL_get hr]
    split
    · have := add_len (mget S.L c.k) ⟨t, c.v, c.d⟩
      have := h.2 c.k
      omega
    · have := h.2 q; omega
theorem do_ok (t : Int) : ∀ (l : List Ch) (S : Spc) (k : Nat), RiseL S.L → Room S (l.length + k) → RiseL (doS t S l).L ∧ Room (doS t S l) k
  | [], S, k, hr, h => ⟨hr, by rw [List.length_nil, Nat.zero_add] at h; exact h⟩
  | c :: l, S, k, hr, h => by
    have h' : Room S ((l.length + k) + 1) := by
      have e : l.length + k + 1 = (c :: l).length + k := by simp only [List.length_cons]; omega
      rw [e]; exact h
    exact do_ok t l (stepS t S c) k (setL_rise hr _ _) (h'.step hr t c)
theorem do_snoc (t : Int) (S : Spc) (l : List Ch) {j : Nat} (h : j < l.length) : doS t S (l.take (j + 1)) = stepS t (doS t S (l.take j)) (l.getD j default) := by
  rw [take_snoc default h, doS, List.foldl_append]; rfl
theorem SpcF.times {s : Nat} {S : Spc} {F : Fr} (hF : SpcF s S F) {K : AV} {c : Nat} {a b : Int} (hs : F.o s = some (.cells [K, .mp c, .int .i64 a, .int .i64 b])) (last mark : Int) : SpcF s { S with last := last, mark := mark } ⟨upd F.o s (some (.cells [K, .mp c, .int .i64 last, .int .i64 mark])), F.k⟩ := by
  obtain ⟨c', M, K', hM, hsc, hs', hc, hK⟩ := hF.go
  rw [hs'] at hs
  simp only [Option.some.injEq, Obj.cells.injEq, List.cons.injEq, AV.mp.injEq, AV.int.injEq, true_and, and_true] at hs
  obtain ⟨rfl, rfl, -, -⟩ := hs
  refine ⟨⟨c, M, K, hM, hsc, by simp [upd], ?_, ?_⟩, hF.k, ?_⟩
  · simp only [upd]; rw [if_neg (Ne.symm hsc)]; exact hc
  · rcases hK with ⟨h1, h2⟩ | ⟨k, h1, h2, h3, h4⟩
    · exact .inl ⟨h1, h2⟩
    · exact .inr ⟨k, h1, by simp only [upd]; rw [if_neg h3]; exact h2, h3, h4⟩
  · obtain ⟨ids, hi⟩ := hF.fin
    refine ⟨s :: ids, fun id h => ?_⟩
    simp only [upd] at h
    split at h
    · rename_i e; simp [e]
    · exact List.mem_cons_of_mem _ (hi id h)
set_option maxHeartbeats 1000000 in
theorem apply_g {s : Nat} {S : Spc} {F : Fr} (hF : SpcF s S F) (hr : RiseL S.L) (t : Int) (l : List Ch) (hl : l.length ≤ 1000000) (hR : Room S l.length) : GCalls Try.prog 15 [.ptr s 0, .int .i64 t, .sl 3 (chs l) .any] [F] (fun r L => r = .int .i64 (applyB S t l).2 ∧ ∃ F', L = [F'] ∧ SpcF s (applyB S t l).1 F') := by
  obtain ⟨c, M, K, hM, hsc, hs, hc, hK⟩ := hF.go
  refine f15.gcalls (by simp) fun n m ok => ?_
  unfold c15
  have fs := ok.at0 hs
  have stop : ∀ (e : Int), applyB S t l = (S, e) → ∃ r l', Av.Ends [F] n m (fun r L => r = .int .i64 (applyB S t l).2 ∧ ∃ F', L = [F'] ∧ SpcF s (applyB S t l).1 F') (.int .i64 e) ⟨lay [F], n, ks [F], m⟩ r l' := by
    intro e h
    rw [h]
    exact ⟨_, _, (On.refl ok).ends (VSub.refl _) ⟨rfl, F, rfl, hF⟩⟩
  by_cases p1 : t ≤ S.last
  · have d1 := decide_eq_true p1
    repeat (first
      | ((first | apply Wp.seqItemsR | apply Wp.itemsR | ((first
          | (refine WpItems.glook ?_ ?_ (made_r hF) (by first | exact fun j o h => h | exact ok.sub (by simp) | assumption) (fun ids => ?_); (· simp only [go_sem, reduceIte, Nat.reduceEqDiff, Nat.reduceAdd, bx]); (· simp only [go_sem, reduceIte, Nat.reduceEqDiff, Nat.reduceAdd, bx, List.map]; first | exact VSubs.refl _ | (repeat (first | exact VSubs.nil | refine VSubs.cons (by first | exact VSub.refl _ | assumption | exact VSub.cap | exact VSub.any _) ?_))))); apply WpItems.evR)); (· simp only [go_sem, reduceIte, Nat.reduceEqDiff, Nat.reduceAdd, bx, ax, if_true, if_false, Nat.reduceMul, Nat.reduceLeDiff, fs, d1]; exact rfl))
      | (refine WpItems.nil ⟨?_, ?_⟩; (· first | trivial | simp [pairsQ, pairsOk, apart, ent0]))
      | (apply Wp.cond_lit; (· simp only [go_sem, reduceIte, Nat.reduceEqDiff, Nat.reduceAdd, bx, ax, if_true, if_false, Nat.reduceMul, Nat.reduceLeDiff, fs, d1]; exact rfl); (· rfl))
      | refine Wp.skip ?_
      | refine Wp.label ?_
      | refine Wp.block ?_
      | refine Wp.exit ?_
      | refine Wp.seq ?_)
    exact Wp.ret ⟨trivial, _, rfl, stop 18 (by rw [applyB, if_pos (.inl p1)])⟩
  · have d1 := decide_eq_false p1
    by_cases p2 : 1152921504606846976 < t
    · have d2 := decide_eq_true p2
      repeat (first
        | ((first | apply Wp.seqItemsR | apply Wp.itemsR | ((first
            | (refine WpItems.glook ?_ ?_ (made_r hF) (by first | exact fun j o h => h | exact ok.sub (by simp) | assumption) (fun ids => ?_); (· simp only [go_sem, reduceIte, Nat.reduceEqDiff, Nat.reduceAdd, bx]); (· simp only [go_sem, reduceIte, Nat.reduceEqDiff, Nat.reduceAdd, bx, List.map]; first | exact VSubs.refl _ | (repeat (first | exact VSubs.nil | refine VSubs.cons (by first | exact VSub.refl _ | assumption | exact VSub.cap | exact VSub.any _) ?_))))); apply WpItems.evR)); (· simp only [go_sem, reduceIte, Nat.reduceEqDiff, Nat.reduceAdd, bx, ax, if_true, if_false, Nat.reduceMul, Nat.reduceLeDiff, fs, d1, d2]; exact rfl))
        | (refine WpItems.nil ⟨?_, ?_⟩; (· first | trivial | simp [pairsQ, pairsOk, apart, ent0]))
        | (apply Wp.cond_lit; (· simp only [go_sem, reduceIte, Nat.reduceEqDiff, Nat.reduceAdd, bx, ax, if_true, if_false, Nat.reduceMul, Nat.reduceLeDiff, fs, d1, d2]; exact rfl); (· rfl))
        | refine Wp.skip ?_
        | refine Wp.label ?_
        | refine Wp.block ?_
        | refine Wp.exit ?_
        | refine Wp.seq ?_)
      exact Wp.ret ⟨trivial, _, rfl, stop 18 (by rw [applyB, if_pos (.inr p2)])⟩
    · have d2 := decide_eq_false p2
      have hfit := fit_p l hl
      cases hf : fitB l with
      | false =>
        rw [hf] at hfit
        repeat (first
          | ((first | apply Wp.seqItemsR | apply Wp.itemsR | ((first
              | (refine WpItems.glook ?_ ?_ (made_r hF) (by first | exact fun j o h => h | exact ok.sub (by simp) | assumption) (fun ids => ?_); (· simp only [go_sem, reduceIte, Nat.reduceEqDiff, Nat.reduceAdd, bx]); (· simp only [go_sem, reduceIte, Nat.reduceEqDiff, Nat.reduceAdd, bx, List.map]; first | exact VSubs.refl _ | (repeat (first | exact VSubs.nil | refine VSubs.cons (by first | exact VSub.refl _ | assumption | exact VSub.cap | exact VSub.any _) ?_))))
              | (refine WpItems.pcall ?_ ?_ (hfit) ?_; (· simp only [go_sem, reduceIte, Nat.reduceEqDiff, Nat.reduceAdd, bx]); (· simp only [go_sem, reduceIte, Nat.reduceEqDiff, Nat.reduceAdd, bx, List.map]; first | exact VSubs.refl _ | (repeat (first | exact VSubs.nil | refine VSubs.cons (by first | exact VSub.refl _ | assumption | exact VSub.cap | exact VSub.any _) ?_))))); apply WpItems.evR)); (· simp only [go_sem, reduceIte, Nat.reduceEqDiff, Nat.reduceAdd, bx, ax, if_true, if_false, Nat.reduceMul, Nat.reduceLeDiff, fs, d1, d2]; exact rfl))
          | (refine WpItems.nil ⟨?_, ?_⟩; (· first | trivial | simp [pairsQ, pairsOk, apart, ent0]))
          | (apply Wp.cond_lit; (· simp only [go_sem, reduceIte, Nat.reduceEqDiff, Nat.reduceAdd, bx, ax, if_true, if_false, Nat.reduceMul, Nat.reduceLeDiff, fs, d1, d2]; exact rfl); (· rfl))
          | refine Wp.skip ?_
          | refine Wp.label ?_
          | refine Wp.block ?_
          | refine Wp.exit ?_
          | refine Wp.seq ?_)
        exact Wp.ret ⟨trivial, _, rfl, stop 2 (by rw [applyB, if_neg (by omega), if_pos hf])⟩
      | true =>
        rw [hf] at hfit
        repeat (first
          | ((first | apply Wp.seqItemsR | apply Wp.itemsR | ((first
              | (refine WpItems.glook ?_ ?_ (made_r hF) (by first | exact fun j o h => h | exact ok.sub (by simp) | assumption) (fun ids => ?_); (· simp only [go_sem, reduceIte, Nat.reduceEqDiff, Nat.reduceAdd, bx]); (· simp only [go_sem, reduceIte, Nat.reduceEqDiff, Nat.reduceAdd, bx, List.map]; first | exact VSubs.refl _ | (repeat (first | exact VSubs.nil | refine VSubs.cons (by first | exact VSub.refl _ | assumption | exact VSub.cap | exact VSub.any _) ?_))))
              | (refine WpItems.pcall ?_ ?_ (hfit) ?_; (· simp only [go_sem, reduceIte, Nat.reduceEqDiff, Nat.reduceAdd, bx]); (· simp only [go_sem, reduceIte, Nat.reduceEqDiff, Nat.reduceAdd, bx, List.map]; first | exact VSubs.refl _ | (repeat (first | exact VSubs.nil | refine VSubs.cons (by first | exact VSub.refl _ | assumption | exact VSub.cap | exact VSub.any _) ?_))))); apply WpItems.evR)); (· simp only [go_sem, reduceIte, Nat.reduceEqDiff, Nat.reduceAdd, bx, ax, if_true, if_false, Nat.reduceMul, Nat.reduceLeDiff, fs, d1, d2, chs_length]; exact rfl))
          | (refine WpItems.nil ⟨?_, ?_⟩; (· first | trivial | simp [pairsQ, pairsOk, apart, ent0]))
          | (apply Wp.cond_lit; (· simp only [go_sem, reduceIte, Nat.reduceEqDiff, Nat.reduceAdd, bx, ax, if_true, if_false, Nat.reduceMul, Nat.reduceLeDiff, fs, d1, d2, chs_length]; exact rfl); (· rfl))
          | refine Wp.skip ?_
          | refine Wp.label ?_
          | refine Wp.block ?_
          | refine Wp.exit ?_
          | refine Wp.seq ?_)
        refine Wp.loopG (β := Nat) [0, 1, 30, 31] (by simp only [go_sem, reduceIte, Nat.reduceEqDiff, List.map, chs_length]; exact rfl) (fun i => [(32, .int .i64 (i : Nat))]) (fun i L => i ≤ l.length ∧ ∃ F', L = [F'] ∧ SpcF s (doS t S (l.take i)) F') (fun i => l.length - i) 0 ⟨Nat.zero_le _, F, rfl, hF⟩ ok (by simp only [AllSub, go_sem, reduceIte, Nat.reduceEqDiff]; exact ⟨VSub.refl _, trivial⟩) ?_
        rintro i L n1 T1 m1 on ⟨hi, F', rfl, hF'⟩
        obtain ⟨c', M', K', hM', hsc', hs', hc', hK'⟩ := hF'.go
        by_cases hi2 : i < l.length
        · have g1 : decide (((i : Nat) : Int) < ((l.length : Nat) : Int)) = true := decide_eq_true (by omega)
          have h2 : (0 : Int) ≤ ((i : Nat) : Int) := by omega
          have h3 : ((i : Nat) : Int) < ((l.length : Nat) : Int) := by omega
          have e1 : IntKind.i64.wrap (((i : Nat) : Int) + 1) = ((i + 1 : Nat) : Int) := by rw [IntWalk.i64_in _ (by omega)]; omega
          have hat := chs_getD l i .any hi2
          have hdo := do_snoc t S l hi2
          obtain ⟨hr', hR'⟩ := do_ok t (l.take i) S (l.length - i) hr (by rw [List.length_take, show min i l.length + (l.length - i) = l.length by omega]; exact hR)
          generalize l.getD i default = x at *
          generalize doS t S (l.take i) = S' at *
          have ok2 := on.ok.more (.cells [.str x.k, .str x.v, .bool x.d])
          have gs := ok2.sub (F := F') (by simp) _ _ hs'
          have gc := ok2.sub (F := F') (by simp) _ _ hc'
          have g8 := lay_ob_at n1 (.cells [.str x.k, .str x.v, .bool x.d]) [F']
          repeat (first
            | ((first | apply Wp.seqItemsR | apply Wp.itemsR); (· simp only [go_sem, reduceIte, Nat.reduceEqDiff, Nat.reduceAdd, bx, ax, if_true, if_false, Nat.reduceMul, Nat.reduceLeDiff, g1, h2, h3, hat, chs_length, encCh]; exact rfl))
            | (refine WpItems.nil ⟨?_, ?_⟩; (· first | trivial | simp [pairsQ, pairsOk, apart, ent0]))
            | (apply Wp.cond_lit; (· simp only [go_sem, reduceIte, Nat.reduceEqDiff, Nat.reduceAdd, bx, ax, if_true, if_false, Nat.reduceMul, Nat.reduceLeDiff, g1, h2, h3, hat, chs_length, encCh]; exact rfl); (· rfl))
            | refine Wp.skip ?_
            | refine Wp.label ?_
            | refine Wp.block ?_
            | refine Wp.exit ?_
            | refine Wp.seq ?_)
          rw [upd_new, upd_ob]
          have hadd := add_p (mget S'.L x.k) (by have := hR'.2 x.k; omega) ⟨t, x.v, x.d⟩
          have hlk := look_sub M' x.k
          rw [hM'.eq] at hlk
          unfold vAV at hlk
          have fit : VSubs [lookAV (.sl 3 [] (.exact 0)) false (mres M' x.k), .agg [.int .i64 t, .str x.v, .bool x.d]] [.sl 3 ((mget S'.L x.k).map encV) .any, encV ⟨t, x.v, x.d⟩] := VSubs.cons hlk (VSubs.refl _)
          repeat (first
            | ((first | apply Wp.seqItemsR | apply Wp.itemsR | ((first
                | (refine WpItems.pcall ?_ ?_ (hadd) ?_; (· simp only [go_sem, reduceIte, Nat.reduceEqDiff, Nat.reduceAdd, bx]); (· simp only [go_sem, reduceIte, Nat.reduceEqDiff, Nat.reduceAdd, bx, List.map]; exact fit))); apply WpItems.evR)); (· simp only [go_sem, reduceIte, Nat.reduceEqDiff, Nat.reduceAdd, bx, ax, if_true, if_false, Nat.reduceMul, Nat.reduceLeDiff, gs, gc, g8, mfind_enc]; exact rfl))
            | (refine WpItems.nil ⟨?_, ?_⟩; (· first | trivial | simp [pairsQ, pairsOk, apart, ent0]))
            | (apply Wp.cond_lit; (· simp only [go_sem, reduceIte, Nat.reduceEqDiff, Nat.reduceAdd, bx, ax, if_true, if_false, Nat.reduceMul, Nat.reduceLeDiff, gs, gc, g8, mfind_enc]; exact rfl); (· rfl))
            | refine Wp.skip ?_
            | refine Wp.label ?_
            | refine Wp.block ?_
            | refine Wp.exit ?_
            | refine Wp.seq ?_)
          refine WpItems.gcall [_] [F'] [] (by simp only [go_sem]) (by simp only [go_sem, reduceIte, Nat.reduceEqDiff, List.map]; exact VSubs.refl _) (set_g hF' hr' (by have := hR'.1; omega) x.k (addB (mget S'.L x.k) ⟨t, x.v, x.d⟩).1) ok2 fun r G' n' m' ids hq hn' hm' ok3 wi ki => ?_
          obtain ⟨rfl, F2, rfl, hF2⟩ := hq
          have on2 : On [F'] n1 m1 [F2] n' _ m' := On.under ⟨hn', hm', ok3, wi, ki⟩
          refine WpItems.evR (by simp only [go_sem, reduceIte, Nat.reduceEqDiff, Nat.reduceAdd, bx]; exact rfl) ?_
          refine WpItems.nil ⟨by trivial, ?_⟩
          repeat (first
            | ((first | apply Wp.seqItemsR | apply Wp.itemsR); (· simp only [go_sem, reduceIte, Nat.reduceEqDiff, Nat.reduceAdd, bx, ax, if_true, if_false, Nat.reduceMul, Nat.reduceLeDiff, e1]; exact rfl))
            | (refine WpItems.nil ⟨?_, ?_⟩; (· first | trivial | simp [pairsQ, pairsOk, apart, ent0]))
            | (apply Wp.cond_lit; (· simp only [go_sem, reduceIte, Nat.reduceEqDiff, Nat.reduceAdd, bx, ax, if_true, if_false, Nat.reduceMul, Nat.reduceLeDiff, e1]; exact rfl); (· rfl))
            | refine Wp.skip ?_
            | refine Wp.label ?_
            | refine Wp.block ?_
            | refine Wp.exit ?_
            | refine Wp.seq ?_)
          refine ⟨i + 1, [F2], n', _, m', on2, ⟨by omega, F2, rfl, ?_⟩, by omega, ?_⟩
          · rw [hdo]; exact hF2
          · refine StLe.of (tm_le ?_) (ole_drop_ob (Ok.alone ok3)) (fun _ h => h) (Nat.le_refl _) (Nat.le_refl _)
            simp only [AllSub, go_sem, reduceIte, Nat.reduceEqDiff, Nat.reduceAdd, bx]; and_intros <;> first | exact trivial | exact VSub.refl _ | exact VSub.any _ | (refine VSub.int ?_; omega)
        · have hie : i = l.length := by omega
          subst hie
          have g1 : decide (((l.length : Nat) : Int) < ((l.length : Nat) : Int)) = false := decide_eq_false (by omega)
          rw [List.take_length] at hF' hs'
          have gs := on.ok.at0 hs'
          have hres : applyB S t l = ({ doS t S l with last := t }, 0) := by rw [applyB, if_neg (by omega), if_neg (by simp [hf])]
          repeat (first
            | ((first | apply Wp.seqItemsR | apply Wp.itemsR); (· simp only [go_sem, reduceIte, Nat.reduceEqDiff, Nat.reduceAdd, bx, ax, if_true, if_false, Nat.reduceMul, Nat.reduceLeDiff, g1, gs]; exact rfl))
            | (refine WpItems.nil ⟨?_, ?_⟩; (· first | trivial | simp [pairsQ, pairsOk, apart, ent0]))
            | (apply Wp.cond_lit; (· simp only [go_sem, reduceIte, Nat.reduceEqDiff, Nat.reduceAdd, bx, ax, if_true, if_false, Nat.reduceMul, Nat.reduceLeDiff, g1, gs]; exact rfl); (· rfl))
            | refine Wp.skip ?_
            | refine Wp.label ?_
            | refine Wp.block ?_
            | refine Wp.exit ?_
            | refine Wp.seq ?_)
          have on3 := on.step (On.put (o := .cells [K', .mp c', .int .i64 t, .int .i64 (doS t S l).mark]) on.ok (by rw [hs']; rfl))
          have hF3 := hF'.times hs' t (doS t S l).mark
          refine Wp.ret ⟨trivial, .int .i64 0, rfl, .int .i64 (applyB S t l).2, [⟨upd F'.o s (some (.cells [K', .mp c', .int .i64 t, .int .i64 (doS t S l).mark])), F'.k⟩], ?_⟩
          rw [upd_lay]
          refine on3.ends (by rw [hres]; exact VSub.refl _) ⟨rfl, _, rfl, ?_⟩
          rw [hres]; exact hF3
end Go.Proofs.Ytpehfflehebmbaa.Space
end
section
set_option linter.unusedVariables false
set_option linter.unusedSimpArgs false
namespace Go.Av
section
variable {P : Program}
theorem ACalls.lookT {f : FuncId} {xs ys args : List AV} {sz k : Nat} (hc : ∀ n m, ACalls P f (.sl 1 xs .any :: args) (H0 n m) (.tsl sz n 0 k none) (.only (upd none' n (some (.cells ys))) [] (n + 1) m)) (hp : ∀ G G' w vs, VRels G w ys vs → VRels G' w ys vs) (c : Option Nat) (id n m : Nat) (hid : id < n) :
    ACalls P f (.tsl 1 id 0 xs.length c :: args) (.only (upd none' id (some (.cells xs))) [] n m) (.tsl sz n 0 k none) (.only (upd (upd none' id (some (.cells xs))) n (some (.cells ys))) [] (n + 1) m) := by
  intro G w vs hv R F
  have ho : (H.only (upd none' id (some (.cells xs))) [] n m).objs id = some (.cells xs) := by simp [H.only, upd]
  have hv' : VRels (G.frz (H.only (upd none' id (some (.cells xs))) [] n m) fun _ => true) w (.sl 1 xs .any :: args) vs := by
    simp only [VRels] at hv ⊢
    obtain ⟨v, us, e, h1, h2⟩ := hv
    refine ⟨v, us, e, ?_, VRels.mono R (frz_trans _) _ _ h2⟩
    have := frz_tsl R (d := fun _ => true) ho rfl (by omega) h1
    simpa using this
  refine (hc n m _ w vs hv' only_rep F).mono ?_
  rintro e w' ⟨v, G', rfl, T, R', V⟩
  obtain ⟨q1, q2, q3, q4⟩ := R.obj id _ ho
  have hne : ∀ B, ¬ (H.only (upd none' id (some (.cells xs))) [] n m).O G B → B ≠ G.ι id := fun B h1 e => h1 ⟨id, _, ho, e.symm⟩
  have hDO : ∀ B, ¬ (H.only (upd none' id (some (.cells xs))) [] n m).O G B → ¬ (H.only (upd none' id (some (.cells xs))) [] n m).DO G (fun _ => true) B := fun B h1 h2 => h1 (DO_O h2)
  have hT : ∀ {G : Ghost} B, ¬ (H0 n m).T G B := fun B ⟨t, ht, _⟩ => by simp [H0, H.only] at ht
  have hι : G'.ι id = G.ι id := T.ι_eq id q1
  have hnew : ¬ G'.ι n < w.heap.size := fun hlt => only_O (G := G.frz (H.only (upd none' id (some (.cells xs))) [] n m) fun _ => true) (G'.ι n) (T.O_new _ hlt ⟨n, .cells ys, by simp [H.only, upd], rfl⟩)
  have hnid : G'.ι n ≠ G.ι id := fun e => hnew (by rw [e]; exact q3)
  have hj2 : ∀ j o, (H.only (upd (upd none' id (some (.cells xs))) n (some (.cells ys))) [] (n + 1) m).objs j = some o → (j = n ∧ o = .cells ys) ∨ (j = id ∧ o = .cells xs) := by
    intro j o hj
    simp only [H.only, upd, none'] at hj
    split at hj
    · cases hj; exact .inl ⟨‹_›, rfl⟩
    · split at hj
      · cases hj; exact .inr ⟨‹_›, rfl⟩
      · cases hj
  let G3 : Ghost := { own := fun B => B = G.ι id ∨ G'.own B, lim := fun B => if B = G.ι id then G.lim B else G'.lim B, dom := G'.dom, ι := G'.ι, tdom := G'.tdom, τ := G'.τ }
  have T3 : Trans G w (H.only (upd none' id (some (.cells xs))) [] n m) G3 w' (H.only (upd (upd none' id (some (.cells xs))) n (some (.cells ys))) [] (n + 1) m) := by
    constructor
    · exact T.dom_le
    · exact T.dom_new
    · exact T.ι_eq
    · exact T.tdom_le
    · exact T.tdom_new
    · exact T.τ_eq
    · exact Nat.le_succ _
    · exact Nat.le_refl _
    · exact T.size_le
    · exact T.os
    · exact T.output
    · exact T.form
    · exact fun B hB _ _ => T.keep B hB (only_O B) (hT B)
    · intro B hB h1
      have e1 := T.own_keep B hB (only_O B)
      have e2 := hDO B h1
      have e3 := hne B h1
      simp only [G3, e3, false_or, e1, Ghost.frz, e2, not_false_eq_true, and_true]
    · intro B hB h1 _
      have e1 := T.lim_keep B hB (only_O B) (hT B)
      have e2 := hDO B h1
      have e3 := hne B h1
      simp only [G3, e3, if_false, e1, Ghost.frz, e2]
    · exact fun B hB x => absurd x (only_T0 B)
    · rintro B hB ⟨j, o, h1, h2⟩
      rcases hj2 j o h1 with ⟨rfl, -⟩ | ⟨rfl, -⟩
      · exact absurd (by rw [show G'.ι j = B from h2]; exact hB) hnew
      · exact ⟨j, _, ho, by rw [← h2]; exact hι.symm⟩
    · exact fun B _ x => absurd x (only_T0 B)
    · intro j o h1
      rcases hj2 j o h1 with ⟨rfl, -⟩ | ⟨rfl, -⟩
      · exact .inr ⟨Nat.le_refl _, Nat.lt_succ_self _⟩
      · exact .inl ⟨_, ho⟩
    · exact fun t x => by simp [H.only] at x
  refine ⟨v, G3, rfl, T3, ?_, ?_⟩
  · refine ⟨fun j o hj => ?_, fun i j o o' a b e => ?_, fun t ht => by simp [H.only] at ht, fun t ht => by simp [H.only] at ht⟩
    · rcases hj2 j o hj with ⟨rfl, rfl⟩ | ⟨rfl, rfl⟩
      · obtain ⟨p1, p2, p3, p4⟩ := R'.obj j (.cells ys) (by simp [H.only, upd])
        refine ⟨p1, .inr p2, p3, ?_⟩
        obtain ⟨vs, rest, T', fr, y1, y2, y3⟩ := p4
        exact ⟨vs, rest, T', fr, y1, hp _ _ _ _ y2, y3⟩
      · refine ⟨T.dom_le _ q1, .inl hι, by show G'.ι j < _; rw [hι]; exact Nat.lt_of_lt_of_le q3 T.size_le, ?_⟩
        have hk : w'.heap[G'.ι j]? = w.heap[G.ι j]? := by rw [hι]; exact T.keep _ q3 (only_O _) (hT _)
        show ORel G3 w' _ w'.heap[G'.ι j]?
        rw [hk]
        obtain ⟨vs, rest, T', fr, y1, y2, y3⟩ := q4
        exact ⟨vs, rest, T', fr, y1, VRels.mono R T3 _ _ y2, y3⟩
    · have e' : G'.ι i = G'.ι j := e
      rcases hj2 i o a with ⟨rfl, -⟩ | ⟨rfl, -⟩ <;> rcases hj2 j o' b with ⟨rfl, -⟩ | ⟨rfl, -⟩
      · rfl
      · exact absurd (e'.trans hι) hnid
      · exact absurd (e'.symm.trans hι) hnid
      · rfl
  · unfold VRel at V ⊢
    exact V
end
end Go.Av
end
section
set_option linter.unusedSimpArgs false
set_option linter.unusedVariables false
set_option maxRecDepth 10000
namespace Go.Proofs.Ytpehfflehebmbaa.Reads
open Go Go.Av Go.Proofs Go.Proofs.Ytpehfflehebmbaa.C Go.Proofs.Ytpehfflehebmbaa.Batch
def spOk (l : List Sp) (i : Nat) : Bool := hasB (l.getD i default) && (decide (i = 0) || apartB (l.getD (i - 1) default) (l.getD i default))
def kOk (k : List Bs) (l : List Sp) (i : Nat) : Bool := (decide (i = 0) || Op.bytesLess (k.getD (i - 1) []) (k.getD i [])) && !spanned l (k.getD i [])
def spsOk (l : List Sp) : Bool := (List.range l.length).all (spOk l)
def ksOk (k : List Bs) (l : List Sp) : Bool := (List.range k.length).all (kOk k l)
def checkB (k : List Bs) (l : List Sp) : Bool := decide (k.length ≤ 64) && decide (l.length ≤ 64) && spsOk l && ksOk k l
theorem all_no {p : Nat → Bool} {n j : Nat} (h : j < n) (hp : p j = false) : (List.range n).all p = false := List.all_eq_false.2 ⟨j, List.mem_range.2 h, by simp [hp]⟩
theorem all_yes {p : Nat → Bool} {n : Nat} (h : ∀ i, i < n → p i = true) : (List.range n).all p = true := List.all_eq_true.2 fun i hi => h i (List.mem_range.1 hi)
theorem check_p (k : List Bs) (l : List Sp) : PCalls Try.prog 43 [encR k l] (.int .i64 (if checkB k l then 0 else 4)) := by
  refine f43.pcalls0 (by simp) (by simp [allPure, encR_pure]) rfl ?_
  unfold c43
  refine Wp.seqReg (by simp only [go_sem, reduceIte, Nat.reduceEqDiff, Nat.reduceAdd, bx, encR]; exact rfl) (by trivial) ?_
  refine Wp.frz (fun _ => true) [(1, .ref [.sl 1 (strs k) .any, .sl 2 (sps l) .any])] ⟨none', 1, [], 0⟩ ?_ (OLe.none _) (by simp) (by simp [go_sem]) (Nat.le_refl _) ?_
  · simp only [AllSub, go_sem, reduceIte, Nat.reduceEqDiff, unT, and_true]
    exact VSub.refl _
  by_cases b1 : k.length ≤ 64
  rotate_left
  · have d1 : decide ((64 : Int) < (k.length : Int)) = true := decide_eq_true (by omega)
    repeat (first
      | ((first | apply Wp.seqItems | apply Wp.items); (· simp only [go_sem, reduceIte, Nat.reduceEqDiff, Nat.reduceAdd, bx, ax, if_true, if_false, Nat.reduceMul, Nat.reduceLeDiff, d1, strs_length]; exact rfl))
      | (refine WpItems.nil ⟨?_, ?_⟩; (· first | trivial | simp [pairsQ, pairsOk, apart, ent0]))
      | (apply Wp.cond_lit; (· simp only [go_sem, reduceIte, Nat.reduceEqDiff, Nat.reduceAdd, bx, ax, if_true, if_false, Nat.reduceMul, Nat.reduceLeDiff, d1, strs_length]; exact rfl); (· rfl))
      | refine Wp.skip ?_
      | refine Wp.label ?_
      | refine Wp.block ?_
      | refine Wp.exit ?_
      | refine Wp.seq ?_)
    refine Wp.ret ⟨trivial, _, rfl, ?_⟩
    simp only [go_sem, reduceIte, Nat.reduceEqDiff, Nat.reduceAdd, bx]
    simp only [checkB, decide_eq_false b1, Bool.false_and, Bool.false_eq_true, if_false]
    exact VSub.refl _
  have d1 : decide ((64 : Int) < (k.length : Int)) = false := decide_eq_false (by omega)
  by_cases b2 : l.length ≤ 64
  rotate_left
  · have d2 : decide ((64 : Int) < (l.length : Int)) = true := decide_eq_true (by omega)
    repeat (first
      | ((first | apply Wp.seqItems | apply Wp.items); (· simp only [go_sem, reduceIte, Nat.reduceEqDiff, Nat.reduceAdd, bx, ax, if_true, if_false, Nat.reduceMul, Nat.reduceLeDiff, d1, d2, strs_length, sps_length]; exact rfl))
      | (refine WpItems.nil ⟨?_, ?_⟩; (· first | trivial | simp [pairsQ, pairsOk, apart, ent0]))
      | (apply Wp.cond_lit; (· simp only [go_sem, reduceIte, Nat.reduceEqDiff, Nat.reduceAdd, bx, ax, if_true, if_false, Nat.reduceMul, Nat.reduceLeDiff, d1, d2, strs_length, sps_length]; exact rfl); (· rfl))
      | refine Wp.skip ?_
      | refine Wp.label ?_
      | refine Wp.block ?_
      | refine Wp.exit ?_
      | refine Wp.seq ?_)
    refine Wp.ret ⟨trivial, _, rfl, ?_⟩
    simp only [go_sem, reduceIte, Nat.reduceEqDiff, Nat.reduceAdd, bx]
    simp only [checkB, decide_eq_false b2, Bool.and_false, Bool.false_and, Bool.false_eq_true, if_false]
    exact VSub.refl _
  have d2 : decide ((64 : Int) < (l.length : Int)) = false := decide_eq_false (by omega)
  repeat (first
    | ((first | apply Wp.seqItems | apply Wp.items); (· simp only [go_sem, reduceIte, Nat.reduceEqDiff, Nat.reduceAdd, bx, ax, if_true, if_false, Nat.reduceMul, Nat.reduceLeDiff, d1, d2, strs_length, sps_length]; exact rfl))
    | (refine WpItems.nil ⟨?_, ?_⟩; (· first | trivial | simp [pairsQ, pairsOk, apart, ent0]))
    | (apply Wp.cond_lit; (· simp only [go_sem, reduceIte, Nat.reduceEqDiff, Nat.reduceAdd, bx, ax, if_true, if_false, Nat.reduceMul, Nat.reduceLeDiff, d1, d2, strs_length, sps_length]; exact rfl); (· rfl))
    | refine Wp.skip ?_
    | refine Wp.label ?_
    | refine Wp.block ?_
    | refine Wp.exit ?_
    | refine Wp.seq ?_)
  refine Wp.loopN [1, 18, 19] (by simp only [go_sem, reduceIte, Nat.reduceEqDiff, List.map, sps_length]; exact rfl) (fun j : Nat => [(20, .int .i64 j)]) (fun j => j ≤ l.length ∧ ∀ i, i < j → spOk l i = true) (fun j => l.length - j) 0 ⟨Nat.zero_le _, fun i h => absurd h (by omega)⟩ ?_ ?_
  · simp only [AllSub, go_sem, reduceIte, Nat.reduceEqDiff, Nat.reduceAdd, bx]; and_intros <;> first | exact trivial | exact VSub.refl _ | exact VSub.any _ | (refine VSub.int ?_; omega)
  rintro j n hn ⟨hj, hs⟩
  by_cases hc : j < l.length
  · have g1 : decide ((j : Int) < (l.length : Int)) = true := decide_eq_true (by omega)
    have h2 : (0 : Int) ≤ (j : Int) := by omega
    have h3 : (j : Int) < (l.length : Int) := by omega
    have e1 : IntKind.i64.wrap ((j : Int) + 1) = ((j + 1 : Nat) : Int) := by rw [IntWalk.i64_in _ (by omega)]; omega
    have key : ∀ {b : Bool}, spOk l j = b → (b = true → ∀ i, i < j + 1 → spOk l i = true) ∧ (b = false → checkB k l = false) := by
      intro b hb
      refine ⟨fun h i hi => ?_, fun h => ?_⟩
      · by_cases e : i = j
        · subst e; rw [hb, h]
        · exact hs i (by omega)
      · have : spsOk l = false := all_no hc (hb.trans h)
        simp [checkB, this]
    cases ha : hasB (l.getD j default) with
    | false =>
      have q := (key (b := false) (by simp only [spOk, ha, Bool.false_and])).2 rfl
      repeat (first
        | ((first | apply Wp.seqItems | apply Wp.items | ((first
            | (refine WpItems.pcall ?_ ?_ (has_p (l.getD j default)) ?_; (· simp only [go_sem, reduceIte, Nat.reduceEqDiff, Nat.reduceAdd, bx]); (· simp only [go_sem, reduceIte, Nat.reduceEqDiff, Nat.reduceAdd, bx, List.map]; first | exact VSubs.refl _ | (repeat (first | exact VSubs.nil | refine VSubs.cons (by first | exact VSub.refl _ | assumption | exact VSub.cap | exact VSub.any _) ?_))))); apply WpItems.eval)); (· simp only [go_sem, reduceIte, Nat.reduceEqDiff, Nat.reduceAdd, bx, ax, if_true, if_false, Nat.reduceMul, Nat.reduceLeDiff, g1, h2, h3, e1, sps_length, Int.toNat_natCast, sps_getD _ _ _ hc, encSp, ha]; exact rfl))
        | (refine WpItems.nil ⟨?_, ?_⟩; (· first | trivial | simp [pairsQ, pairsOk, apart, ent0]))
        | (apply Wp.cond_lit; (· simp only [go_sem, reduceIte, Nat.reduceEqDiff, Nat.reduceAdd, bx, ax, if_true, if_false, Nat.reduceMul, Nat.reduceLeDiff, g1, h2, h3, e1, sps_length, Int.toNat_natCast, sps_getD _ _ _ hc, encSp, ha]; exact rfl); (· rfl))
        | refine Wp.skip ?_
        | refine Wp.label ?_
        | refine Wp.block ?_
        | refine Wp.exit ?_
        | refine Wp.seq ?_)
      refine Wp.ret ⟨trivial, _, rfl, ?_⟩
      simp only [go_sem, reduceIte, Nat.reduceEqDiff, Nat.reduceAdd, bx]
      simp only [q, Bool.false_eq_true, if_false]
      exact VSub.refl _
    | true =>
      by_cases hz : j = 0
      · have g2 : decide ((0 : Int) < (j : Int)) = false := decide_eq_false (by omega)
        have q := (key (b := true) (by simp only [spOk, ha, hz, decide_true, Bool.true_or, Bool.and_self] at ha ⊢; simp only [ha, Bool.and_self])).1 rfl
        repeat (first
          | ((first | apply Wp.seqItems | apply Wp.items | ((first
              | (refine WpItems.pcall ?_ ?_ (has_p (l.getD j default)) ?_; (· simp only [go_sem, reduceIte, Nat.reduceEqDiff, Nat.reduceAdd, bx]); (· simp only [go_sem, reduceIte, Nat.reduceEqDiff, Nat.reduceAdd, bx, List.map]; first | exact VSubs.refl _ | (repeat (first | exact VSubs.nil | refine VSubs.cons (by first | exact VSub.refl _ | assumption | exact VSub.cap | exact VSub.any _) ?_))))); apply WpItems.eval)); (· simp only [go_sem, reduceIte, Nat.reduceEqDiff, Nat.reduceAdd, bx, ax, if_true, if_false, Nat.reduceMul, Nat.reduceLeDiff, g1, g2, h2, h3, e1, sps_length, Int.toNat_natCast, sps_getD _ _ _ hc, encSp, ha]; exact rfl))
          | (refine WpItems.nil ⟨?_, ?_⟩; (· first | trivial | simp [pairsQ, pairsOk, apart, ent0]))
          | (apply Wp.cond_lit; (· simp only [go_sem, reduceIte, Nat.reduceEqDiff, Nat.reduceAdd, bx, ax, if_true, if_false, Nat.reduceMul, Nat.reduceLeDiff, g1, g2, h2, h3, e1, sps_length, Int.toNat_natCast, sps_getD _ _ _ hc, encSp, ha]; exact rfl); (· rfl))
          | refine Wp.skip ?_
          | refine Wp.label ?_
          | refine Wp.block ?_
          | refine Wp.exit ?_
          | refine Wp.seq ?_)
        refine ⟨j + 1, n + 1, by omega, ⟨by omega, q⟩, by omega, ?_⟩
        refine StLe.tmN (by omega) (OLe.none _) (by simp only [AllSub, go_sem, reduceIte, Nat.reduceEqDiff, Nat.reduceAdd, bx]; and_intros <;> first | exact trivial | exact VSub.refl _ | exact VSub.any _ | (refine VSub.int ?_; omega))
      · have g2 : decide ((0 : Int) < (j : Int)) = true := decide_eq_true (by omega)
        have e2 : IntKind.i64.wrap ((j : Int) - 1) = ((j - 1 : Nat) : Int) := by rw [IntWalk.i64_in _ (by omega)]; omega
        have h4 : (0 : Int) ≤ ((j - 1 : Nat) : Int) := by omega
        have h5 : ((j - 1 : Nat) : Int) < (l.length : Int) := by omega
        have h6 : j - 1 < l.length := by omega
        have hq : spOk l j = apartB (l.getD (j - 1) default) (l.getD j default) := by simp only [spOk, ha, decide_eq_false hz, Bool.true_and, Bool.false_or]
        cases hp : apartB (l.getD (j - 1) default) (l.getD j default) with
        | true =>
          have q := (key (hq.trans hp)).1 rfl
          repeat (first
            | ((first | apply Wp.seqItems | apply Wp.items | ((first
                | (refine WpItems.pcall ?_ ?_ (has_p (l.getD j default)) ?_; (· simp only [go_sem, reduceIte, Nat.reduceEqDiff, Nat.reduceAdd, bx]); (· simp only [go_sem, reduceIte, Nat.reduceEqDiff, Nat.reduceAdd, bx, List.map]; first | exact VSubs.refl _ | (repeat (first | exact VSubs.nil | refine VSubs.cons (by first | exact VSub.refl _ | assumption | exact VSub.cap | exact VSub.any _) ?_))))
                | (refine WpItems.pcall ?_ ?_ (apart_p (l.getD (j - 1) default) (l.getD j default)) ?_; (· simp only [go_sem, reduceIte, Nat.reduceEqDiff, Nat.reduceAdd, bx]); (· simp only [go_sem, reduceIte, Nat.reduceEqDiff, Nat.reduceAdd, bx, List.map]; first | exact VSubs.refl _ | (repeat (first | exact VSubs.nil | refine VSubs.cons (by first | exact VSub.refl _ | assumption | exact VSub.cap | exact VSub.any _) ?_))))); apply WpItems.eval)); (· simp only [go_sem, reduceIte, Nat.reduceEqDiff, Nat.reduceAdd, bx, ax, if_true, if_false, Nat.reduceMul, Nat.reduceLeDiff, g1, g2, h2, h3, h4, h5, e1, e2, sps_length, Int.toNat_natCast, sps_getD _ _ _ hc, sps_getD _ _ _ h6, encSp, ha, hp]; exact rfl))
            | (refine WpItems.nil ⟨?_, ?_⟩; (· first | trivial | simp [pairsQ, pairsOk, apart, ent0]))
            | (apply Wp.cond_lit; (· simp only [go_sem, reduceIte, Nat.reduceEqDiff, Nat.reduceAdd, bx, ax, if_true, if_false, Nat.reduceMul, Nat.reduceLeDiff, g1, g2, h2, h3, h4, h5, e1, e2, sps_length, Int.toNat_natCast, sps_getD _ _ _ hc, sps_getD _ _ _ h6, encSp, ha, hp]; exact rfl); (· rfl))
            | refine Wp.skip ?_
            | refine Wp.label ?_
            | refine Wp.block ?_
            | refine Wp.exit ?_
            | refine Wp.seq ?_)
          refine ⟨j + 1, n + 1, by omega, ⟨by omega, q⟩, by omega, ?_⟩
          refine StLe.tmN (by omega) (OLe.none _) (by simp only [AllSub, go_sem, reduceIte, Nat.reduceEqDiff, Nat.reduceAdd, bx]; and_intros <;> first | exact trivial | exact VSub.refl _ | exact VSub.any _ | (refine VSub.int ?_; omega))
        | false =>
          have q := (key (hq.trans hp)).2 rfl
          repeat (first
            | ((first | apply Wp.seqItems | apply Wp.items | ((first
                | (refine WpItems.pcall ?_ ?_ (has_p (l.getD j default)) ?_; (· simp only [go_sem, reduceIte, Nat.reduceEqDiff, Nat.reduceAdd, bx]); (· simp only [go_sem, reduceIte, Nat.reduceEqDiff, Nat.reduceAdd, bx, List.map]; first | exact VSubs.refl _ | (repeat (first | exact VSubs.nil | refine VSubs.cons (by first | exact VSub.refl _ | assumption | exact VSub.cap | exact VSub.any _) ?_))))
                | (refine WpItems.pcall ?_ ?_ (apart_p (l.getD (j - 1) default) (l.getD j default)) ?_; (· simp only [go_sem, reduceIte, Nat.reduceEqDiff, Nat.reduceAdd, bx]); (· simp only [go_sem, reduceIte, Nat.reduceEqDiff, Nat.reduceAdd, bx, List.map]; first | exact VSubs.refl _ | (repeat (first | exact VSubs.nil | refine VSubs.cons (by first | exact VSub.refl _ | assumption | exact VSub.cap | exact VSub.any _) ?_))))); apply WpItems.eval)); (· simp only [go_sem, reduceIte, Nat.reduceEqDiff, Nat.reduceAdd, bx, ax, if_true, if_false, Nat.reduceMul, Nat.reduceLeDiff, g1, g2, h2, h3, h4, h5, e1, e2, sps_length, Int.toNat_natCast, sps_getD _ _ _ hc, sps_getD _ _ _ h6, encSp, ha, hp]; exact rfl))
            | (refine WpItems.nil ⟨?_, ?_⟩; (· first | trivial | simp [pairsQ, pairsOk, apart, ent0]))
            | (apply Wp.cond_lit; (· simp only [go_sem, reduceIte, Nat.reduceEqDiff, Nat.reduceAdd, bx, ax, if_true, if_false, Nat.reduceMul, Nat.reduceLeDiff, g1, g2, h2, h3, h4, h5, e1, e2, sps_length, Int.toNat_natCast, sps_getD _ _ _ hc, sps_getD _ _ _ h6, encSp, ha, hp]; exact rfl); (· rfl))
            | refine Wp.skip ?_
            | refine Wp.label ?_
            | refine Wp.block ?_
            | refine Wp.exit ?_
            | refine Wp.seq ?_)
          refine Wp.ret ⟨trivial, _, rfl, ?_⟩
          simp only [go_sem, reduceIte, Nat.reduceEqDiff, Nat.reduceAdd, bx]
          simp only [q, Bool.false_eq_true, if_false]
          exact VSub.refl _
  obtain rfl : j = l.length := by omega
  have g1 : decide ((l.length : Int) < (l.length : Int)) = false := decide_eq_false (by omega)
  have hsp : spsOk l = true := all_yes hs
  repeat (first
    | ((first | apply Wp.seqItems | apply Wp.items); (· simp only [go_sem, reduceIte, Nat.reduceEqDiff, Nat.reduceAdd, bx, ax, if_true, if_false, Nat.reduceMul, Nat.reduceLeDiff, g1, strs_length]; exact rfl))
    | (refine WpItems.nil ⟨?_, ?_⟩; (· first | trivial | simp [pairsQ, pairsOk, apart, ent0]))
    | (apply Wp.cond_lit; (· simp only [go_sem, reduceIte, Nat.reduceEqDiff, Nat.reduceAdd, bx, ax, if_true, if_false, Nat.reduceMul, Nat.reduceLeDiff, g1, strs_length]; exact rfl); (· rfl))
    | refine Wp.skip ?_
    | refine Wp.label ?_
    | refine Wp.block ?_
    | refine Wp.exit ?_
    | refine Wp.seq ?_)
  refine Wp.loopN [1, 45, 46] (by simp only [go_sem, reduceIte, Nat.reduceEqDiff, List.map, strs_length]; exact rfl) (fun j : Nat => [(47, .int .i64 j)]) (fun j => j ≤ k.length ∧ ∀ i, i < j → kOk k l i = true) (fun j => k.length - j) 0 ⟨Nat.zero_le _, fun i h => absurd h (by omega)⟩ ?_ ?_
  · simp only [AllSub, go_sem, reduceIte, Nat.reduceEqDiff, Nat.reduceAdd, bx]; and_intros <;> first | exact trivial | exact VSub.refl _ | exact VSub.any _ | (refine VSub.int ?_; omega)
  rintro j n' hn' ⟨hj, hs'⟩
  by_cases hc : j < k.length
  · have g1 : decide ((j : Int) < (k.length : Int)) = true := decide_eq_true (by omega)
    have h2 : (0 : Int) ≤ (j : Int) := by omega
    have h3 : (j : Int) < (k.length : Int) := by omega
    have e1 : IntKind.i64.wrap ((j : Int) + 1) = ((j + 1 : Nat) : Int) := by rw [IntWalk.i64_in _ (by omega)]; omega
    have key : ∀ {b : Bool}, kOk k l j = b → (b = true → ∀ i, i < j + 1 → kOk k l i = true) ∧ (b = false → checkB k l = false) := by
      intro b hb
      refine ⟨fun h i hi => ?_, fun h => ?_⟩
      · by_cases e : i = j
        · subst e; rw [hb, h]
        · exact hs' i (by omega)
      · have : ksOk k l = false := all_no hc (hb.trans h)
        simp [checkB, this]
    have go : ∀ g : Bool, ((decide (j = 0) || Op.bytesLess (k.getD (j - 1) []) (k.getD j [])) = g) → kOk k l j = (g && !spanned l (k.getD j [])) := fun g hg => by simp only [kOk, hg]
    by_cases hz : j = 0
    · have g2 : decide ((0 : Int) < (j : Int)) = false := decide_eq_false (by omega)
      have hg := go true (by simp [hz])
      cases hp : spanned l (k.getD j []) with
      | true =>
        have q := (key (b := false) (by rw [hg, hp]; rfl)).2 rfl
        repeat (first
          | ((first | apply Wp.seqItems | apply Wp.items | ((first
              | (refine WpItems.pcall ?_ ?_ (spanned_p l (by omega) (k.getD j [])) ?_; (· simp only [go_sem, reduceIte, Nat.reduceEqDiff, Nat.reduceAdd, bx]); (· simp only [go_sem, reduceIte, Nat.reduceEqDiff, Nat.reduceAdd, bx, List.map]; first | exact VSubs.refl _ | (repeat (first | exact VSubs.nil | refine VSubs.cons (by first | exact VSub.refl _ | assumption | exact VSub.cap | exact VSub.any _) ?_))))); apply WpItems.eval)); (· simp only [go_sem, reduceIte, Nat.reduceEqDiff, Nat.reduceAdd, bx, ax, if_true, if_false, Nat.reduceMul, Nat.reduceLeDiff, g1, g2, h2, h3, e1, strs_length, Int.toNat_natCast, strs_getD _ _ _ hc, hp]; exact rfl))
          | (refine WpItems.nil ⟨?_, ?_⟩; (· first | trivial | simp [pairsQ, pairsOk, apart, ent0]))
          | (apply Wp.cond_lit; (· simp only [go_sem, reduceIte, Nat.reduceEqDiff, Nat.reduceAdd, bx, ax, if_true, if_false, Nat.reduceMul, Nat.reduceLeDiff, g1, g2, h2, h3, e1, strs_length, Int.toNat_natCast, strs_getD _ _ _ hc, hp]; exact rfl); (· rfl))
          | refine Wp.skip ?_
          | refine Wp.label ?_
          | refine Wp.block ?_
          | refine Wp.exit ?_
          | refine Wp.seq ?_)
        refine Wp.ret ⟨trivial, _, rfl, ?_⟩
        simp only [go_sem, reduceIte, Nat.reduceEqDiff, Nat.reduceAdd, bx]
        simp only [q, Bool.false_eq_true, if_false]
        exact VSub.refl _
      | false =>
        have q := (key (b := true) (by rw [hg, hp]; rfl)).1 rfl
        repeat (first
          | ((first | apply Wp.seqItems | apply Wp.items | ((first
              | (refine WpItems.pcall ?_ ?_ (spanned_p l (by omega) (k.getD j [])) ?_; (· simp only [go_sem, reduceIte, Nat.reduceEqDiff, Nat.reduceAdd, bx]); (· simp only [go_sem, reduceIte, Nat.reduceEqDiff, Nat.reduceAdd, bx, List.map]; first | exact VSubs.refl _ | (repeat (first | exact VSubs.nil | refine VSubs.cons (by first | exact VSub.refl _ | assumption | exact VSub.cap | exact VSub.any _) ?_))))); apply WpItems.eval)); (· simp only [go_sem, reduceIte, Nat.reduceEqDiff, Nat.reduceAdd, bx, ax, if_true, if_false, Nat.reduceMul, Nat.reduceLeDiff, g1, g2, h2, h3, e1, strs_length, Int.toNat_natCast, strs_getD _ _ _ hc, hp]; exact rfl))
          | (refine WpItems.nil ⟨?_, ?_⟩; (· first | trivial | simp [pairsQ, pairsOk, apart, ent0]))
          | (apply Wp.cond_lit; (· simp only [go_sem, reduceIte, Nat.reduceEqDiff, Nat.reduceAdd, bx, ax, if_true, if_false, Nat.reduceMul, Nat.reduceLeDiff, g1, g2, h2, h3, e1, strs_length, Int.toNat_natCast, strs_getD _ _ _ hc, hp]; exact rfl); (· rfl))
          | refine Wp.skip ?_
          | refine Wp.label ?_
          | refine Wp.block ?_
          | refine Wp.exit ?_
          | refine Wp.seq ?_)
        refine ⟨j + 1, n', by omega, ⟨by omega, q⟩, by omega, ?_⟩
        refine StLe.tmN (by omega) (OLe.none _) (by simp only [AllSub, go_sem, reduceIte, Nat.reduceEqDiff, Nat.reduceAdd, bx]; and_intros <;> first | exact trivial | exact VSub.refl _ | exact VSub.any _ | (refine VSub.int ?_; omega))
    · have g2 : decide ((0 : Int) < (j : Int)) = true := decide_eq_true (by omega)
      have e2 : IntKind.i64.wrap ((j : Int) - 1) = ((j - 1 : Nat) : Int) := by rw [IntWalk.i64_in _ (by omega)]; omega
      have h4 : (0 : Int) ≤ ((j - 1 : Nat) : Int) := by omega
      have h5 : ((j - 1 : Nat) : Int) < (k.length : Int) := by omega
      have h6 : j - 1 < k.length := by omega
      have hg := go _ (show _ = Op.bytesLess (k.getD (j - 1) []) (k.getD j []) by simp [hz])
      cases hp : Op.bytesLess (k.getD (j - 1) []) (k.getD j []) with
      | false =>
        have q := (key (b := false) (by rw [hg, hp]; rfl)).2 rfl
        repeat (first
          | ((first | apply Wp.seqItems | apply Wp.items); (· simp only [go_sem, reduceIte, Nat.reduceEqDiff, Nat.reduceAdd, bx, ax, if_true, if_false, Nat.reduceMul, Nat.reduceLeDiff, g1, g2, h2, h3, h4, h5, e1, e2, strs_length, Int.toNat_natCast, strs_getD _ _ _ hc, strs_getD _ _ _ h6, hp]; exact rfl))
          | (refine WpItems.nil ⟨?_, ?_⟩; (· first | trivial | simp [pairsQ, pairsOk, apart, ent0]))
          | (apply Wp.cond_lit; (· simp only [go_sem, reduceIte, Nat.reduceEqDiff, Nat.reduceAdd, bx, ax, if_true, if_false, Nat.reduceMul, Nat.reduceLeDiff, g1, g2, h2, h3, h4, h5, e1, e2, strs_length, Int.toNat_natCast, strs_getD _ _ _ hc, strs_getD _ _ _ h6, hp]; exact rfl); (· rfl))
          | refine Wp.skip ?_
          | refine Wp.label ?_
          | refine Wp.block ?_
          | refine Wp.exit ?_
          | refine Wp.seq ?_)
        refine Wp.ret ⟨trivial, _, rfl, ?_⟩
        simp only [go_sem, reduceIte, Nat.reduceEqDiff, Nat.reduceAdd, bx]
        simp only [q, Bool.false_eq_true, if_false]
        exact VSub.refl _
      | true =>
        cases hp2 : spanned l (k.getD j []) with
        | true =>
          have q := (key (b := false) (by rw [hg, hp, hp2]; rfl)).2 rfl
          repeat (first
            | ((first | apply Wp.seqItems | apply Wp.items | ((first
                | (refine WpItems.pcall ?_ ?_ (spanned_p l (by omega) (k.getD j [])) ?_; (· simp only [go_sem, reduceIte, Nat.reduceEqDiff, Nat.reduceAdd, bx]); (· simp only [go_sem, reduceIte, Nat.reduceEqDiff, Nat.reduceAdd, bx, List.map]; first | exact VSubs.refl _ | (repeat (first | exact VSubs.nil | refine VSubs.cons (by first | exact VSub.refl _ | assumption | exact VSub.cap | exact VSub.any _) ?_))))); apply WpItems.eval)); (· simp only [go_sem, reduceIte, Nat.reduceEqDiff, Nat.reduceAdd, bx, ax, if_true, if_false, Nat.reduceMul, Nat.reduceLeDiff, g1, g2, h2, h3, h4, h5, e1, e2, strs_length, Int.toNat_natCast, strs_getD _ _ _ hc, strs_getD _ _ _ h6, hp, hp2]; exact rfl))
            | (refine WpItems.nil ⟨?_, ?_⟩; (· first | trivial | simp [pairsQ, pairsOk, apart, ent0]))
            | (apply Wp.cond_lit; (· simp only [go_sem, reduceIte, Nat.reduceEqDiff, Nat.reduceAdd, bx, ax, if_true, if_false, Nat.reduceMul, Nat.reduceLeDiff, g1, g2, h2, h3, h4, h5, e1, e2, strs_length, Int.toNat_natCast, strs_getD _ _ _ hc, strs_getD _ _ _ h6, hp, hp2]; exact rfl); (· rfl))
            | refine Wp.skip ?_
            | refine Wp.label ?_
            | refine Wp.block ?_
            | refine Wp.exit ?_
            | refine Wp.seq ?_)
          refine Wp.ret ⟨trivial, _, rfl, ?_⟩
          simp only [go_sem, reduceIte, Nat.reduceEqDiff, Nat.reduceAdd, bx]
          simp only [q, Bool.false_eq_true, if_false]
          exact VSub.refl _
        | false =>
          have q := (key (b := true) (by rw [hg, hp, hp2]; rfl)).1 rfl
          repeat (first
            | ((first | apply Wp.seqItems | apply Wp.items | ((first
                | (refine WpItems.pcall ?_ ?_ (spanned_p l (by omega) (k.getD j [])) ?_; (· simp only [go_sem, reduceIte, Nat.reduceEqDiff, Nat.reduceAdd, bx]); (· simp only [go_sem, reduceIte, Nat.reduceEqDiff, Nat.reduceAdd, bx, List.map]; first | exact VSubs.refl _ | (repeat (first | exact VSubs.nil | refine VSubs.cons (by first | exact VSub.refl _ | assumption | exact VSub.cap | exact VSub.any _) ?_))))); apply WpItems.eval)); (· simp only [go_sem, reduceIte, Nat.reduceEqDiff, Nat.reduceAdd, bx, ax, if_true, if_false, Nat.reduceMul, Nat.reduceLeDiff, g1, g2, h2, h3, h4, h5, e1, e2, strs_length, Int.toNat_natCast, strs_getD _ _ _ hc, strs_getD _ _ _ h6, hp, hp2]; exact rfl))
            | (refine WpItems.nil ⟨?_, ?_⟩; (· first | trivial | simp [pairsQ, pairsOk, apart, ent0]))
            | (apply Wp.cond_lit; (· simp only [go_sem, reduceIte, Nat.reduceEqDiff, Nat.reduceAdd, bx, ax, if_true, if_false, Nat.reduceMul, Nat.reduceLeDiff, g1, g2, h2, h3, h4, h5, e1, e2, strs_length, Int.toNat_natCast, strs_getD _ _ _ hc, strs_getD _ _ _ h6, hp, hp2]; exact rfl); (· rfl))
            | refine Wp.skip ?_
            | refine Wp.label ?_
            | refine Wp.block ?_
            | refine Wp.exit ?_
            | refine Wp.seq ?_)
          refine ⟨j + 1, n', by omega, ⟨by omega, q⟩, by omega, ?_⟩
          refine StLe.tmN (by omega) (OLe.none _) (by simp only [AllSub, go_sem, reduceIte, Nat.reduceEqDiff, Nat.reduceAdd, bx]; and_intros <;> first | exact trivial | exact VSub.refl _ | exact VSub.any _ | (refine VSub.int ?_; omega))
  obtain rfl : j = k.length := by omega
  have g1 : decide ((k.length : Int) < (k.length : Int)) = false := decide_eq_false (by omega)
  have hk : ksOk k l = true := all_yes hs'
  repeat (first
    | ((first | apply Wp.seqItems | apply Wp.items); (· simp only [go_sem, reduceIte, Nat.reduceEqDiff, Nat.reduceAdd, bx, ax, if_true, if_false, Nat.reduceMul, Nat.reduceLeDiff, g1]; exact rfl))
    | (refine WpItems.nil ⟨?_, ?_⟩; (· first | trivial | simp [pairsQ, pairsOk, apart, ent0]))
    | (apply Wp.cond_lit; (· simp only [go_sem, reduceIte, Nat.reduceEqDiff, Nat.reduceAdd, bx, ax, if_true, if_false, Nat.reduceMul, Nat.reduceLeDiff, g1]; exact rfl); (· rfl))
    | refine Wp.skip ?_
    | refine Wp.label ?_
    | refine Wp.block ?_
    | refine Wp.exit ?_
    | refine Wp.seq ?_)
  refine Wp.ret ⟨trivial, _, rfl, ?_⟩
  simp only [go_sem, reduceIte, Nat.reduceEqDiff, Nat.reduceAdd, bx]
  simp only [checkB, decide_eq_true b1, decide_eq_true b2, hsp, hk, Bool.and_self, if_true]
  exact VSub.refl _
end Go.Proofs.Ytpehfflehebmbaa.Reads
end
section
set_option linter.unusedSimpArgs false
set_option linter.unusedVariables false
set_option maxRecDepth 10000
namespace Go.Proofs.Ytpehfflehebmbaa.Reads
open Go Go.Av Go.Proofs Go.Proofs.Ytpehfflehebmbaa.C Go.Proofs.Ytpehfflehebmbaa.Batch
def place (k : List Bs) (key : Bs) : Nat := k.findIdx fun x => !Op.bytesLess x key
end Go.Proofs.Ytpehfflehebmbaa.Reads
end
section
set_option linter.unusedSimpArgs false
set_option linter.unusedVariables false
set_option maxRecDepth 10000
namespace Go.Proofs.Ytpehfflehebmbaa.Reads
open Go Go.Av Go.Proofs Go.Proofs.Ytpehfflehebmbaa.C Go.Proofs.Ytpehfflehebmbaa.Batch
theorem strs_cells (l : List Bs) : (strs l).flatMap cellsOf = strs l := by
  induction l with
  | nil => rfl
  | cons s l ih => simp only [strs, List.map_cons, List.flatMap_cons] at ih ⊢; rw [ih]; rfl
theorem strs_shaped (l : List Bs) : (strs l).all shaped = true := by
  simp [strs, shaped, isCell]
theorem cloneK_p (k : List Bs) (h0 : k ≠ []) (hl : k.length ≤ 1000000) (n m : Nat) : ACalls Try.prog 61 [.sl 1 (strs k) .any] (H0 n m) (.tsl 1 n 0 k.length none) (.only (upd none' n (some (.cells (strs k)))) [] (n + 1) m) := by
  cases k with
  | nil => exact absurd rfl h0
  | cons s k =>
    have := cloneT_gen (sz := 1) (bytes := 16) f61 (.str s) (strs k) (strs_shaped (s :: k)) (by rw [strs_length]; simp only [List.length_cons] at hl; omega) (by rw [strs_length]; simp only [List.length_cons] at hl; omega) n m
    rw [strs_length] at this
    have e : (AV.str s :: strs k).flatMap cellsOf = strs (s :: k) := strs_cells (s :: k)
    rw [e] at this
    exact this
end Go.Proofs.Ytpehfflehebmbaa.Reads
end
section
set_option linter.unusedSimpArgs false
set_option linter.unusedVariables false
set_option maxRecDepth 10000
namespace Go.Proofs.Ytpehfflehebmbaa.Space
open Go Go.Av Go.Proofs Go.Proofs.Ytpehfflehebmbaa.C Go.Proofs.Ytpehfflehebmbaa.Batch
theorem patch_new {L : List Fr} {n m id : Nat} {T : List Nat} {o o2 : Av.Obj} (h : lay L id = some o) : H.patch ⟨lay L, n, T, m⟩ (.only (upd none' id (some o)) [] n m) (.only (upd (upd none' id (some o)) n (some o2)) [] (n + 1) m) = ⟨lay (ob n o2 :: L), n + 1, T, m⟩ := by
  refine H.ext (fun j => ?_) rfl ?_ rfl
  · simp only [H.patch, H.only, upd, none', lay, ob_o]
    by_cases e1 : j = n
    · subst e1; simp
    · by_cases e2 : j = id
      · subst e2; simp [e1, h]
      · have : ¬ (n ≤ j ∧ j < n + 1) := by omega
        simp [e1, e2, this]
  · simp [H.patch, H.only]
theorem sl0_any {G G' : Ghost} {w : World} {v : Value} (h : VRel G w (.sl 1 [] (.exact 0)) v) : VRel G' w (.sl 1 [] (.exact 0)) v := by
  simp only [VRel, CapOk] at h ⊢
  rcases h with h | ⟨B, off, C, vs, q1, q2, q3, q4, q5, q6⟩
  · exact .inl h
  · left
    subst q6
    simpa [CapNil] using ⟨_, q1⟩
theorem clone0 {K : AV} {o : Objs} {s c : Nat} (hK : RowIs K [] o s c) : ∃ (objs : Objs) (ids : List Nat), (∀ id p, objs id = some p → o id = some p) ∧ (∀ id, (objs id).isSome → id ∈ ids) ∧ RCalls Try.prog 61 [K] objs (.sl 1 [] (.exact 0)) := by
  have hb := cloneE_gen (sz := 1) (bytes := 16) f61
  rcases hK with ⟨rfl, h⟩ | ⟨k, rfl, h1, h2, h3⟩
  · refine ⟨none', [], fun id p h => by simp [none'] at h, fun id h => by simp [none'] at h, fun n m => ?_⟩
    intro G w vs hv R F
    exact hb n m G w vs ((VSubs.cons VSub.cap VSubs.nil) G w vs hv) R F
  · refine ⟨upd none' k (some (.cells [])), [k], fun id p h => ?_, fun id h => ?_, ?_⟩
    · simp only [upd, none'] at h
      split at h
      · rename_i e; subst e; cases h; exact h1
      · cases h
    · simp only [upd, none'] at h
      split at h
      · rename_i e; simp [e]
      · cases h
    · exact hb.look (fun G G' w v h => sl0_any h) none k
theorem strs_any {G G' : Ghost} {w : World} : ∀ (l : List Bs) (vs : List Value), VRels G w (strs l) vs → VRels G' w (strs l) vs
  | [], vs, h => by simpa [strs, VRels] using h
  | s :: l, vs, h => by
    simp only [strs, List.map_cons, VRels] at h ⊢
    obtain ⟨v, us, e, h1, h2⟩ := h
    exact ⟨v, us, e, by simpa only [VRel] using h1, strs_any l us h2⟩
theorem cloneK_look (l : List Bs) (h0 : l ≠ []) (hl : l.length ≤ 1000000) (id n m : Nat) (hid : id < n) : ACalls Try.prog 61 [.tsl 1 id 0 l.length none] (.only (upd none' id (some (.cells (strs l)))) [] n m) (.tsl 1 n 0 l.length none) (.only (upd (upd none' id (some (.cells (strs l)))) n (some (.cells (strs l)))) [] (n + 1) m) := by
  have := ACalls.lookT (args := []) (fun n m => Reads.cloneK_p l h0 hl n m) (fun G G' w vs h => strs_any l vs h) none id n m hid
  rwa [strs_length] at this
def vacStep (mark : Int) (S : Spc) (k : Bs) : Spc := setS S k (vacB (mget S.L k) mark)
def vacS (mark : Int) (S : Spc) (ks : List Bs) : Spc := ks.foldl (vacStep mark) S
def vacuumB (S : Spc) (mark : Int) : Spc × Int := if mark < S.mark ∨ S.last < mark then (S, 2) else ({ vacS mark S (keysOf S.L) with mark := mark }, 0)
theorem vac_len (v : List Ver) (m : Int) : (vacB v m).length ≤ v.length := by
  unfold vacB
  split
  · rw [List.length_take]; omega
  · simp
theorem vacStep_ok {S : Spc} (h : Small S) (hr : RiseL S.L) (m : Int) (k : Bs) : Small (vacStep m S k) ∧ RiseL (vacStep m S k).L := by
  refine ⟨⟨?_, fun q => ?_⟩, setL_rise hr _ _⟩
  · show (setL S.L k (vacB (mget S.L k) m)).length ≤ _
    have hp := plK_le (keysOf S.L) k
    have hk : (keysOf S.L).length = S.L.length := by simp [keysOf]
    have := h.1
    by_cases ht : thK (keysOf S.L) k = true
    · unfold setL
      simp only [ht, if_true]
      have ht2 := ht
      simp only [thK, Bool.and_eq_true, decide_eq_true_eq] at ht2
      have := ht2.1
      split
      · simp; omega
      · simp; omega
    · have hm : mget S.L k = [] := by
        refine mget_none _ _ fun hm => ?_
        have := thK_iff hr k
        rw [decide_eq_true (show k ∈ keysOf S.L from hm)] at this
        exact ht this
      have hv : vacB (mget S.L k) m = [] := by
        have := vac_len (mget S.L k) m
        rw [hm] at this ⊢
        exact List.length_eq_zero_iff.1 (by simpa using this)
      rw [hv, setL, if_pos rfl, if_neg ht]; exact this
  · show (mget (setL _ _ _) q).length ≤ _
    rw [setL_get hr]
    split
    · have := vac_len (mget S.L k) m
      have := h.2 k
      omega
    · exact h.2 q
theorem vacS_ok (m : Int) : ∀ (l : List Bs) (S : Spc), Small S → RiseL S.L → Small (vacS m S l) ∧ RiseL (vacS m S l).L
  | [], S, h, hr => ⟨h, hr⟩
  | k :: l, S, h, hr => by
    obtain ⟨h1, h2⟩ := vacStep_ok h hr m k
    exact vacS_ok m l _ h1 h2
theorem vacS_snoc (m : Int) (S : Spc) (l : List Bs) {j : Nat} (h : j < l.length) : vacS m S (l.take (j + 1)) = vacStep m (vacS m S (l.take j)) (l.getD j []) := by
  rw [take_snoc [] h, vacS, List.foldl_append]; rfl
set_option maxHeartbeats 1000000 in
theorem vacuum_g {s : Nat} {S : Spc} {F : Fr} (hF : SpcF s S F) (hr : RiseL S.L) (hS : Small S) (mark : Int) : GCalls Try.prog 21 [.ptr s 0, .int .i64 mark] [F] (fun r L => r = .int .i64 (vacuumB S mark).2 ∧ ∃ F', L = [F'] ∧ SpcF s (vacuumB S mark).1 F') := by
  obtain ⟨c, M, K, hM, hsc, hs, hc, hK⟩ := hF.go
  refine f21.gcalls (by simp) fun n m ok => ?_
  unfold c21
  have fs := ok.at0 hs
  have stop : ∀ (e : Int), vacuumB S mark = (S, e) → ∃ r l', Av.Ends [F] n m (fun r L => r = .int .i64 (vacuumB S mark).2 ∧ ∃ F', L = [F'] ∧ SpcF s (vacuumB S mark).1 F') (.int .i64 e) ⟨lay [F], n, ks [F], m⟩ r l' := by
    intro e h
    rw [h]
    exact ⟨_, _, (On.refl ok).ends (VSub.refl _) ⟨rfl, F, rfl, hF⟩⟩
  by_cases p1 : mark < S.mark
  · have d1 := decide_eq_true p1
    have hres : vacuumB S mark = (S, 2) := by rw [vacuumB, if_pos (.inl p1)]
    repeat (first
      | ((first | apply Wp.seqItemsR | apply Wp.itemsR | ((first
          | (refine WpItems.glook ?_ ?_ (made_r hF) (by first | exact fun j o h => h | exact ok.sub (by simp) | assumption) (fun ids => ?_); (· simp only [go_sem, reduceIte, Nat.reduceEqDiff, Nat.reduceAdd, bx]); (· simp only [go_sem, reduceIte, Nat.reduceEqDiff, Nat.reduceAdd, bx, List.map]; first | exact VSubs.refl _ | (repeat (first | exact VSubs.nil | refine VSubs.cons (by first | exact VSub.refl _ | assumption | exact VSub.cap | exact VSub.any _) ?_))))); apply WpItems.evR)); (· simp only [go_sem, reduceIte, Nat.reduceEqDiff, Nat.reduceAdd, bx, ax, if_true, if_false, Nat.reduceMul, Nat.reduceLeDiff, fs, d1]; exact rfl))
      | (refine WpItems.nil ⟨?_, ?_⟩; (· first | trivial | simp [pairsQ, pairsOk, apart, ent0]))
      | (apply Wp.cond_lit; (· simp only [go_sem, reduceIte, Nat.reduceEqDiff, Nat.reduceAdd, bx, ax, if_true, if_false, Nat.reduceMul, Nat.reduceLeDiff, fs, d1]; exact rfl); (· rfl))
      | refine Wp.skip ?_
      | refine Wp.label ?_
      | refine Wp.block ?_
      | refine Wp.exit ?_
      | refine Wp.seq ?_)
    exact Wp.ret ⟨trivial, _, rfl, stop 2 hres⟩
  · have d1 := decide_eq_false p1
    by_cases p2 : S.last < mark
    · have d2 := decide_eq_true p2
      have hres : vacuumB S mark = (S, 2) := by rw [vacuumB, if_pos (.inr p2)]
      repeat (first
        | ((first | apply Wp.seqItemsR | apply Wp.itemsR | ((first
            | (refine WpItems.glook ?_ ?_ (made_r hF) (by first | exact fun j o h => h | exact ok.sub (by simp) | assumption) (fun ids => ?_); (· simp only [go_sem, reduceIte, Nat.reduceEqDiff, Nat.reduceAdd, bx]); (· simp only [go_sem, reduceIte, Nat.reduceEqDiff, Nat.reduceAdd, bx, List.map]; first | exact VSubs.refl _ | (repeat (first | exact VSubs.nil | refine VSubs.cons (by first | exact VSub.refl _ | assumption | exact VSub.cap | exact VSub.any _) ?_))))); apply WpItems.evR)); (· simp only [go_sem, reduceIte, Nat.reduceEqDiff, Nat.reduceAdd, bx, ax, if_true, if_false, Nat.reduceMul, Nat.reduceLeDiff, fs, d1, d2]; exact rfl))
        | (refine WpItems.nil ⟨?_, ?_⟩; (· first | trivial | simp [pairsQ, pairsOk, apart, ent0]))
        | (apply Wp.cond_lit; (· simp only [go_sem, reduceIte, Nat.reduceEqDiff, Nat.reduceAdd, bx, ax, if_true, if_false, Nat.reduceMul, Nat.reduceLeDiff, fs, d1, d2]; exact rfl); (· rfl))
        | refine Wp.skip ?_
        | refine Wp.label ?_
        | refine Wp.block ?_
        | refine Wp.exit ?_
        | refine Wp.seq ?_)
      exact Wp.ret ⟨trivial, _, rfl, stop 2 hres⟩
    · have d2 := decide_eq_false p2
      have hres : vacuumB S mark = ({ vacS mark S (keysOf S.L) with mark := mark }, 0) := by rw [vacuumB, if_neg (by omega)]
      have hkl : (keysOf S.L).length = S.L.length := by simp [keysOf]
      have hS1 := hS.1
      by_cases hz : keysOf S.L = []
      · rw [hz] at hK
        obtain ⟨objs, idk, ho, hi, hb⟩ := clone0 hK
        have g1 : decide ((0 : Int) < ((0 : Nat) : Int)) = false := rfl
        repeat (first
          | ((first | apply Wp.seqItemsR | apply Wp.itemsR | ((first
              | (refine WpItems.glook ?_ ?_ (made_r hF) (by first | exact fun j o h => h | exact ok.sub (by simp) | assumption) (fun ids => ?_); (· simp only [go_sem, reduceIte, Nat.reduceEqDiff, Nat.reduceAdd, bx]); (· simp only [go_sem, reduceIte, Nat.reduceEqDiff, Nat.reduceAdd, bx, List.map]; first | exact VSubs.refl _ | (repeat (first | exact VSubs.nil | refine VSubs.cons (by first | exact VSub.refl _ | assumption | exact VSub.cap | exact VSub.any _) ?_))))); apply WpItems.evR)); (· simp only [go_sem, reduceIte, Nat.reduceEqDiff, Nat.reduceAdd, bx, ax, if_true, if_false, Nat.reduceMul, Nat.reduceLeDiff, fs, d1, d2]; exact rfl))
          | (refine WpItems.nil ⟨?_, ?_⟩; (· first | trivial | simp [pairsQ, pairsOk, apart, ent0]))
          | (apply Wp.cond_lit; (· simp only [go_sem, reduceIte, Nat.reduceEqDiff, Nat.reduceAdd, bx, ax, if_true, if_false, Nat.reduceMul, Nat.reduceLeDiff, fs, d1, d2]; exact rfl); (· rfl))
          | refine Wp.skip ?_
          | refine Wp.label ?_
          | refine Wp.block ?_
          | refine Wp.exit ?_
          | refine Wp.seq ?_)
        refine WpItems.rcall idk (by simp only [go_sem]) (by simp only [go_sem, reduceIte, Nat.reduceEqDiff, List.map]; exact VSubs.refl _) (fun id o h => ok.sub (by simp) id o (ho id o h)) hi hb ?_
        refine WpItems.evR (by simp only [go_sem, reduceIte, Nat.reduceEqDiff, Nat.reduceAdd, bx]; exact rfl) ?_
        refine WpItems.nil ⟨by trivial, ?_⟩
        repeat (first
          | ((first | apply Wp.seqItemsR | apply Wp.itemsR); (· simp only [go_sem, reduceIte, Nat.reduceEqDiff, Nat.reduceAdd, bx, ax, if_true, if_false, Nat.reduceMul, Nat.reduceLeDiff, g1]; exact rfl))
          | (refine WpItems.nil ⟨?_, ?_⟩; (· first | trivial | simp [pairsQ, pairsOk, apart, ent0]))
          | (apply Wp.cond_lit; (· simp only [go_sem, reduceIte, Nat.reduceEqDiff, Nat.reduceAdd, bx, ax, if_true, if_false, Nat.reduceMul, Nat.reduceLeDiff, g1]; exact rfl); (· rfl))
          | refine Wp.skip ?_
          | refine Wp.label ?_
          | refine Wp.block ?_
          | refine Wp.exit ?_
          | refine Wp.seq ?_)
        refine Wp.loopL (WpL.next ?_)
        repeat (first
          | ((first | apply Wp.seqItemsR | apply Wp.itemsR); (· simp only [go_sem, reduceIte, Nat.reduceEqDiff, Nat.reduceAdd, bx, ax, if_true, if_false, Nat.reduceMul, Nat.reduceLeDiff, g1, fs]; exact rfl))
          | (refine WpItems.nil ⟨?_, ?_⟩; (· first | trivial | simp [pairsQ, pairsOk, apart, ent0]))
          | (apply Wp.cond_lit; (· simp only [go_sem, reduceIte, Nat.reduceEqDiff, Nat.reduceAdd, bx, ax, if_true, if_false, Nat.reduceMul, Nat.reduceLeDiff, g1, fs]; exact rfl); (· rfl))
          | refine Wp.skip ?_
          | refine Wp.label ?_
          | refine Wp.block ?_
          | refine Wp.exit ?_
          | refine Wp.seq ?_)
        have hz2 : vacS mark S (keysOf S.L) = S := by rw [hz]; rfl
        rw [hz2] at hres
        have on3 := On.put (o := .cells [K, .mp c, .int .i64 S.last, .int .i64 mark]) ok (by rw [hs]; rfl)
        have hF3 := hF.times hs S.last mark
        refine Wp.ret ⟨trivial, .int .i64 0, rfl, .int .i64 (vacuumB S mark).2, [⟨upd F.o s (some (.cells [K, .mp c, .int .i64 S.last, .int .i64 mark])), F.k⟩], ?_⟩
        rw [upd_lay]
        refine on3.ends (by rw [hres]; exact VSub.refl _) ⟨rfl, _, rfl, ?_⟩
        rw [hres]; exact hF3
      · rcases hK with ⟨rfl, h2⟩ | ⟨k, rfl, h2, h3, h4⟩
        · exact absurd h2 hz
        · repeat (first
            | ((first | apply Wp.seqItemsR | apply Wp.itemsR | ((first
                | (refine WpItems.glook ?_ ?_ (made_r hF) (by first | exact fun j o h => h | exact ok.sub (by simp) | assumption) (fun ids => ?_); (· simp only [go_sem, reduceIte, Nat.reduceEqDiff, Nat.reduceAdd, bx]); (· simp only [go_sem, reduceIte, Nat.reduceEqDiff, Nat.reduceAdd, bx, List.map]; first | exact VSubs.refl _ | (repeat (first | exact VSubs.nil | refine VSubs.cons (by first | exact VSub.refl _ | assumption | exact VSub.cap | exact VSub.any _) ?_))))); apply WpItems.evR)); (· simp only [go_sem, reduceIte, Nat.reduceEqDiff, Nat.reduceAdd, bx, ax, if_true, if_false, Nat.reduceMul, Nat.reduceLeDiff, fs, d1, d2]; exact rfl))
            | (refine WpItems.nil ⟨?_, ?_⟩; (· first | trivial | simp [pairsQ, pairsOk, apart, ent0]))
            | (apply Wp.cond_lit; (· simp only [go_sem, reduceIte, Nat.reduceEqDiff, Nat.reduceAdd, bx, ax, if_true, if_false, Nat.reduceMul, Nat.reduceLeDiff, fs, d1, d2]; exact rfl); (· rfl))
            | refine Wp.skip ?_
            | refine Wp.label ?_
            | refine Wp.block ?_
            | refine Wp.exit ?_
            | refine Wp.seq ?_)
          have fk := ok.at0 h2
          have hkn := ok.lt (by simp) h2
          refine WpItems.acall (by simp only [go_sem]) (by simp only [go_sem, reduceIte, Nat.reduceEqDiff, List.map]; exact VSubs.refl _) (cloneK_look (keysOf S.L) hz (by omega) k n m hkn) (touch_gen _ _ _ (ids := [k]) ⟨fun j o h => ?_, fun t h => by simp [H.only] at h⟩ rfl rfl (fun id h => ?_) (by simp [H.only]) (by simp [H.only])) ?_
          · simp only [H.only, upd, none'] at h
            split at h
            · rename_i e; subst e; cases h; exact fk
            · cases h
          · simp only [H.only, upd, none'] at h
            split at h
            · rename_i e; simp [e]
            · cases h
          rw [patch_new fk]
          refine WpItems.evR (by simp only [go_sem, reduceIte, Nat.reduceEqDiff, Nat.reduceAdd, bx]; exact rfl) ?_
          refine WpItems.nil ⟨by trivial, ?_⟩
          refine Wp.block ?_
          have ok2 := ok.more (.cells (strs (keysOf S.L)))
          refine Wp.loopG (β := Nat) [0, 1, 30, 31] (by simp only [go_sem, reduceIte, Nat.reduceEqDiff, List.map]; exact rfl) (fun i => [(32, .int .i64 (i : Nat))]) (fun i L => i ≤ (keysOf S.L).length ∧ ∃ F', L = [ob n (.cells (strs (keysOf S.L))), F'] ∧ SpcF s (vacS mark S ((keysOf S.L).take i)) F') (fun i => (keysOf S.L).length - i) 0 ⟨Nat.zero_le _, F, rfl, hF⟩ ok2 (by simp only [AllSub, go_sem, reduceIte, Nat.reduceEqDiff]; exact ⟨VSub.refl _, trivial⟩) ?_
          rintro i L n1 T1 m1 on ⟨hi, F', rfl, hF'⟩
          obtain ⟨c', M', K', hM', hsc', hs', hc', hK'⟩ := hF'.go
          by_cases hi2 : i < (keysOf S.L).length
          · have g1 : decide (((i : Nat) : Int) < (((keysOf S.L).length : Nat) : Int)) = true := decide_eq_true (by omega)
            have h2 : (0 : Int) ≤ ((i : Nat) : Int) := by omega
            have h3 : ((i : Nat) : Int) < (((keysOf S.L).length : Nat) : Int) := by omega
            have e1 : IntKind.i64.wrap (((i : Nat) : Int) + 1) = ((i + 1 : Nat) : Int) := by rw [IntWalk.i64_in _ (by omega)]; omega
            have gk := lay_ob_at n (.cells (strs (keysOf S.L))) [F']
            have gs := on.ok.sub (F := F') (by simp) _ _ hs'
            have gc := on.ok.sub (F := F') (by simp) _ _ hc'
            have hget : (strs (keysOf S.L))[i]? = some (.str ((keysOf S.L).getD i [])) := by
              simp [strs, hi2]
            have hdo := vacS_snoc mark S (keysOf S.L) hi2
            obtain ⟨hS', hr'⟩ := vacS_ok mark ((keysOf S.L).take i) S hS hr
            generalize (keysOf S.L).getD i [] = q at *
            generalize vacS mark S ((keysOf S.L).take i) = S' at *
            have hv := vacuum_p (mget S'.L q) (by have := hS'.2 q; omega) mark
            have hlk := look_sub M' q
            rw [hM'.eq] at hlk
            unfold vAV at hlk
            have fit : VSubs [lookAV (.sl 3 [] (.exact 0)) false (mres M' q), .int .i64 mark] [.sl 3 ((mget S'.L q).map encV) .any, .int .i64 mark] := VSubs.cons hlk (VSubs.refl _)
            repeat (first
              | ((first | apply Wp.seqItemsR | apply Wp.itemsR | ((first
                  | (refine WpItems.pcall ?_ ?_ (hv) ?_; (· simp only [go_sem, reduceIte, Nat.reduceEqDiff, Nat.reduceAdd, bx]); (· simp only [go_sem, reduceIte, Nat.reduceEqDiff, Nat.reduceAdd, bx, List.map]; exact fit))); apply WpItems.evR)); (· simp only [go_sem, reduceIte, Nat.reduceEqDiff, Nat.reduceAdd, bx, ax, if_true, if_false, Nat.reduceMul, Nat.reduceLeDiff, g1, h2, h3, gk, hget, gs, gc, mfind_enc, Nat.zero_add, Nat.mul_one]; exact rfl))
              | (refine WpItems.nil ⟨?_, ?_⟩; (· first | trivial | simp [pairsQ, pairsOk, apart, ent0]))
              | (apply Wp.cond_lit; (· simp only [go_sem, reduceIte, Nat.reduceEqDiff, Nat.reduceAdd, bx, ax, if_true, if_false, Nat.reduceMul, Nat.reduceLeDiff, g1, h2, h3, gk, hget, gs, gc, mfind_enc, Nat.zero_add, Nat.mul_one]; exact rfl); (· rfl))
              | refine Wp.skip ?_
              | refine Wp.label ?_
              | refine Wp.block ?_
              | refine Wp.exit ?_
              | refine Wp.seq ?_)
            refine WpItems.gcall [_] [F'] [] (by simp only [go_sem]) (by simp only [go_sem, reduceIte, Nat.reduceEqDiff, List.map]; exact VSubs.refl _) (set_g hF' hr' hS'.1 q (vacB (mget S'.L q) mark)) on.ok fun r G' n' m' ids hq hn' hm' ok3 wi ki => ?_
            obtain ⟨rfl, F2, rfl, hF2⟩ := hq
            refine WpItems.evR (by simp only [go_sem, reduceIte, Nat.reduceEqDiff, Nat.reduceAdd, bx]; exact rfl) ?_
            refine WpItems.nil ⟨by trivial, ?_⟩
            repeat (first
              | ((first | apply Wp.seqItemsR | apply Wp.itemsR); (· simp only [go_sem, reduceIte, Nat.reduceEqDiff, Nat.reduceAdd, bx, ax, if_true, if_false, Nat.reduceMul, Nat.reduceLeDiff, e1]; exact rfl))
              | (refine WpItems.nil ⟨?_, ?_⟩; (· first | trivial | simp [pairsQ, pairsOk, apart, ent0]))
              | (apply Wp.cond_lit; (· simp only [go_sem, reduceIte, Nat.reduceEqDiff, Nat.reduceAdd, bx, ax, if_true, if_false, Nat.reduceMul, Nat.reduceLeDiff, e1]; exact rfl); (· rfl))
              | refine Wp.skip ?_
              | refine Wp.label ?_
              | refine Wp.block ?_
              | refine Wp.exit ?_
              | refine Wp.seq ?_)
            refine ⟨i + 1, [_, F2], n', _, m', ⟨hn', hm', ok3, wi, ki⟩, ⟨by omega, F2, rfl, ?_⟩, by omega, ?_⟩
            · rw [hdo]; exact hF2
            · refine StLe.tm (by simp only [AllSub, go_sem, reduceIte, Nat.reduceEqDiff, Nat.reduceAdd, bx]; and_intros <;> first | exact trivial | exact VSub.refl _ | exact VSub.any _ | (refine VSub.int ?_; omega))
          · have hie : i = (keysOf S.L).length := by omega
            subst hie
            have g1 : decide ((((keysOf S.L).length : Nat) : Int) < (((keysOf S.L).length : Nat) : Int)) = false := decide_eq_false (by omega)
            rw [List.take_length] at hF' hs'
            repeat (first
              | ((first | apply Wp.seqItemsR | apply Wp.itemsR); (· simp only [go_sem, reduceIte, Nat.reduceEqDiff, Nat.reduceAdd, bx, ax, if_true, if_false, Nat.reduceMul, Nat.reduceLeDiff, g1]; exact rfl))
              | (refine WpItems.nil ⟨?_, ?_⟩; (· first | trivial | simp [pairsQ, pairsOk, apart, ent0]))
              | (apply Wp.cond_lit; (· simp only [go_sem, reduceIte, Nat.reduceEqDiff, Nat.reduceAdd, bx, ax, if_true, if_false, Nat.reduceMul, Nat.reduceLeDiff, g1]; exact rfl); (· rfl))
              | refine Wp.skip ?_
              | refine Wp.label ?_
              | refine Wp.block ?_
              | refine Wp.exit ?_
              | refine Wp.seq ?_)
            refine Wp.le (StLe.of (fun i => VSub.refl _) (ole_drop_ob (Ok.alone on.ok)) (fun _ h => h) (Nat.le_refl _) (Nat.le_refl _)) ?_
            have on2 := On.under on
            have gs := on2.ok.at0 hs'
            repeat (first
              | ((first | apply Wp.seqItemsR | apply Wp.itemsR); (· simp only [go_sem, reduceIte, Nat.reduceEqDiff, Nat.reduceAdd, bx, ax, if_true, if_false, Nat.reduceMul, Nat.reduceLeDiff, gs]; exact rfl))
              | (refine WpItems.nil ⟨?_, ?_⟩; (· first | trivial | simp [pairsQ, pairsOk, apart, ent0]))
              | (apply Wp.cond_lit; (· simp only [go_sem, reduceIte, Nat.reduceEqDiff, Nat.reduceAdd, bx, ax, if_true, if_false, Nat.reduceMul, Nat.reduceLeDiff, gs]; exact rfl); (· rfl))
              | refine Wp.skip ?_
              | refine Wp.label ?_
              | refine Wp.block ?_
              | refine Wp.exit ?_
              | refine Wp.seq ?_)
            have on3 := on2.step (On.put (o := .cells [K', .mp c', .int .i64 (vacS mark S (keysOf S.L)).last, .int .i64 mark]) on2.ok (by rw [hs']; rfl))
            have hF3 := hF'.times hs' (vacS mark S (keysOf S.L)).last mark
            refine Wp.ret ⟨trivial, .int .i64 0, rfl, .int .i64 (vacuumB S mark).2, [⟨upd F'.o s (some (.cells [K', .mp c', .int .i64 (vacS mark S (keysOf S.L)).last, .int .i64 mark])), F'.k⟩], ?_⟩
            rw [upd_lay]
            refine on3.ends (by rw [hres]; exact VSub.refl _) ⟨rfl, _, rfl, ?_⟩
            rw [hres]; exact hF3
end Go.Proofs.Ytpehfflehebmbaa.Space
end
section
set_option linter.unusedSimpArgs false
set_option linter.unusedVariables false
set_option maxRecDepth 10000
namespace Go.Proofs.Ytpehfflehebmbaa.Space
open Go Go.Av Go.Proofs Go.Proofs.Ytpehfflehebmbaa.C Go.Proofs.Ytpehfflehebmbaa.Batch
instance : Inhabited It := ⟨([], [])⟩
def encI (p : It) : AV := .agg [.str p.1, vAV p.2]
theorem mget_at {L : List It} (h : RiseL L) {i : Nat} (hi : i < L.length) : mget L ((keysOf L).getD i []) = (L.getD i default).2 := by
  have hk : (keysOf L).length = L.length := by simp [keysOf]
  have key : ∀ (L : List It), (L.map (·.1)).Pairwise (fun a b => a ≠ b) → ∀ i (hi : i < L.length), mget L (L[i]).1 = (L[i]).2 := by
    intro L
    induction L with
    | nil => intro _ i hi; simp at hi
    | cons p L ih =>
      intro hp i hi
      rw [List.map_cons, List.pairwise_cons] at hp
      cases i with
      | zero => simp [mget]
      | succ i =>
        have hi' : i < L.length := by simpa using hi
        have : p.1 ≠ (L[i]).1 := hp.1 _ (List.mem_map.2 ⟨L[i], List.getElem_mem hi', rfl⟩)
        simp only [List.getElem_cons_succ, mget, if_neg this]
        exact ih hp.2 i hi'
  have hp : (L.map (·.1)).Pairwise (fun a b => a ≠ b) := List.Pairwise.imp (fun {a b} h e => by rw [e, less_irrefl] at h; cases h) h
  rw [getD_el (by omega), getD_el hi]
  have := key L hp i hi
  simpa [keysOf] using this
set_option maxHeartbeats 1000000 in
theorem items_g {s : Nat} {S : Spc} {F : Fr} (hF : SpcF s S F) (hr : RiseL S.L) (hS : Small S) : GCalls Try.prog 24 [.ptr s 0] [F] (fun r l => r = .sl 2 (S.L.map encI) .any ∧ l = [F]) := by
  obtain ⟨c, M, K, hM, hsc, hs, hc, hK⟩ := hF.go
  refine f24.gsame (by simp) fun n m ok => ?_
  unfold c24
  have ksF : ks [F] = [] := by simp [ks, hF.k]
  rw [ksF] at ok ⊢
  have fs := ok.at0 hs
  have fc := ok.at0 hc
  have hkl : (keysOf S.L).length = S.L.length := by simp [keysOf]
  have hS1 := hS.1
  rcases hK with ⟨rfl, h2⟩ | ⟨k, rfl, h2, h3, h4⟩
  · have g1 : decide ((0 : Int) < ((0 : Nat) : Int)) = false := rfl
    have hL : S.L = [] := by simpa [keysOf] using h2
    repeat (first
      | ((first | apply Wp.seqItemsR | apply Wp.itemsR | ((first
          | (refine WpItems.glook ?_ ?_ (made_r hF) (by first | exact fun j o h => h | exact ok.sub (by simp) | assumption) (fun ids => ?_); (· simp only [go_sem, reduceIte, Nat.reduceEqDiff, Nat.reduceAdd, bx]); (· simp only [go_sem, reduceIte, Nat.reduceEqDiff, Nat.reduceAdd, bx, List.map]; first | exact VSubs.refl _ | (repeat (first | exact VSubs.nil | refine VSubs.cons (by first | exact VSub.refl _ | assumption | exact VSub.cap | exact VSub.any _) ?_))))); apply WpItems.evR)); (· simp only [go_sem, reduceIte, Nat.reduceEqDiff, Nat.reduceAdd, bx, ax, if_true, if_false, Nat.reduceMul, Nat.reduceLeDiff, fs]; exact rfl))
      | (refine WpItems.nil ⟨?_, ?_⟩; (· first | trivial | simp [pairsQ, pairsOk, apart, ent0]))
      | (apply Wp.cond_lit; (· simp only [go_sem, reduceIte, Nat.reduceEqDiff, Nat.reduceAdd, bx, ax, if_true, if_false, Nat.reduceMul, Nat.reduceLeDiff, fs]; exact rfl); (· rfl))
      | refine Wp.skip ?_
      | refine Wp.label ?_
      | refine Wp.block ?_
      | refine Wp.exit ?_
      | refine Wp.seq ?_)
    refine Wp.loopL (WpL.next ?_)
    repeat (first
      | ((first | apply Wp.seqItemsR | apply Wp.itemsR); (· simp only [go_sem, reduceIte, Nat.reduceEqDiff, Nat.reduceAdd, bx, ax, if_true, if_false, Nat.reduceMul, Nat.reduceLeDiff, g1]; exact rfl))
      | (refine WpItems.nil ⟨?_, ?_⟩; (· first | trivial | simp [pairsQ, pairsOk, apart, ent0]))
      | (apply Wp.cond_lit; (· simp only [go_sem, reduceIte, Nat.reduceEqDiff, Nat.reduceAdd, bx, ax, if_true, if_false, Nat.reduceMul, Nat.reduceLeDiff, g1]; exact rfl); (· rfl))
      | refine Wp.skip ?_
      | refine Wp.label ?_
      | refine Wp.block ?_
      | refine Wp.exit ?_
      | refine Wp.seq ?_)
    refine Wp.ret ⟨trivial, _, rfl, ?_, fun j hj => rfl, fun t ht => ht⟩
    rw [hL]; exact VSub.cap
  · have fk := ok.at0 h2
    repeat (first
      | ((first | apply Wp.seqItemsR | apply Wp.itemsR | ((first
          | (refine WpItems.glook ?_ ?_ (made_r hF) (by first | exact fun j o h => h | exact ok.sub (by simp) | assumption) (fun ids => ?_); (· simp only [go_sem, reduceIte, Nat.reduceEqDiff, Nat.reduceAdd, bx]); (· simp only [go_sem, reduceIte, Nat.reduceEqDiff, Nat.reduceAdd, bx, List.map]; first | exact VSubs.refl _ | (repeat (first | exact VSubs.nil | refine VSubs.cons (by first | exact VSub.refl _ | assumption | exact VSub.cap | exact VSub.any _) ?_))))); apply WpItems.evR)); (· simp only [go_sem, reduceIte, Nat.reduceEqDiff, Nat.reduceAdd, bx, ax, if_true, if_false, Nat.reduceMul, Nat.reduceLeDiff, fs]; exact rfl))
      | (refine WpItems.nil ⟨?_, ?_⟩; (· first | trivial | simp [pairsQ, pairsOk, apart, ent0]))
      | (apply Wp.cond_lit; (· simp only [go_sem, reduceIte, Nat.reduceEqDiff, Nat.reduceAdd, bx, ax, if_true, if_false, Nat.reduceMul, Nat.reduceLeDiff, fs]; exact rfl); (· rfl))
      | refine Wp.skip ?_
      | refine Wp.label ?_
      | refine Wp.block ?_
      | refine Wp.exit ?_
      | refine Wp.seq ?_)
    refine Wp.le (StLe.tok _ _) ?_
    refine Wp.loopTok (β := Nat) [0, 12, 13] (by simp only [go_sem, reduceIte, Nat.reduceEqDiff, List.map]; exact rfl) (fun j tk => [(14, .int .i64 (j : Nat)), (3, .sl 2 ((S.L.take j).map encI) (.own tk))]) (fun j => j ≤ S.L.length) (fun j => S.L.length - j) 0 m (Nat.zero_le _) rfl ?_ ?_
    · simp only [AllSub, go_sem, reduceIte, Nat.reduceEqDiff]
      exact ⟨VSub.refl _, VSub.own_of rfl, trivial⟩
    intro j tk m1 hj
    by_cases hj2 : j < S.L.length
    · have g1 : decide (((j : Nat) : Int) < (((keysOf S.L).length : Nat) : Int)) = true := decide_eq_true (by omega)
      have h2 : (0 : Int) ≤ ((j : Nat) : Int) := by omega
      have h3 : ((j : Nat) : Int) < (((keysOf S.L).length : Nat) : Int) := by omega
      have e1 : IntKind.i64.wrap (((j : Nat) : Int) + 1) = ((j + 1 : Nat) : Int) := by rw [IntWalk.i64_in _ (by omega)]; omega
      have hget : (strs (keysOf S.L))[j]? = some (.str ((keysOf S.L).getD j [])) := by
        have : j < (keysOf S.L).length := by omega
        simp [strs, this]
      have hmg := mget_at hr hj2
      have hkj : (keysOf S.L).getD j [] = (S.L.getD j default).1 := by
        rw [getD_el (by omega), getD_el hj2]; simp [keysOf]
      have hstep : (S.L.take (j + 1)).map encI = (S.L.take j).map encI ++ [encI (S.L.getD j default)] := by
        rw [take_snoc default hj2, List.map_append]; rfl
      have hlk := look_sub M ((keysOf S.L).getD j [])
      rw [hM.eq, hmg] at hlk
      have hlen := hS.2 ((keysOf S.L).getD j [])
      rw [hmg] at hlen
      rw [hkj] at hlk hget
      generalize S.L.getD j default = x at *
      have hcl := clone_p x.2 (by omega)
      unfold vAV at hlk
      have fit : VSubs [lookAV (.sl 3 [] (.exact 0)) false (mres M x.1)] [.sl 3 (x.2.map encV) .any] := VSubs.cons hlk VSubs.nil
      have hm : ((S.L.take j).map encI).length = j := by simp; omega
      have rm1 : (j + 1) * 40 ≤ 140737488355328 := by omega
      have rm2 : j + 1 < 4611686018427387904 := by omega
      repeat (first
        | ((first | apply Wp.seqItemsR | apply Wp.itemsR | ((first
            | (refine WpItems.pcall ?_ ?_ (hcl) ?_; (· simp only [go_sem, reduceIte, Nat.reduceEqDiff, Nat.reduceAdd, bx]); (· simp only [go_sem, reduceIte, Nat.reduceEqDiff, Nat.reduceAdd, bx, List.map]; exact fit))); apply WpItems.evR)); (· simp only [go_sem, reduceIte, Nat.reduceEqDiff, Nat.reduceAdd, bx, ax, if_true, if_false, Nat.reduceMul, Nat.reduceLeDiff, g1, h2, h3, fk, hget, fs, fc, mfind_enc, Nat.zero_add, Nat.mul_one, hm, rm1, rm2, List.mem_singleton, List.length_cons, List.length_nil, e1]; exact rfl))
        | (refine WpItems.nil ⟨?_, ?_⟩; (· first | trivial | simp [pairsQ, pairsOk, apart, ent0]))
        | (apply Wp.cond_lit; (· simp only [go_sem, reduceIte, Nat.reduceEqDiff, Nat.reduceAdd, bx, ax, if_true, if_false, Nat.reduceMul, Nat.reduceLeDiff, g1, h2, h3, fk, hget, fs, fc, mfind_enc, Nat.zero_add, Nat.mul_one, hm, rm1, rm2, List.mem_singleton, List.length_cons, List.length_nil, e1]; exact rfl); (· rfl))
        | refine Wp.skip ?_
        | refine Wp.label ?_
        | refine Wp.block ?_
        | refine Wp.exit ?_
        | refine Wp.seq ?_)
      refine ⟨j + 1, m1, m1 + 1, by omega, by omega, ?_⟩
      rw [hstep]
      refine StLe.tm (by simp only [AllSub, go_sem, reduceIte, Nat.reduceEqDiff, Nat.reduceAdd, bx]; and_intros <;> first | exact trivial | exact VSub.refl _ | exact VSub.any _ | (refine VSub.int ?_; omega))
    · have hje : j = S.L.length := by omega
      subst hje
      rw [hkl]
      have g1 : decide (((S.L.length : Nat) : Int) < ((S.L.length : Nat) : Int)) = false := decide_eq_false (by omega)
      repeat (first
        | ((first | apply Wp.seqItemsR | apply Wp.itemsR); (· simp only [go_sem, reduceIte, Nat.reduceEqDiff, Nat.reduceAdd, bx, ax, if_true, if_false, Nat.reduceMul, Nat.reduceLeDiff, g1]; exact rfl))
        | (refine WpItems.nil ⟨?_, ?_⟩; (· first | trivial | simp [pairsQ, pairsOk, apart, ent0]))
        | (apply Wp.cond_lit; (· simp only [go_sem, reduceIte, Nat.reduceEqDiff, Nat.reduceAdd, bx, ax, if_true, if_false, Nat.reduceMul, Nat.reduceLeDiff, g1]; exact rfl); (· rfl))
        | refine Wp.skip ?_
        | refine Wp.label ?_
        | refine Wp.block ?_
        | refine Wp.exit ?_
        | refine Wp.seq ?_)
      refine Wp.ret ⟨trivial, _, rfl, ?_, fun j hj => rfl, fun t ht => by simp at ht⟩
      rw [List.take_length]; exact VSub.cap
end Go.Proofs.Ytpehfflehebmbaa.Space
end
section
set_option linter.unusedSimpArgs false
set_option linter.unusedVariables false
set_option maxRecDepth 10000
namespace Go.Proofs.Ytpehfflehebmbaa.Space
open Go Go.Av Go.Proofs Go.Proofs.Ytpehfflehebmbaa.C Go.Proofs.Ytpehfflehebmbaa.Batch
def layL (A : List It) (l : List It) : List It := l.foldl (fun A p => setL A p.1 p.2) A
theorem layL_snoc (A l : List It) {j : Nat} (h : j < l.length) : layL A (l.take (j + 1)) = setL (layL A (l.take j)) (l.getD j default).1 (l.getD j default).2 := by
  rw [take_snoc default h, layL, List.foldl_append]; rfl
theorem layL_ok : ∀ (l A : List It), RiseL A → RiseL (layL A l) ∧ (layL A l).length ≤ A.length + l.length
  | [], A, h => ⟨h, Nat.le_refl _⟩
  | p :: l, A, h => by
    obtain ⟨h1, h2⟩ := layL_ok l (setL A p.1 p.2) (setL_rise h _ _)
    have := setL_len A p.1 p.2
    refine ⟨h1, ?_⟩
    show (layL (setL A p.1 p.2) l).length ≤ _
    simp only [List.length_cons]; omega
set_option maxHeartbeats 1000000 in
theorem copy_g {s : Nat} {S : Spc} {F : Fr} (hF : SpcF s S F) (hr : RiseL S.L) (hS : Small S) : GCalls Try.prog 25 [.ptr s 0] [F] (fun r l => ∃ s' F', r = .ptr s' 0 ∧ l = [F', F] ∧ SpcF s' ⟨layL [] S.L, S.last, S.mark⟩ F') := by
  obtain ⟨c, M, K, hM, hsc, hs, hc, hK⟩ := hF.go
  refine f25.gcalls (by simp) fun n m ok => ?_
  unfold c25
  have fs := ok.at0 hs
  have hS1 := hS.1
  repeat (first
    | ((first | apply Wp.seqItemsR | apply Wp.itemsR | ((first
        | (refine WpItems.glook ?_ ?_ (made_r hF) (by first | exact fun j o h => h | exact ok.sub (by simp) | assumption) (fun ids => ?_); (· simp only [go_sem, reduceIte, Nat.reduceEqDiff, Nat.reduceAdd, bx]); (· simp only [go_sem, reduceIte, Nat.reduceEqDiff, Nat.reduceAdd, bx, List.map]; first | exact VSubs.refl _ | (repeat (first | exact VSubs.nil | refine VSubs.cons (by first | exact VSub.refl _ | assumption | exact VSub.cap | exact VSub.any _) ?_))))); apply WpItems.evR)); (· simp only [go_sem, reduceIte, Nat.reduceEqDiff, Nat.reduceAdd, bx, ax, if_true, if_false, Nat.reduceMul, Nat.reduceLeDiff, fs]; exact rfl))
    | (refine WpItems.nil ⟨?_, ?_⟩; (· first | trivial | simp [pairsQ, pairsOk, apart, ent0]))
    | (apply Wp.cond_lit; (· simp only [go_sem, reduceIte, Nat.reduceEqDiff, Nat.reduceAdd, bx, ax, if_true, if_false, Nat.reduceMul, Nat.reduceLeDiff, fs]; exact rfl); (· rfl))
    | refine Wp.skip ?_
    | refine Wp.label ?_
    | refine Wp.block ?_
    | refine Wp.exit ?_
    | refine Wp.seq ?_)
  refine WpItems.gcall [] [] [F] (by simp only [go_sem]) (by simp only [go_sem, reduceIte, Nat.reduceEqDiff, List.map]; exact VSubs.refl _) new_g ok fun r G' n1 m1 ids1 hq hn1 hm1 ok1 wi1 ki1 => ?_
  obtain ⟨s', F1, rfl, rfl, hF1⟩ := hq
  obtain ⟨c1, M1, K1, hM1, hsc1, hs1, hc1, hK1⟩ := hF1.go
  have on1 : On [F] n m [F1, F] n1 _ m1 := ⟨hn1, hm1, ok1, wi1, ki1⟩
  have ok2 : Ok [F1, F] n1 _ m1 := ok1
  have gs := ok2.sub (F := F) (by simp) _ _ hs
  have gs1 := ok2.sub (F := F1) (by simp) _ _ hs1
  have hne : (s = s') = False := by
    simp only [eq_iff_iff, iff_false]
    rintro rfl
    rcases (List.pairwise_cons.1 ok2.dj).1 F (by simp) s with h | h
    · rw [hs1] at h; cases h
    · rw [hs] at h; cases h
  have hne' : (s' = s) = False := by simp only [eq_iff_iff, iff_false]; intro e; exact (hne ▸ (e.symm : s = s') : False)
  refine WpItems.evR (by simp only [go_sem, reduceIte, Nat.reduceEqDiff, Nat.reduceAdd, bx]; exact rfl) ?_
  refine WpItems.nil ⟨by trivial, ?_⟩
  repeat (first
    | ((first | apply Wp.seqItemsR | apply Wp.itemsR); (· simp only [go_sem, reduceIte, Nat.reduceEqDiff, Nat.reduceAdd, bx, ax, if_true, if_false, Nat.reduceMul, Nat.reduceLeDiff, gs, gs1, hne, hne']; exact rfl))
    | (refine WpItems.nil ⟨?_, ?_⟩; (· first | trivial | simp [pairsQ, pairsOk, apart, ent0]))
    | (apply Wp.cond_lit; (· simp only [go_sem, reduceIte, Nat.reduceEqDiff, Nat.reduceAdd, bx, ax, if_true, if_false, Nat.reduceMul, Nat.reduceLeDiff, gs, gs1, hne, hne']; exact rfl); (· rfl))
    | refine Wp.skip ?_
    | refine Wp.label ?_
    | refine Wp.block ?_
    | refine Wp.exit ?_
    | refine Wp.seq ?_)
  rw [upd_lay]
  have hF2 : SpcF s' ⟨[], S.last, 0⟩ _ := hF1.times hs1 S.last 0
  have on2 := on1.step (On.put (o := .cells [K1, .mp c1, .int .i64 S.last, .int .i64 0]) ok2 (by rw [hs1]; rfl))
  generalize hf2 : (⟨upd F1.o s' (some (.cells [K1, .mp c1, .int .i64 S.last, .int .i64 0])), F1.k⟩ : Fr) = F2 at *
  have f2 : F2.o s' = some (.cells [K1, .mp c1, .int .i64 S.last, .int .i64 0]) := by rw [← hf2]; simp [upd]
  rw [upd_lay]
  have hF3 : SpcF s' ⟨[], S.last, S.mark⟩ _ := hF2.times f2 S.last S.mark
  have on3 := on2.step (On.put (o := .cells [K1, .mp c1, .int .i64 S.last, .int .i64 S.mark]) on2.ok (by rw [f2]; rfl))
  generalize hf3 : (⟨upd F2.o s' (some (.cells [K1, .mp c1, .int .i64 S.last, .int .i64 S.mark])), F2.k⟩ : Fr) = F3 at *
  refine WpItems.gkeep [F3] [] (by simp only [go_sem]) (by simp only [go_sem, reduceIte, Nat.reduceEqDiff, List.map]; exact VSubs.refl _) (items_g hF hr hS) hF.k on3.ok fun n4 m4 ids4 hn4 hm4 ok4 => ?_
  have on4 : On [F] n m [F3, F] n4 _ m4 := on3.step ⟨hn4, hm4, ok4, .refl, .refl⟩
  have hil : (S.L.map encI).length = S.L.length := by simp
  refine WpItems.evR (by simp only [go_sem, reduceIte, Nat.reduceEqDiff, Nat.reduceAdd, bx, hil]; exact rfl) ?_
  refine WpItems.nil ⟨by trivial, ?_⟩
  refine Wp.block ?_
  refine Wp.loopG (β := Nat) [3, 25, 26] (by simp only [go_sem, reduceIte, Nat.reduceEqDiff, List.map]; exact rfl) (fun i => [(27, .int .i64 (i : Nat))]) (fun i L => i ≤ S.L.length ∧ ∃ F', L = [F', F] ∧ SpcF s' ⟨layL [] (S.L.take i), S.last, S.mark⟩ F') (fun i => S.L.length - i) 0 ⟨Nat.zero_le _, F3, rfl, hF3⟩ ok4 (by simp only [AllSub, go_sem, reduceIte, Nat.reduceEqDiff]; exact ⟨VSub.refl _, trivial⟩) ?_
  rintro i L n5 T5 m5 on ⟨hi, F', rfl, hF'⟩
  by_cases hi2 : i < S.L.length
  · have g1 : decide (((i : Nat) : Int) < ((S.L.length : Nat) : Int)) = true := decide_eq_true (by omega)
    have h2 : (0 : Int) ≤ ((i : Nat) : Int) := by omega
    have h3 : ((i : Nat) : Int) < ((S.L.length : Nat) : Int) := by omega
    have e1 : IntKind.i64.wrap (((i : Nat) : Int) + 1) = ((i + 1 : Nat) : Int) := by rw [IntWalk.i64_in _ (by omega)]; omega
    have hat := enc_at encI S.L i .any hi2
    have hdo := layL_snoc [] S.L hi2
    obtain ⟨hr', hl'⟩ := layL_ok (S.L.take i) [] (by simp [RiseL, Rise, keysOf])
    have hl2 : (layL [] (S.L.take i)).length ≤ 500000 := by
      rw [List.length_take] at hl'
      simp only [List.length_nil] at hl'
      omega
    generalize S.L.getD i default = x at *
    have ok6 := on.ok.more (.cells [.str x.1, vAV x.2])
    have g5 := lay_ob_at n5 (.cells [.str x.1, vAV x.2]) [F', F]
    repeat (first
      | ((first | apply Wp.seqItemsR | apply Wp.itemsR); (· simp only [go_sem, reduceIte, Nat.reduceEqDiff, Nat.reduceAdd, bx, ax, if_true, if_false, Nat.reduceMul, Nat.reduceLeDiff, g1, h2, h3, hat, hil, encI, vAV]; exact rfl))
      | (refine WpItems.nil ⟨?_, ?_⟩; (· first | trivial | simp [pairsQ, pairsOk, apart, ent0]))
      | (apply Wp.cond_lit; (· simp only [go_sem, reduceIte, Nat.reduceEqDiff, Nat.reduceAdd, bx, ax, if_true, if_false, Nat.reduceMul, Nat.reduceLeDiff, g1, h2, h3, hat, hil, encI, vAV]; exact rfl); (· rfl))
      | refine Wp.skip ?_
      | refine Wp.label ?_
      | refine Wp.block ?_
      | refine Wp.exit ?_
      | refine Wp.seq ?_)
    rw [upd_new, upd_ob]
    refine WpItems.gcall [_] [F'] [F] (by simp only [go_sem]) (by simp only [go_sem, reduceIte, Nat.reduceEqDiff, List.map]; exact VSubs.refl _) (set_g hF' hr' hl2 x.1 x.2) ok6 fun r G' n' m' ids hq hn' hm' ok7 wi ki => ?_
    obtain ⟨rfl, F5, rfl, hF5⟩ := hq
    have on7 : On [F', F] n5 m5 [F5, F] n' _ m' := On.under ⟨hn', hm', ok7, wi, ki⟩
    refine WpItems.evR (by simp only [go_sem, reduceIte, Nat.reduceEqDiff, Nat.reduceAdd, bx]; exact rfl) ?_
    refine WpItems.nil ⟨by trivial, ?_⟩
    repeat (first
      | ((first | apply Wp.seqItemsR | apply Wp.itemsR); (· simp only [go_sem, reduceIte, Nat.reduceEqDiff, Nat.reduceAdd, bx, ax, if_true, if_false, Nat.reduceMul, Nat.reduceLeDiff, e1]; exact rfl))
      | (refine WpItems.nil ⟨?_, ?_⟩; (· first | trivial | simp [pairsQ, pairsOk, apart, ent0]))
      | (apply Wp.cond_lit; (· simp only [go_sem, reduceIte, Nat.reduceEqDiff, Nat.reduceAdd, bx, ax, if_true, if_false, Nat.reduceMul, Nat.reduceLeDiff, e1]; exact rfl); (· rfl))
      | refine Wp.skip ?_
      | refine Wp.label ?_
      | refine Wp.block ?_
      | refine Wp.exit ?_
      | refine Wp.seq ?_)
    refine ⟨i + 1, [F5, F], n', _, m', on7, ⟨by omega, F5, rfl, ?_⟩, by omega, ?_⟩
    · rw [hdo]; exact hF5
    · refine StLe.of (tm_le ?_) (ole_drop_ob (Ok.alone ok7)) (fun _ h => h) (Nat.le_refl _) (Nat.le_refl _)
      simp only [AllSub, go_sem, reduceIte, Nat.reduceEqDiff, Nat.reduceAdd, bx]; and_intros <;> first | exact trivial | exact VSub.refl _ | exact VSub.any _ | (refine VSub.int ?_; omega)
  · have hie : i = S.L.length := by omega
    subst hie
    have g1 : decide (((S.L.length : Nat) : Int) < ((S.L.length : Nat) : Int)) = false := decide_eq_false (by omega)
    rw [List.take_length] at hF'
    repeat (first
      | ((first | apply Wp.seqItemsR | apply Wp.itemsR); (· simp only [go_sem, reduceIte, Nat.reduceEqDiff, Nat.reduceAdd, bx, ax, if_true, if_false, Nat.reduceMul, Nat.reduceLeDiff, g1]; exact rfl))
      | (refine WpItems.nil ⟨?_, ?_⟩; (· first | trivial | simp [pairsQ, pairsOk, apart, ent0]))
      | (apply Wp.cond_lit; (· simp only [go_sem, reduceIte, Nat.reduceEqDiff, Nat.reduceAdd, bx, ax, if_true, if_false, Nat.reduceMul, Nat.reduceLeDiff, g1]; exact rfl); (· rfl))
      | refine Wp.skip ?_
      | refine Wp.label ?_
      | refine Wp.block ?_
      | refine Wp.exit ?_
      | refine Wp.seq ?_)
    exact Wp.ret ⟨trivial, _, rfl, _, _, (on4.step on).ends (VSub.refl _) ⟨s', F', rfl, rfl, hF'⟩⟩
end Go.Proofs.Ytpehfflehebmbaa.Space
end
section
set_option linter.unusedSimpArgs false
set_option linter.unusedVariables false
set_option maxRecDepth 10000
namespace Go.Proofs.Ytpehfflehebmbaa.Space
open Go Go.Av Go.Proofs Go.Proofs.Ytpehfflehebmbaa.C Go.Proofs.Ytpehfflehebmbaa.Batch
def mayB (x : It) (ahead : Bs) (first : Bool) (last : Int) : Bool := decide ((x.1.length : Int) ≤ 128) && (first || Op.bytesLess ahead x.1) && decide (0 < x.2.length) && chB x.2 && decide ((x.2.getD 0 default).t ≤ last)
theorem may_p (x : It) (hl : x.2.length ≤ 1000000) (ahead : Bs) (first : Bool) (last : Int) : PCalls Try.prog 65 [encI x, .str ahead, .bool first, .int .i64 last] (.bool (mayB x ahead first last)) := by
  refine f65.pcalls0 (by simp) (by simp [allPure, isPure, capPure, encI, vAV, vers_pure]) rfl ?_
  unfold c65
  obtain ⟨q, vs⟩ := x
  have hck := check_p vs (by simp only at hl; omega)
  have i0 : (0 : Int) ≤ 0 := by omega
  have t0 : Int.toNat 0 = 0 := rfl
  by_cases h1 : (q.length : Int) ≤ 128
  · have d1 := decide_eq_true h1
    cases h2 : (first || Op.bytesLess ahead q) with
    | false =>
      rw [Bool.or_eq_false_iff] at h2
      repeat' (first
        | (refine WpItems.nil ⟨?_, ?_⟩; (· first | trivial | simp [pairsQ, pairsOk, apart, ent0]))
        | (apply WpItems.evU; (· simp only [go_sem, reduceIte, Nat.reduceEqDiff, Nat.reduceAdd, bx, ax, if_true, if_false, Nat.reduceMul, Nat.reduceLeDiff, encI, vAV, d1, h2.1, h2.2, List.length_map]; exact rfl); (· simp only [go_sem, reduceIte, Nat.reduceEqDiff, Nat.reduceAdd, bx, ax, if_true, if_false, Nat.reduceMul, Nat.reduceLeDiff, encI, vAV, d1, h2.1, h2.2, List.length_map]; exact rfl))
        | (apply WpItems.part 1; (· simp only [go_sem, reduceIte, Nat.reduceEqDiff, Nat.reduceAdd, bx, ax, if_true, if_false, Nat.reduceMul, Nat.reduceLeDiff, encI, vAV, d1, h2.1, h2.2, List.length_map]; exact rfl); (try simp only [List.drop_succ_cons, List.drop_zero, List.drop_nil]))
        | (refine WpItems.gsplit_dec (p := ?_) ?_ (fun hc => ?_) (fun hc => ?_); rotate_left; (· simp only [go_sem, reduceIte, Nat.reduceEqDiff, Nat.reduceAdd, bx, ax, if_true, if_false, Nat.reduceMul, Nat.reduceLeDiff, encI, vAV, d1, h2.1, h2.2, List.length_map]; exact rfl))
        | (refine WpItems.gsplit_ndec (p := ?_) ?_ (fun hc => ?_) (fun hc => ?_); rotate_left; (· simp only [go_sem, reduceIte, Nat.reduceEqDiff, Nat.reduceAdd, bx, ax, if_true, if_false, Nat.reduceMul, Nat.reduceLeDiff, encI, vAV, d1, h2.1, h2.2, List.length_map]; exact rfl))
        | (refine WpItems.gsplit (b := ?_) ?_ (fun hc => ?_) (fun hc => ?_); rotate_left; (· simp only [go_sem, reduceIte, Nat.reduceEqDiff, Nat.reduceAdd, bx, ax, if_true, if_false, Nat.reduceMul, Nat.reduceLeDiff, encI, vAV, d1, h2.1, h2.2, List.length_map]; exact rfl))
        | refine Wp.seqRegS ?_
        | refine Wp.regS ?_
        | (refine Wp.cond_true ?_ ?_; (· simp only [go_sem, reduceIte, Nat.reduceEqDiff, Nat.reduceAdd, bx, ax, if_true, if_false, Nat.reduceMul, Nat.reduceLeDiff, encI, vAV, d1, h2.1, h2.2, List.length_map]))
        | (refine Wp.cond_false ?_ ?_; (· simp only [go_sem, reduceIte, Nat.reduceEqDiff, Nat.reduceAdd, bx, ax, if_true, if_false, Nat.reduceMul, Nat.reduceLeDiff, encI, vAV, d1, h2.1, h2.2, List.length_map]))
        | (refine Wp.cond_dec (p := ?_) ?_ (fun hc => ?_) (fun hc => ?_); rotate_left; (· simp only [go_sem, reduceIte, Nat.reduceEqDiff, Nat.reduceAdd, bx, ax, if_true, if_false, Nat.reduceMul, Nat.reduceLeDiff, encI, vAV, d1, h2.1, h2.2, List.length_map]; exact rfl))
        | (refine Wp.cond_ndec (p := ?_) ?_ (fun hc => ?_) (fun hc => ?_); rotate_left; (· simp only [go_sem, reduceIte, Nat.reduceEqDiff, Nat.reduceAdd, bx, ax, if_true, if_false, Nat.reduceMul, Nat.reduceLeDiff, encI, vAV, d1, h2.1, h2.2, List.length_map]; exact rfl))
        | (refine Wp.cond_split (b := ?_) ?_ (fun hc => ?_) (fun hc => ?_); rotate_left; (· simp only [go_sem, reduceIte, Nat.reduceEqDiff, Nat.reduceAdd, bx, ax, if_true, if_false, Nat.reduceMul, Nat.reduceLeDiff, encI, vAV, d1, h2.1, h2.2, List.length_map]; exact rfl))
        | refine Wp.skip ?_
        | refine Wp.label ?_
        | refine Wp.block ?_
        | refine Wp.exit ?_
        | refine Wp.seq ?_)
      refine Wp.ret ⟨trivial, _, rfl, ?_⟩
      simp only [go_sem, reduceIte, Nat.reduceEqDiff, Nat.reduceAdd, bx]
      simp [mayB, h2]; exact VSub.refl _
    | true =>
      cases first with
      | true =>
        cases vs with
        | nil =>
          have e1 : decide ((0 : Int) < ((0 : Nat) : Int)) = false := rfl
          repeat' (first
            | (refine WpItems.nil ⟨?_, ?_⟩; (· first | trivial | simp [pairsQ, pairsOk, apart, ent0]))
            | (apply WpItems.evU; (· simp only [go_sem, reduceIte, Nat.reduceEqDiff, Nat.reduceAdd, bx, ax, if_true, if_false, Nat.reduceMul, Nat.reduceLeDiff, encI, vAV, d1, Bool.true_or, List.map_nil, List.length_nil, e1, List.length_map]; exact rfl); (· simp only [go_sem, reduceIte, Nat.reduceEqDiff, Nat.reduceAdd, bx, ax, if_true, if_false, Nat.reduceMul, Nat.reduceLeDiff, encI, vAV, d1, Bool.true_or, List.map_nil, List.length_nil, e1, List.length_map]; exact rfl))
            | (apply WpItems.part 1; (· simp only [go_sem, reduceIte, Nat.reduceEqDiff, Nat.reduceAdd, bx, ax, if_true, if_false, Nat.reduceMul, Nat.reduceLeDiff, encI, vAV, d1, Bool.true_or, List.map_nil, List.length_nil, e1, List.length_map]; exact rfl); (try simp only [List.drop_succ_cons, List.drop_zero, List.drop_nil]))
            | (refine WpItems.gsplit_dec (p := ?_) ?_ (fun hc => ?_) (fun hc => ?_); rotate_left; (· simp only [go_sem, reduceIte, Nat.reduceEqDiff, Nat.reduceAdd, bx, ax, if_true, if_false, Nat.reduceMul, Nat.reduceLeDiff, encI, vAV, d1, Bool.true_or, List.map_nil, List.length_nil, e1, List.length_map]; exact rfl))
            | (refine WpItems.gsplit_ndec (p := ?_) ?_ (fun hc => ?_) (fun hc => ?_); rotate_left; (· simp only [go_sem, reduceIte, Nat.reduceEqDiff, Nat.reduceAdd, bx, ax, if_true, if_false, Nat.reduceMul, Nat.reduceLeDiff, encI, vAV, d1, Bool.true_or, List.map_nil, List.length_nil, e1, List.length_map]; exact rfl))
            | (refine WpItems.gsplit (b := ?_) ?_ (fun hc => ?_) (fun hc => ?_); rotate_left; (· simp only [go_sem, reduceIte, Nat.reduceEqDiff, Nat.reduceAdd, bx, ax, if_true, if_false, Nat.reduceMul, Nat.reduceLeDiff, encI, vAV, d1, Bool.true_or, List.map_nil, List.length_nil, e1, List.length_map]; exact rfl))
            | refine Wp.seqRegS ?_
            | refine Wp.regS ?_
            | (refine Wp.cond_true ?_ ?_; (· simp only [go_sem, reduceIte, Nat.reduceEqDiff, Nat.reduceAdd, bx, ax, if_true, if_false, Nat.reduceMul, Nat.reduceLeDiff, encI, vAV, d1, Bool.true_or, List.map_nil, List.length_nil, e1, List.length_map]))
            | (refine Wp.cond_false ?_ ?_; (· simp only [go_sem, reduceIte, Nat.reduceEqDiff, Nat.reduceAdd, bx, ax, if_true, if_false, Nat.reduceMul, Nat.reduceLeDiff, encI, vAV, d1, Bool.true_or, List.map_nil, List.length_nil, e1, List.length_map]))
            | (refine Wp.cond_dec (p := ?_) ?_ (fun hc => ?_) (fun hc => ?_); rotate_left; (· simp only [go_sem, reduceIte, Nat.reduceEqDiff, Nat.reduceAdd, bx, ax, if_true, if_false, Nat.reduceMul, Nat.reduceLeDiff, encI, vAV, d1, Bool.true_or, List.map_nil, List.length_nil, e1, List.length_map]; exact rfl))
            | (refine Wp.cond_ndec (p := ?_) ?_ (fun hc => ?_) (fun hc => ?_); rotate_left; (· simp only [go_sem, reduceIte, Nat.reduceEqDiff, Nat.reduceAdd, bx, ax, if_true, if_false, Nat.reduceMul, Nat.reduceLeDiff, encI, vAV, d1, Bool.true_or, List.map_nil, List.length_nil, e1, List.length_map]; exact rfl))
            | (refine Wp.cond_split (b := ?_) ?_ (fun hc => ?_) (fun hc => ?_); rotate_left; (· simp only [go_sem, reduceIte, Nat.reduceEqDiff, Nat.reduceAdd, bx, ax, if_true, if_false, Nat.reduceMul, Nat.reduceLeDiff, encI, vAV, d1, Bool.true_or, List.map_nil, List.length_nil, e1, List.length_map]; exact rfl))
            | refine Wp.skip ?_
            | refine Wp.label ?_
            | refine Wp.block ?_
            | refine Wp.exit ?_
            | refine Wp.seq ?_)
          refine Wp.ret ⟨trivial, _, rfl, ?_⟩
          simp only [go_sem, reduceIte, Nat.reduceEqDiff, Nat.reduceAdd, bx]
          simp [mayB]; exact VSub.refl _
        | cons v l =>
          have e1 : decide ((0 : Int) < ((l.length + 1 : Nat) : Int)) = true := decide_eq_true (by omega)
          have e3 : (0 : Int) < ((l.length + 1 : Nat) : Int) := by omega
          cases h3 : chB (v :: l) with
          | false =>
            have e2 : decide ((4 : Int) = 0) = false := rfl
            rw [h3] at hck
            repeat' (first
              | (refine WpItems.nil ⟨?_, ?_⟩; (· first | trivial | simp [pairsQ, pairsOk, apart, ent0]))
              | (apply WpItems.evU; (· simp only [go_sem, reduceIte, Nat.reduceEqDiff, Nat.reduceAdd, bx, ax, if_true, if_false, Nat.reduceMul, Nat.reduceLeDiff, encI, vAV, d1, Bool.true_or, List.length_map, List.length_cons, e1, e2, Bool.false_eq_true, if_false, List.length_map]; exact rfl); (· simp only [go_sem, reduceIte, Nat.reduceEqDiff, Nat.reduceAdd, bx, ax, if_true, if_false, Nat.reduceMul, Nat.reduceLeDiff, encI, vAV, d1, Bool.true_or, List.length_map, List.length_cons, e1, e2, Bool.false_eq_true, if_false, List.length_map]; exact rfl))
              | (apply WpItems.part 1; (· simp only [go_sem, reduceIte, Nat.reduceEqDiff, Nat.reduceAdd, bx, ax, if_true, if_false, Nat.reduceMul, Nat.reduceLeDiff, encI, vAV, d1, Bool.true_or, List.length_map, List.length_cons, e1, e2, Bool.false_eq_true, if_false, List.length_map]; exact rfl); (try simp only [List.drop_succ_cons, List.drop_zero, List.drop_nil]))
              | (refine WpItems.pcall ?_ ?_ (hck) ?_; (· simp only [go_sem, reduceIte, Nat.reduceEqDiff, Nat.reduceAdd, bx]); (· simp only [go_sem, reduceIte, Nat.reduceEqDiff, Nat.reduceAdd, bx, List.map, ax, if_true, if_false, Nat.reduceMul, Nat.reduceLeDiff, encI, vAV, d1, Bool.true_or, List.length_map, List.length_cons, e1, e2, Bool.false_eq_true, if_false, List.length_map]; first | exact VSubs.refl _ | (repeat (first | exact VSubs.nil | refine VSubs.cons (by first | exact VSub.refl _ | assumption | exact VSub.cap | exact VSub.any _) ?_))))
              | (refine WpItems.gsplit_dec (p := ?_) ?_ (fun hc => ?_) (fun hc => ?_); rotate_left; (· simp only [go_sem, reduceIte, Nat.reduceEqDiff, Nat.reduceAdd, bx, ax, if_true, if_false, Nat.reduceMul, Nat.reduceLeDiff, encI, vAV, d1, Bool.true_or, List.length_map, List.length_cons, e1, e2, Bool.false_eq_true, if_false, List.length_map]; exact rfl))
              | (refine WpItems.gsplit_ndec (p := ?_) ?_ (fun hc => ?_) (fun hc => ?_); rotate_left; (· simp only [go_sem, reduceIte, Nat.reduceEqDiff, Nat.reduceAdd, bx, ax, if_true, if_false, Nat.reduceMul, Nat.reduceLeDiff, encI, vAV, d1, Bool.true_or, List.length_map, List.length_cons, e1, e2, Bool.false_eq_true, if_false, List.length_map]; exact rfl))
              | (refine WpItems.gsplit (b := ?_) ?_ (fun hc => ?_) (fun hc => ?_); rotate_left; (· simp only [go_sem, reduceIte, Nat.reduceEqDiff, Nat.reduceAdd, bx, ax, if_true, if_false, Nat.reduceMul, Nat.reduceLeDiff, encI, vAV, d1, Bool.true_or, List.length_map, List.length_cons, e1, e2, Bool.false_eq_true, if_false, List.length_map]; exact rfl))
              | refine Wp.seqRegS ?_
              | refine Wp.regS ?_
              | (refine Wp.cond_true ?_ ?_; (· simp only [go_sem, reduceIte, Nat.reduceEqDiff, Nat.reduceAdd, bx, ax, if_true, if_false, Nat.reduceMul, Nat.reduceLeDiff, encI, vAV, d1, Bool.true_or, List.length_map, List.length_cons, e1, e2, Bool.false_eq_true, if_false, List.length_map]))
              | (refine Wp.cond_false ?_ ?_; (· simp only [go_sem, reduceIte, Nat.reduceEqDiff, Nat.reduceAdd, bx, ax, if_true, if_false, Nat.reduceMul, Nat.reduceLeDiff, encI, vAV, d1, Bool.true_or, List.length_map, List.length_cons, e1, e2, Bool.false_eq_true, if_false, List.length_map]))
              | (refine Wp.cond_dec (p := ?_) ?_ (fun hc => ?_) (fun hc => ?_); rotate_left; (· simp only [go_sem, reduceIte, Nat.reduceEqDiff, Nat.reduceAdd, bx, ax, if_true, if_false, Nat.reduceMul, Nat.reduceLeDiff, encI, vAV, d1, Bool.true_or, List.length_map, List.length_cons, e1, e2, Bool.false_eq_true, if_false, List.length_map]; exact rfl))
              | (refine Wp.cond_ndec (p := ?_) ?_ (fun hc => ?_) (fun hc => ?_); rotate_left; (· simp only [go_sem, reduceIte, Nat.reduceEqDiff, Nat.reduceAdd, bx, ax, if_true, if_false, Nat.reduceMul, Nat.reduceLeDiff, encI, vAV, d1, Bool.true_or, List.length_map, List.length_cons, e1, e2, Bool.false_eq_true, if_false, List.length_map]; exact rfl))
              | (refine Wp.cond_split (b := ?_) ?_ (fun hc => ?_) (fun hc => ?_); rotate_left; (· simp only [go_sem, reduceIte, Nat.reduceEqDiff, Nat.reduceAdd, bx, ax, if_true, if_false, Nat.reduceMul, Nat.reduceLeDiff, encI, vAV, d1, Bool.true_or, List.length_map, List.length_cons, e1, e2, Bool.false_eq_true, if_false, List.length_map]; exact rfl))
              | refine Wp.skip ?_
              | refine Wp.label ?_
              | refine Wp.block ?_
              | refine Wp.exit ?_
              | refine Wp.seq ?_)
            refine Wp.ret ⟨trivial, _, rfl, ?_⟩
            simp only [go_sem, reduceIte, Nat.reduceEqDiff, Nat.reduceAdd, bx]
            simp [mayB, h3]; exact VSub.refl _
          | true =>
            have e2 : decide ((0 : Int) = 0) = true := rfl
            rw [h3] at hck
            repeat' (first
              | (refine WpItems.nil ⟨?_, ?_⟩; (· first | trivial | simp [pairsQ, pairsOk, apart, ent0]))
              | (apply WpItems.evU; (· simp only [go_sem, reduceIte, Nat.reduceEqDiff, Nat.reduceAdd, bx, ax, if_true, if_false, Nat.reduceMul, Nat.reduceLeDiff, encI, vAV, d1, Bool.true_or, List.length_map, List.length_cons, e1, e2, e3, i0, t0, List.map_cons, List.getD_cons_zero, encV, if_true, List.length_map]; exact rfl); (· simp only [go_sem, reduceIte, Nat.reduceEqDiff, Nat.reduceAdd, bx, ax, if_true, if_false, Nat.reduceMul, Nat.reduceLeDiff, encI, vAV, d1, Bool.true_or, List.length_map, List.length_cons, e1, e2, e3, i0, t0, List.map_cons, List.getD_cons_zero, encV, if_true, List.length_map]; exact rfl))
              | (apply WpItems.part 1; (· simp only [go_sem, reduceIte, Nat.reduceEqDiff, Nat.reduceAdd, bx, ax, if_true, if_false, Nat.reduceMul, Nat.reduceLeDiff, encI, vAV, d1, Bool.true_or, List.length_map, List.length_cons, e1, e2, e3, i0, t0, List.map_cons, List.getD_cons_zero, encV, if_true, List.length_map]; exact rfl); (try simp only [List.drop_succ_cons, List.drop_zero, List.drop_nil]))
              | (refine WpItems.pcall ?_ ?_ (hck) ?_; (· simp only [go_sem, reduceIte, Nat.reduceEqDiff, Nat.reduceAdd, bx]); (· simp only [go_sem, reduceIte, Nat.reduceEqDiff, Nat.reduceAdd, bx, List.map, ax, if_true, if_false, Nat.reduceMul, Nat.reduceLeDiff, encI, vAV, d1, Bool.true_or, List.length_map, List.length_cons, e1, e2, e3, i0, t0, List.map_cons, List.getD_cons_zero, encV, if_true, List.length_map]; first | exact VSubs.refl _ | (repeat (first | exact VSubs.nil | refine VSubs.cons (by first | exact VSub.refl _ | assumption | exact VSub.cap | exact VSub.any _) ?_))))
              | (refine WpItems.gsplit_dec (p := ?_) ?_ (fun hc => ?_) (fun hc => ?_); rotate_left; (· simp only [go_sem, reduceIte, Nat.reduceEqDiff, Nat.reduceAdd, bx, ax, if_true, if_false, Nat.reduceMul, Nat.reduceLeDiff, encI, vAV, d1, Bool.true_or, List.length_map, List.length_cons, e1, e2, e3, i0, t0, List.map_cons, List.getD_cons_zero, encV, if_true, List.length_map]; exact rfl))
              | (refine WpItems.gsplit_ndec (p := ?_) ?_ (fun hc => ?_) (fun hc => ?_); rotate_left; (· simp only [go_sem, reduceIte, Nat.reduceEqDiff, Nat.reduceAdd, bx, ax, if_true, if_false, Nat.reduceMul, Nat.reduceLeDiff, encI, vAV, d1, Bool.true_or, List.length_map, List.length_cons, e1, e2, e3, i0, t0, List.map_cons, List.getD_cons_zero, encV, if_true, List.length_map]; exact rfl))
              | (refine WpItems.gsplit (b := ?_) ?_ (fun hc => ?_) (fun hc => ?_); rotate_left; (· simp only [go_sem, reduceIte, Nat.reduceEqDiff, Nat.reduceAdd, bx, ax, if_true, if_false, Nat.reduceMul, Nat.reduceLeDiff, encI, vAV, d1, Bool.true_or, List.length_map, List.length_cons, e1, e2, e3, i0, t0, List.map_cons, List.getD_cons_zero, encV, if_true, List.length_map]; exact rfl))
              | refine Wp.seqRegS ?_
              | refine Wp.regS ?_
              | (refine Wp.cond_true ?_ ?_; (· simp only [go_sem, reduceIte, Nat.reduceEqDiff, Nat.reduceAdd, bx, ax, if_true, if_false, Nat.reduceMul, Nat.reduceLeDiff, encI, vAV, d1, Bool.true_or, List.length_map, List.length_cons, e1, e2, e3, i0, t0, List.map_cons, List.getD_cons_zero, encV, if_true, List.length_map]))
              | (refine Wp.cond_false ?_ ?_; (· simp only [go_sem, reduceIte, Nat.reduceEqDiff, Nat.reduceAdd, bx, ax, if_true, if_false, Nat.reduceMul, Nat.reduceLeDiff, encI, vAV, d1, Bool.true_or, List.length_map, List.length_cons, e1, e2, e3, i0, t0, List.map_cons, List.getD_cons_zero, encV, if_true, List.length_map]))
              | (refine Wp.cond_dec (p := ?_) ?_ (fun hc => ?_) (fun hc => ?_); rotate_left; (· simp only [go_sem, reduceIte, Nat.reduceEqDiff, Nat.reduceAdd, bx, ax, if_true, if_false, Nat.reduceMul, Nat.reduceLeDiff, encI, vAV, d1, Bool.true_or, List.length_map, List.length_cons, e1, e2, e3, i0, t0, List.map_cons, List.getD_cons_zero, encV, if_true, List.length_map]; exact rfl))
              | (refine Wp.cond_ndec (p := ?_) ?_ (fun hc => ?_) (fun hc => ?_); rotate_left; (· simp only [go_sem, reduceIte, Nat.reduceEqDiff, Nat.reduceAdd, bx, ax, if_true, if_false, Nat.reduceMul, Nat.reduceLeDiff, encI, vAV, d1, Bool.true_or, List.length_map, List.length_cons, e1, e2, e3, i0, t0, List.map_cons, List.getD_cons_zero, encV, if_true, List.length_map]; exact rfl))
              | (refine Wp.cond_split (b := ?_) ?_ (fun hc => ?_) (fun hc => ?_); rotate_left; (· simp only [go_sem, reduceIte, Nat.reduceEqDiff, Nat.reduceAdd, bx, ax, if_true, if_false, Nat.reduceMul, Nat.reduceLeDiff, encI, vAV, d1, Bool.true_or, List.length_map, List.length_cons, e1, e2, e3, i0, t0, List.map_cons, List.getD_cons_zero, encV, if_true, List.length_map]; exact rfl))
              | refine Wp.skip ?_
              | refine Wp.label ?_
              | refine Wp.block ?_
              | refine Wp.exit ?_
              | refine Wp.seq ?_)
            refine Wp.ret ⟨trivial, _, rfl, ?_⟩
            simp only [go_sem, reduceIte, Nat.reduceEqDiff, Nat.reduceAdd, bx]
            simp [mayB, h1, h3, h2]; exact VSub.refl _
      | false =>
        rw [Bool.false_or] at h2
        cases vs with
        | nil =>
          have e1 : decide ((0 : Int) < ((0 : Nat) : Int)) = false := rfl
          repeat' (first
            | (refine WpItems.nil ⟨?_, ?_⟩; (· first | trivial | simp [pairsQ, pairsOk, apart, ent0]))
            | (apply WpItems.evU; (· simp only [go_sem, reduceIte, Nat.reduceEqDiff, Nat.reduceAdd, bx, ax, if_true, if_false, Nat.reduceMul, Nat.reduceLeDiff, encI, vAV, d1, h2, List.map_nil, List.length_nil, e1, List.length_map]; exact rfl); (· simp only [go_sem, reduceIte, Nat.reduceEqDiff, Nat.reduceAdd, bx, ax, if_true, if_false, Nat.reduceMul, Nat.reduceLeDiff, encI, vAV, d1, h2, List.map_nil, List.length_nil, e1, List.length_map]; exact rfl))
            | (apply WpItems.part 1; (· simp only [go_sem, reduceIte, Nat.reduceEqDiff, Nat.reduceAdd, bx, ax, if_true, if_false, Nat.reduceMul, Nat.reduceLeDiff, encI, vAV, d1, h2, List.map_nil, List.length_nil, e1, List.length_map]; exact rfl); (try simp only [List.drop_succ_cons, List.drop_zero, List.drop_nil]))
            | (refine WpItems.gsplit_dec (p := ?_) ?_ (fun hc => ?_) (fun hc => ?_); rotate_left; (· simp only [go_sem, reduceIte, Nat.reduceEqDiff, Nat.reduceAdd, bx, ax, if_true, if_false, Nat.reduceMul, Nat.reduceLeDiff, encI, vAV, d1, h2, List.map_nil, List.length_nil, e1, List.length_map]; exact rfl))
            | (refine WpItems.gsplit_ndec (p := ?_) ?_ (fun hc => ?_) (fun hc => ?_); rotate_left; (· simp only [go_sem, reduceIte, Nat.reduceEqDiff, Nat.reduceAdd, bx, ax, if_true, if_false, Nat.reduceMul, Nat.reduceLeDiff, encI, vAV, d1, h2, List.map_nil, List.length_nil, e1, List.length_map]; exact rfl))
            | (refine WpItems.gsplit (b := ?_) ?_ (fun hc => ?_) (fun hc => ?_); rotate_left; (· simp only [go_sem, reduceIte, Nat.reduceEqDiff, Nat.reduceAdd, bx, ax, if_true, if_false, Nat.reduceMul, Nat.reduceLeDiff, encI, vAV, d1, h2, List.map_nil, List.length_nil, e1, List.length_map]; exact rfl))
            | refine Wp.seqRegS ?_
            | refine Wp.regS ?_
            | (refine Wp.cond_true ?_ ?_; (· simp only [go_sem, reduceIte, Nat.reduceEqDiff, Nat.reduceAdd, bx, ax, if_true, if_false, Nat.reduceMul, Nat.reduceLeDiff, encI, vAV, d1, h2, List.map_nil, List.length_nil, e1, List.length_map]))
            | (refine Wp.cond_false ?_ ?_; (· simp only [go_sem, reduceIte, Nat.reduceEqDiff, Nat.reduceAdd, bx, ax, if_true, if_false, Nat.reduceMul, Nat.reduceLeDiff, encI, vAV, d1, h2, List.map_nil, List.length_nil, e1, List.length_map]))
            | (refine Wp.cond_dec (p := ?_) ?_ (fun hc => ?_) (fun hc => ?_); rotate_left; (· simp only [go_sem, reduceIte, Nat.reduceEqDiff, Nat.reduceAdd, bx, ax, if_true, if_false, Nat.reduceMul, Nat.reduceLeDiff, encI, vAV, d1, h2, List.map_nil, List.length_nil, e1, List.length_map]; exact rfl))
            | (refine Wp.cond_ndec (p := ?_) ?_ (fun hc => ?_) (fun hc => ?_); rotate_left; (· simp only [go_sem, reduceIte, Nat.reduceEqDiff, Nat.reduceAdd, bx, ax, if_true, if_false, Nat.reduceMul, Nat.reduceLeDiff, encI, vAV, d1, h2, List.map_nil, List.length_nil, e1, List.length_map]; exact rfl))
            | (refine Wp.cond_split (b := ?_) ?_ (fun hc => ?_) (fun hc => ?_); rotate_left; (· simp only [go_sem, reduceIte, Nat.reduceEqDiff, Nat.reduceAdd, bx, ax, if_true, if_false, Nat.reduceMul, Nat.reduceLeDiff, encI, vAV, d1, h2, List.map_nil, List.length_nil, e1, List.length_map]; exact rfl))
            | refine Wp.skip ?_
            | refine Wp.label ?_
            | refine Wp.block ?_
            | refine Wp.exit ?_
            | refine Wp.seq ?_)
          refine Wp.ret ⟨trivial, _, rfl, ?_⟩
          simp only [go_sem, reduceIte, Nat.reduceEqDiff, Nat.reduceAdd, bx]
          simp [mayB]; exact VSub.refl _
        | cons v l =>
          have e1 : decide ((0 : Int) < ((l.length + 1 : Nat) : Int)) = true := decide_eq_true (by omega)
          have e3 : (0 : Int) < ((l.length + 1 : Nat) : Int) := by omega
          cases h3 : chB (v :: l) with
          | false =>
            have e2 : decide ((4 : Int) = 0) = false := rfl
            rw [h3] at hck
            repeat' (first
              | (refine WpItems.nil ⟨?_, ?_⟩; (· first | trivial | simp [pairsQ, pairsOk, apart, ent0]))
              | (apply WpItems.evU; (· simp only [go_sem, reduceIte, Nat.reduceEqDiff, Nat.reduceAdd, bx, ax, if_true, if_false, Nat.reduceMul, Nat.reduceLeDiff, encI, vAV, d1, h2, List.length_map, List.length_cons, e1, e2, Bool.false_eq_true, if_false, List.length_map]; exact rfl); (· simp only [go_sem, reduceIte, Nat.reduceEqDiff, Nat.reduceAdd, bx, ax, if_true, if_false, Nat.reduceMul, Nat.reduceLeDiff, encI, vAV, d1, h2, List.length_map, List.length_cons, e1, e2, Bool.false_eq_true, if_false, List.length_map]; exact rfl))
              | (apply WpItems.part 1; (· simp only [go_sem, reduceIte, Nat.reduceEqDiff, Nat.reduceAdd, bx, ax, if_true, if_false, Nat.reduceMul, Nat.reduceLeDiff, encI, vAV, d1, h2, List.length_map, List.length_cons, e1, e2, Bool.false_eq_true, if_false, List.length_map]; exact rfl); (try simp only [List.drop_succ_cons, List.drop_zero, List.drop_nil]))
              | (refine WpItems.pcall ?_ ?_ (hck) ?_; (· simp only [go_sem, reduceIte, Nat.reduceEqDiff, Nat.reduceAdd, bx]); (· simp only [go_sem, reduceIte, Nat.reduceEqDiff, Nat.reduceAdd, bx, List.map, ax, if_true, if_false, Nat.reduceMul, Nat.reduceLeDiff, encI, vAV, d1, h2, List.length_map, List.length_cons, e1, e2, Bool.false_eq_true, if_false, List.length_map]; first | exact VSubs.refl _ | (repeat (first | exact VSubs.nil | refine VSubs.cons (by first | exact VSub.refl _ | assumption | exact VSub.cap | exact VSub.any _) ?_))))
              | (refine WpItems.gsplit_dec (p := ?_) ?_ (fun hc => ?_) (fun hc => ?_); rotate_left; (· simp only [go_sem, reduceIte, Nat.reduceEqDiff, Nat.reduceAdd, bx, ax, if_true, if_false, Nat.reduceMul, Nat.reduceLeDiff, encI, vAV, d1, h2, List.length_map, List.length_cons, e1, e2, Bool.false_eq_true, if_false, List.length_map]; exact rfl))
              | (refine WpItems.gsplit_ndec (p := ?_) ?_ (fun hc => ?_) (fun hc => ?_); rotate_left; (· simp only [go_sem, reduceIte, Nat.reduceEqDiff, Nat.reduceAdd, bx, ax, if_true, if_false, Nat.reduceMul, Nat.reduceLeDiff, encI, vAV, d1, h2, List.length_map, List.length_cons, e1, e2, Bool.false_eq_true, if_false, List.length_map]; exact rfl))
              | (refine WpItems.gsplit (b := ?_) ?_ (fun hc => ?_) (fun hc => ?_); rotate_left; (· simp only [go_sem, reduceIte, Nat.reduceEqDiff, Nat.reduceAdd, bx, ax, if_true, if_false, Nat.reduceMul, Nat.reduceLeDiff, encI, vAV, d1, h2, List.length_map, List.length_cons, e1, e2, Bool.false_eq_true, if_false, List.length_map]; exact rfl))
              | refine Wp.seqRegS ?_
              | refine Wp.regS ?_
              | (refine Wp.cond_true ?_ ?_; (· simp only [go_sem, reduceIte, Nat.reduceEqDiff, Nat.reduceAdd, bx, ax, if_true, if_false, Nat.reduceMul, Nat.reduceLeDiff, encI, vAV, d1, h2, List.length_map, List.length_cons, e1, e2, Bool.false_eq_true, if_false, List.length_map]))
              | (refine Wp.cond_false ?_ ?_; (· simp only [go_sem, reduceIte, Nat.reduceEqDiff, Nat.reduceAdd, bx, ax, if_true, if_false, Nat.reduceMul, Nat.reduceLeDiff, encI, vAV, d1, h2, List.length_map, List.length_cons, e1, e2, Bool.false_eq_true, if_false, List.length_map]))
              | (refine Wp.cond_dec (p := ?_) ?_ (fun hc => ?_) (fun hc => ?_); rotate_left; (· simp only [go_sem, reduceIte, Nat.reduceEqDiff, Nat.reduceAdd, bx, ax, if_true, if_false, Nat.reduceMul, Nat.reduceLeDiff, encI, vAV, d1, h2, List.length_map, List.length_cons, e1, e2, Bool.false_eq_true, if_false, List.length_map]; exact rfl))
              | (refine Wp.cond_ndec (p := ?_) ?_ (fun hc => ?_) (fun hc => ?_); rotate_left; (· simp only [go_sem, reduceIte, Nat.reduceEqDiff, Nat.reduceAdd, bx, ax, if_true, if_false, Nat.reduceMul, Nat.reduceLeDiff, encI, vAV, d1, h2, List.length_map, List.length_cons, e1, e2, Bool.false_eq_true, if_false, List.length_map]; exact rfl))
              | (refine Wp.cond_split (b := ?_) ?_ (fun hc => ?_) (fun hc => ?_); rotate_left; (· simp only [go_sem, reduceIte, Nat.reduceEqDiff, Nat.reduceAdd, bx, ax, if_true, if_false, Nat.reduceMul, Nat.reduceLeDiff, encI, vAV, d1, h2, List.length_map, List.length_cons, e1, e2, Bool.false_eq_true, if_false, List.length_map]; exact rfl))
              | refine Wp.skip ?_
              | refine Wp.label ?_
              | refine Wp.block ?_
              | refine Wp.exit ?_
              | refine Wp.seq ?_)
            refine Wp.ret ⟨trivial, _, rfl, ?_⟩
            simp only [go_sem, reduceIte, Nat.reduceEqDiff, Nat.reduceAdd, bx]
            simp [mayB, h3]; exact VSub.refl _
          | true =>
            have e2 : decide ((0 : Int) = 0) = true := rfl
            rw [h3] at hck
            repeat' (first
              | (refine WpItems.nil ⟨?_, ?_⟩; (· first | trivial | simp [pairsQ, pairsOk, apart, ent0]))
              | (apply WpItems.evU; (· simp only [go_sem, reduceIte, Nat.reduceEqDiff, Nat.reduceAdd, bx, ax, if_true, if_false, Nat.reduceMul, Nat.reduceLeDiff, encI, vAV, d1, h2, List.length_map, List.length_cons, e1, e2, e3, i0, t0, List.map_cons, List.getD_cons_zero, encV, if_true, List.length_map]; exact rfl); (· simp only [go_sem, reduceIte, Nat.reduceEqDiff, Nat.reduceAdd, bx, ax, if_true, if_false, Nat.reduceMul, Nat.reduceLeDiff, encI, vAV, d1, h2, List.length_map, List.length_cons, e1, e2, e3, i0, t0, List.map_cons, List.getD_cons_zero, encV, if_true, List.length_map]; exact rfl))
              | (apply WpItems.part 1; (· simp only [go_sem, reduceIte, Nat.reduceEqDiff, Nat.reduceAdd, bx, ax, if_true, if_false, Nat.reduceMul, Nat.reduceLeDiff, encI, vAV, d1, h2, List.length_map, List.length_cons, e1, e2, e3, i0, t0, List.map_cons, List.getD_cons_zero, encV, if_true, List.length_map]; exact rfl); (try simp only [List.drop_succ_cons, List.drop_zero, List.drop_nil]))
              | (refine WpItems.pcall ?_ ?_ (hck) ?_; (· simp only [go_sem, reduceIte, Nat.reduceEqDiff, Nat.reduceAdd, bx]); (· simp only [go_sem, reduceIte, Nat.reduceEqDiff, Nat.reduceAdd, bx, List.map, ax, if_true, if_false, Nat.reduceMul, Nat.reduceLeDiff, encI, vAV, d1, h2, List.length_map, List.length_cons, e1, e2, e3, i0, t0, List.map_cons, List.getD_cons_zero, encV, if_true, List.length_map]; first | exact VSubs.refl _ | (repeat (first | exact VSubs.nil | refine VSubs.cons (by first | exact VSub.refl _ | assumption | exact VSub.cap | exact VSub.any _) ?_))))
              | (refine WpItems.gsplit_dec (p := ?_) ?_ (fun hc => ?_) (fun hc => ?_); rotate_left; (· simp only [go_sem, reduceIte, Nat.reduceEqDiff, Nat.reduceAdd, bx, ax, if_true, if_false, Nat.reduceMul, Nat.reduceLeDiff, encI, vAV, d1, h2, List.length_map, List.length_cons, e1, e2, e3, i0, t0, List.map_cons, List.getD_cons_zero, encV, if_true, List.length_map]; exact rfl))
              | (refine WpItems.gsplit_ndec (p := ?_) ?_ (fun hc => ?_) (fun hc => ?_); rotate_left; (· simp only [go_sem, reduceIte, Nat.reduceEqDiff, Nat.reduceAdd, bx, ax, if_true, if_false, Nat.reduceMul, Nat.reduceLeDiff, encI, vAV, d1, h2, List.length_map, List.length_cons, e1, e2, e3, i0, t0, List.map_cons, List.getD_cons_zero, encV, if_true, List.length_map]; exact rfl))
              | (refine WpItems.gsplit (b := ?_) ?_ (fun hc => ?_) (fun hc => ?_); rotate_left; (· simp only [go_sem, reduceIte, Nat.reduceEqDiff, Nat.reduceAdd, bx, ax, if_true, if_false, Nat.reduceMul, Nat.reduceLeDiff, encI, vAV, d1, h2, List.length_map, List.length_cons, e1, e2, e3, i0, t0, List.map_cons, List.getD_cons_zero, encV, if_true, List.length_map]; exact rfl))
              | refine Wp.seqRegS ?_
              | refine Wp.regS ?_
              | (refine Wp.cond_true ?_ ?_; (· simp only [go_sem, reduceIte, Nat.reduceEqDiff, Nat.reduceAdd, bx, ax, if_true, if_false, Nat.reduceMul, Nat.reduceLeDiff, encI, vAV, d1, h2, List.length_map, List.length_cons, e1, e2, e3, i0, t0, List.map_cons, List.getD_cons_zero, encV, if_true, List.length_map]))
              | (refine Wp.cond_false ?_ ?_; (· simp only [go_sem, reduceIte, Nat.reduceEqDiff, Nat.reduceAdd, bx, ax, if_true, if_false, Nat.reduceMul, Nat.reduceLeDiff, encI, vAV, d1, h2, List.length_map, List.length_cons, e1, e2, e3, i0, t0, List.map_cons, List.getD_cons_zero, encV, if_true, List.length_map]))
              | (refine Wp.cond_dec (p := ?_) ?_ (fun hc => ?_) (fun hc => ?_); rotate_left; (· simp only [go_sem, reduceIte, Nat.reduceEqDiff, Nat.reduceAdd, bx, ax, if_true, if_false, Nat.reduceMul, Nat.reduceLeDiff, encI, vAV, d1, h2, List.length_map, List.length_cons, e1, e2, e3, i0, t0, List.map_cons, List.getD_cons_zero, encV, if_true, List.length_map]; exact rfl))
              | (refine Wp.cond_ndec (p := ?_) ?_ (fun hc => ?_) (fun hc => ?_); rotate_left; (· simp only [go_sem, reduceIte, Nat.reduceEqDiff, Nat.reduceAdd, bx, ax, if_true, if_false, Nat.reduceMul, Nat.reduceLeDiff, encI, vAV, d1, h2, List.length_map, List.length_cons, e1, e2, e3, i0, t0, List.map_cons, List.getD_cons_zero, encV, if_true, List.length_map]; exact rfl))
              | (refine Wp.cond_split (b := ?_) ?_ (fun hc => ?_) (fun hc => ?_); rotate_left; (· simp only [go_sem, reduceIte, Nat.reduceEqDiff, Nat.reduceAdd, bx, ax, if_true, if_false, Nat.reduceMul, Nat.reduceLeDiff, encI, vAV, d1, h2, List.length_map, List.length_cons, e1, e2, e3, i0, t0, List.map_cons, List.getD_cons_zero, encV, if_true, List.length_map]; exact rfl))
              | refine Wp.skip ?_
              | refine Wp.label ?_
              | refine Wp.block ?_
              | refine Wp.exit ?_
              | refine Wp.seq ?_)
            refine Wp.ret ⟨trivial, _, rfl, ?_⟩
            simp only [go_sem, reduceIte, Nat.reduceEqDiff, Nat.reduceAdd, bx]
            simp [mayB, h1, h3, h2]; exact VSub.refl _
  · have d1 := decide_eq_false h1
    repeat' (first
      | (refine WpItems.nil ⟨?_, ?_⟩; (· first | trivial | simp [pairsQ, pairsOk, apart, ent0]))
      | (apply WpItems.evU; (· simp only [go_sem, reduceIte, Nat.reduceEqDiff, Nat.reduceAdd, bx, ax, if_true, if_false, Nat.reduceMul, Nat.reduceLeDiff, encI, vAV, d1, List.length_map]; exact rfl); (· simp only [go_sem, reduceIte, Nat.reduceEqDiff, Nat.reduceAdd, bx, ax, if_true, if_false, Nat.reduceMul, Nat.reduceLeDiff, encI, vAV, d1, List.length_map]; exact rfl))
      | (apply WpItems.part 1; (· simp only [go_sem, reduceIte, Nat.reduceEqDiff, Nat.reduceAdd, bx, ax, if_true, if_false, Nat.reduceMul, Nat.reduceLeDiff, encI, vAV, d1, List.length_map]; exact rfl); (try simp only [List.drop_succ_cons, List.drop_zero, List.drop_nil]))
      | (refine WpItems.gsplit_dec (p := ?_) ?_ (fun hc => ?_) (fun hc => ?_); rotate_left; (· simp only [go_sem, reduceIte, Nat.reduceEqDiff, Nat.reduceAdd, bx, ax, if_true, if_false, Nat.reduceMul, Nat.reduceLeDiff, encI, vAV, d1, List.length_map]; exact rfl))
      | (refine WpItems.gsplit_ndec (p := ?_) ?_ (fun hc => ?_) (fun hc => ?_); rotate_left; (· simp only [go_sem, reduceIte, Nat.reduceEqDiff, Nat.reduceAdd, bx, ax, if_true, if_false, Nat.reduceMul, Nat.reduceLeDiff, encI, vAV, d1, List.length_map]; exact rfl))
      | (refine WpItems.gsplit (b := ?_) ?_ (fun hc => ?_) (fun hc => ?_); rotate_left; (· simp only [go_sem, reduceIte, Nat.reduceEqDiff, Nat.reduceAdd, bx, ax, if_true, if_false, Nat.reduceMul, Nat.reduceLeDiff, encI, vAV, d1, List.length_map]; exact rfl))
      | refine Wp.seqRegS ?_
      | refine Wp.regS ?_
      | (refine Wp.cond_true ?_ ?_; (· simp only [go_sem, reduceIte, Nat.reduceEqDiff, Nat.reduceAdd, bx, ax, if_true, if_false, Nat.reduceMul, Nat.reduceLeDiff, encI, vAV, d1, List.length_map]))
      | (refine Wp.cond_false ?_ ?_; (· simp only [go_sem, reduceIte, Nat.reduceEqDiff, Nat.reduceAdd, bx, ax, if_true, if_false, Nat.reduceMul, Nat.reduceLeDiff, encI, vAV, d1, List.length_map]))
      | (refine Wp.cond_dec (p := ?_) ?_ (fun hc => ?_) (fun hc => ?_); rotate_left; (· simp only [go_sem, reduceIte, Nat.reduceEqDiff, Nat.reduceAdd, bx, ax, if_true, if_false, Nat.reduceMul, Nat.reduceLeDiff, encI, vAV, d1, List.length_map]; exact rfl))
      | (refine Wp.cond_ndec (p := ?_) ?_ (fun hc => ?_) (fun hc => ?_); rotate_left; (· simp only [go_sem, reduceIte, Nat.reduceEqDiff, Nat.reduceAdd, bx, ax, if_true, if_false, Nat.reduceMul, Nat.reduceLeDiff, encI, vAV, d1, List.length_map]; exact rfl))
      | (refine Wp.cond_split (b := ?_) ?_ (fun hc => ?_) (fun hc => ?_); rotate_left; (· simp only [go_sem, reduceIte, Nat.reduceEqDiff, Nat.reduceAdd, bx, ax, if_true, if_false, Nat.reduceMul, Nat.reduceLeDiff, encI, vAV, d1, List.length_map]; exact rfl))
      | refine Wp.skip ?_
      | refine Wp.label ?_
      | refine Wp.block ?_
      | refine Wp.exit ?_
      | refine Wp.seq ?_)
    refine Wp.ret ⟨trivial, _, rfl, ?_⟩
    simp only [go_sem, reduceIte, Nat.reduceEqDiff, Nat.reduceAdd, bx]
    simp [mayB, h1]; exact VSub.refl _
end Go.Proofs.Ytpehfflehebmbaa.Space
end
