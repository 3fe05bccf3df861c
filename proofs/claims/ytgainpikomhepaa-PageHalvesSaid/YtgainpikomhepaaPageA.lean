/- Chapter 08: nodes as data, their sizes: page.Size. -/
import Derived.Test.YtgainpikomhepaaCode
import Derived.Test.YtgainpikomhepaaAvUse
set_option linter.unusedSimpArgs false
set_option linter.unusedVariables false
set_option maxRecDepth 10000
namespace Go.Proofs.Ytgainpikomhepaa.Page
open Go Go.Av Go.Proofs Go.Proofs.Ytgainpikomhepaa.C

structure Node where
  leaf : Bool
  keys : List (List UInt8)
  vals : List (List UInt8)
  kids : List Int

def encNode (n : Node) : AV := .agg [.bool n.leaf, .sl 1 (strs n.keys) .any, .sl 1 (strs n.vals) .any, .sl 1 (ints n.kids) .any]
theorem encNode_pure (n : Node) : isPure (encNode n) = true := by simp [encNode, isPure, allPure, capPure, strs_pure, ints_pure]
theorem enc1_pure (n : Node) : allPure [encNode n] = true := by simp [allPure, encNode_pure]

def tot (l : List (List UInt8)) : Nat := (l.map List.length).sum
theorem tot_snoc (l : List (List UInt8)) (k : Nat) (h : k < l.length) : tot (l.take (k + 1)) = tot (l.take k) + (l.getD k []).length := by
  rw [List.take_succ_eq_append_getElem h, List.getD_eq_getElem?_getD, List.getElem?_eq_getElem h]
  simp only [tot, List.map_append, List.sum_append, List.map_cons, List.map_nil, List.sum_cons, List.sum_nil, Option.getD_some, Nat.add_zero]
theorem tot_take (l : List (List UInt8)) (k : Nat) : tot (l.take k) ≤ tot l := by
  have : l = l.take k ++ l.drop k := by simp
  conv => rhs; rw [this]
  simp only [tot, List.map_append, List.sum_append]; omega

def size (n : Node) : Nat := if n.leaf then 3 + 3 * n.keys.length + tot n.keys + tot n.vals else 7 + 5 * n.keys.length + tot n.keys

/-- small enough for its sums to be ints -/
structure Nb (n : Node) : Prop where
  k : n.keys.length ≤ 17592186044416
  v : n.vals.length ≤ 17592186044416
  i : n.kids.length ≤ 17592186044416
  tk : tot n.keys ≤ 1152921504606846976
  tv : tot n.vals ≤ 1152921504606846976

theorem size_p (n : Node) (hn : Nb n) : PCalls Try.prog 15 [encNode n] (.int .i64 (size n)) := by
  refine f15.pcalls (by simp) (allPure_ok _ (enc1_pure n)) (isPure_ok _ rfl) fun k m => ?_
  obtain ⟨hk, hv, hi, htk, htv⟩ := hn
  unfold c15
  refine Wp.seqReg (by simp only [go_sem, encNode]; exact rfl) (by trivial) ?_
  refine Wp.seqReg (by simp only [go_sem]; exact rfl) (by trivial) ?_
  refine Wp.seqJoinT [(1, .ptr k 0), (3, .int .i64 (if n.leaf then 3 else 7 : Nat)), (4, .int .i64 (if n.leaf then 3 else 5 : Nat))] ?_ ?_
  · refine Wp.seqReg (by simp only [go_sem, reduceIte, Nat.reduceEqDiff]; exact rfl) (by trivial) ?_
    refine Wp.cond_split (b := !n.leaf) (by simp only [go_sem, reduceIte]) (fun h => ?_) (fun h => ?_)
    · refine Wp.reg1 (by simp only [go_sem, reduceIte, Nat.reduceEqDiff]; exact rfl) (by trivial) (StLe.tm ?_)
      have hl : n.leaf = false := by simpa using h
      simp only [AllSub, go_sem, reduceIte, Nat.reduceEqDiff, hl]
      exact ⟨VSub.refl _, VSub.refl _, VSub.refl _, trivial⟩
    · refine Wp.skip (StLe.tm ?_)
      have hl : n.leaf = true := by simpa using h
      simp only [AllSub, go_sem, reduceIte, Nat.reduceEqDiff, hl]
      exact ⟨VSub.refl _, VSub.refl _, VSub.refl _, trivial⟩
  · generalize hB : (if n.leaf then 3 else 7 : Nat) = B
    generalize hE : (if n.leaf then 3 else 5 : Nat) = E
    have hEb : E ≤ 5 ∧ B ≤ 7 := by split at hE <;> split at hB <;> omega
    refine Wp.seqJoinT [(1, .ptr k 0), (3, .int .i64 (B + E * n.keys.length + tot n.keys : Nat))] ?_ ?_
    · refine Wp.seqReg (by simp only [go_sem, reduceIte, Nat.reduceEqDiff]; exact rfl) (by trivial) ?_
      refine Wp.block (Wp.loopT (fun j : Nat => [(1, .ptr k 0), (4, .int .i64 E), (13, .sl 1 (strs n.keys) .any), (14, .int .i64 n.keys.length), (15, .int .i64 j), (3, .int .i64 (B + E * j + tot (n.keys.take j) : Nat))]) (fun j => j ≤ n.keys.length) (fun j => n.keys.length - j) 0 (Nat.zero_le _) ?_ ?_)
      · simp only [AllSub, go_sem, reduceIte, Nat.reduceEqDiff]
        exact ⟨VSub.refl _, VSub.refl _, VSub.refl _, VSub.refl _, VSub.refl _, VSub.int (by simp [tot]), trivial⟩
      · intro j hj
        refine Wp.seqReg (by simp only [go_sem, reduceIte, Nat.reduceEqDiff]; exact rfl) (by trivial) ?_
        refine Wp.seq (Wp.cond_split (b := decide ((j : Int) < n.keys.length)) (by simp only [go_sem, reduceIte]) (fun h => ?_) (fun h => ?_))
        · have hlt : j < n.keys.length := by simpa using h
          have h1 : (0 : Int) ≤ (j : Int) := by omega
          have h2 : (j : Int) < (n.keys.length : Int) := by omega
          have hts := tot_snoc n.keys j hlt
          have htt := tot_take n.keys (j + 1)
          have hEj : E * (j + 1) = E * j + E := by rw [Nat.mul_add]; omega
          have hEj2 : E * j ≤ 5 * j := Nat.mul_le_mul_right j hEb.1
          generalize E * j = F at *
          refine Wp.skip (Wp.seq (Wp.block ?_))
          refine Wp.seqReg (by simp only [go_sem, reduceIte, Nat.reduceEqDiff, Int.toNat_natCast, strs_getD _ _ _ hlt, h1, h2, and_self, if_true]; exact rfl) (by trivial) ?_
          refine Wp.reg1 (by simp only [go_sem, reduceIte, Nat.reduceEqDiff]; simp (disch := omega) only [IntWalk.i64_in]; exact rfl) (by trivial) ?_
          refine Wp.reg1 (by simp only [go_sem, reduceIte, Nat.reduceEqDiff]; simp (disch := omega) only [IntWalk.i64_in]; exact rfl) (by trivial) ?_
          refine ⟨j + 1, hlt, by omega, StLe.tm ?_⟩
          simp only [AllSub, go_sem, reduceIte, Nat.reduceEqDiff]
          exact ⟨VSub.refl _, VSub.refl _, VSub.refl _, VSub.refl _, VSub.refl _, VSub.int (by rw [hts, hEj]; omega), trivial⟩
        · have he : j = n.keys.length := by have : ¬ ((j : Int) < n.keys.length) := by simpa using h
                                            omega
          subst he
          refine Wp.exit (StLe.tm ?_)
          simp only [AllSub, go_sem, reduceIte, Nat.reduceEqDiff]
          exact ⟨VSub.refl _, VSub.int (by simp), trivial⟩
    · -- the values
      refine Wp.seqJoinT [(3, .int .i64 (size n))] ?_ ?_
      · refine Wp.seqReg (by simp only [go_sem, reduceIte, Nat.reduceEqDiff]; exact rfl) (by trivial) ?_
        refine Wp.cond_split (b := n.leaf) (by simp only [go_sem, reduceIte]) (fun hl => ?_) (fun hl => ?_)
        · rw [hl] at hB hE
          simp only [if_true] at hB hE
          subst hB hE
          refine Wp.seqReg (by simp only [go_sem, reduceIte, Nat.reduceEqDiff]; exact rfl) (by trivial) ?_
          refine Wp.block (Wp.loopT (fun j : Nat => [(29, .sl 1 (strs n.vals) .any), (30, .int .i64 n.vals.length), (31, .int .i64 j), (3, .int .i64 (3 + 3 * n.keys.length + tot n.keys + tot (n.vals.take j) : Nat))]) (fun j => j ≤ n.vals.length) (fun j => n.vals.length - j) 0 (Nat.zero_le _) ?_ ?_)
          · simp only [AllSub, go_sem, reduceIte, Nat.reduceEqDiff]
            exact ⟨VSub.refl _, VSub.refl _, VSub.refl _, VSub.int (by simp [tot]), trivial⟩
          · intro j hj
            refine Wp.seqReg (by simp only [go_sem, reduceIte, Nat.reduceEqDiff]; exact rfl) (by trivial) ?_
            refine Wp.seq (Wp.cond_split (b := decide ((j : Int) < n.vals.length)) (by simp only [go_sem, reduceIte]) (fun h => ?_) (fun h => ?_))
            · have hlt : j < n.vals.length := by simpa using h
              have h1 : (0 : Int) ≤ (j : Int) := by omega
              have h2 : (j : Int) < (n.vals.length : Int) := by omega
              have hts := tot_snoc n.vals j hlt
              have htt := tot_take n.vals (j + 1)
              refine Wp.skip (Wp.seq (Wp.block ?_))
              refine Wp.seqReg (by simp only [go_sem, reduceIte, Nat.reduceEqDiff, Int.toNat_natCast, strs_getD _ _ _ hlt, h1, h2, and_self, if_true]; exact rfl) (by trivial) ?_
              refine Wp.reg1 (by simp only [go_sem, reduceIte, Nat.reduceEqDiff]; simp (disch := omega) only [IntWalk.i64_in]; exact rfl) (by trivial) ?_
              refine Wp.reg1 (by simp only [go_sem, reduceIte, Nat.reduceEqDiff]; simp (disch := omega) only [IntWalk.i64_in]; exact rfl) (by trivial) ?_
              refine ⟨j + 1, hlt, by omega, StLe.tm ?_⟩
              simp only [AllSub, go_sem, reduceIte, Nat.reduceEqDiff]
              exact ⟨VSub.refl _, VSub.refl _, VSub.refl _, VSub.int (by rw [hts]; omega), trivial⟩
            · have he : j = n.vals.length := by
                have : ¬ ((j : Int) < n.vals.length) := by simpa using h
                omega
              subst he
              refine Wp.exit (StLe.tm ?_)
              simp only [AllSub, go_sem, reduceIte, Nat.reduceEqDiff]
              exact ⟨VSub.int (by simp [size, hl]), trivial⟩
        · rw [hl] at hB hE
          simp only [if_false, Bool.false_eq_true] at hB hE
          subst hB hE
          refine Wp.skip (StLe.tm ?_)
          simp only [AllSub, go_sem, reduceIte, Nat.reduceEqDiff]
          exact ⟨VSub.int (by simp [size, hl]), trivial⟩
      · refine Wp.seqReg (by simp only [go_sem, reduceIte, Nat.reduceEqDiff]; exact rfl) (by trivial) ?_
        refine Wp.ret ⟨trivial, _, rfl, ?_⟩
        simp only [go_sem, reduceIte, Nat.reduceEqDiff]
        exact VSub.refl _
end Go.Proofs.Ytgainpikomhepaa.Page
