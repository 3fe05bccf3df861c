/- Chapter 08: the document's Read. -/
import Derived.Test.YtgainpikomhepaaPageR3
set_option linter.unusedSimpArgs false
set_option linter.unusedVariables false
set_option maxRecDepth 10000
namespace Go.Proofs.Ytgainpikomhepaa.Page
open Go Go.Av Go.Proofs Go.Proofs.Ytgainpikomhepaa.C

theorem atI_ok (s : Scan) : decide ((0 : Int) ≤ atI s) = s.ok := by unfold atI; cases s.ok <;> simp
theorem atI_neg (s : Scan) : decide (atI s < (0 : Int)) = !s.ok := by unfold atI; cases s.ok <;> simp <;> omega
theorem leaf_eq (b : List UInt8) : decide ((((b.getD 0 0).toNat : Nat) : Int) = 76) = leafOf b := by
  unfold leafOf
  refine decide_eq_decide.2 ⟨fun h => ?_, fun h => by rw [h]; rfl⟩
  have : (b.getD 0 0).toNat = 76 := by omega
  exact UInt8.toNat_inj.1 this

/-- what stands of what has been read behind some rounds -/
structure Inv (leaf : Bool) (b : List UInt8) (i : Nat) (a : Acc) : Prop where
  pos : a.s.pos ≤ b.length
  k : a.keys.length ≤ i
  v : a.vals.length ≤ i
  d : a.kids.length ≤ i + 1
  tk : tot a.keys ≤ i * b.length
  tv : tot a.vals ≤ i * b.length

theorem piece_length (b : List UInt8) (s : Scan) (w : Nat) : (pieceS b s w).1.length ≤ b.length := by
  unfold pieceS; split
  · simp; omega
  · simp
theorem Inv.step {leaf : Bool} {b : List UInt8} {i : Nat} {a : Acc} (h : Inv leaf b i a) : Inv leaf b (i + 1) (stepS leaf b a) := by
  obtain ⟨h1, h2, h3, h4, h5, h6⟩ := h
  have p1 := pieceS_le (w := 1) h1
  have l1 := piece_length b a.s 1
  have l2 := piece_length b (pieceS b a.s 1).2 2
  unfold stepS
  split
  · refine ⟨pieceS_le p1, by simp; omega, by simp; omega, by simp only; omega, ?_, ?_⟩
    · simp only [tot_append, tot_cons, Nat.add_mul]; simp only [tot, List.map_nil, List.sum_nil] at h5 ⊢; omega
    · simp only [tot_append, tot_cons, Nat.add_mul]; simp only [tot, List.map_nil, List.sum_nil] at h6 ⊢; omega
  · refine ⟨numS_le p1, by simp; omega, by simp only; omega, by simp; omega, ?_, by simp only [Nat.add_mul]; omega⟩
    simp only [tot_append, tot_cons, Nat.add_mul]; simp only [tot, List.map_nil, List.sum_nil] at h5 ⊢; omega
theorem Inv.start (leaf : Bool) (b : List UInt8) (hb : 3 ≤ b.length) : Inv leaf b 0 (startS leaf b) := by
  unfold startS; split
  · exact ⟨hb, by simp, by simp, by simp, by simp [tot], by simp [tot]⟩
  · exact ⟨numS_le hb, by simp, by simp, by simp, by simp [tot], by simp [tot]⟩
theorem Inv.loop {leaf : Bool} {b : List UInt8} : ∀ {c i : Nat} {a : Acc}, Inv leaf b i a → Inv leaf b (i + c) (loopS leaf b c a)
  | 0, i, a, h => h
  | c + 1, i, a, h => by
    unfold loopS
    split
    · have := Inv.loop (c := c) h.step
      rwa [Nat.add_assoc, Nat.add_comm 1 c] at this
    · exact ⟨h.pos, by have := h.k; omega, by have := h.v; omega, by have := h.d; omega, Nat.le_trans h.tk (Nat.mul_le_mul_right _ (by omega)), Nat.le_trans h.tv (Nat.mul_le_mul_right _ (by omega))⟩
theorem count_lt (b : List UInt8) : val ((b.drop 1).take 2) < 65536 := by
  refine Nat.lt_of_lt_of_le (val_lt _) ?_
  have : ((b.drop 1).take 2).length ≤ 2 := by simp; omega
  exact Nat.pow_le_pow_right (by omega) this
theorem node_nb {b : List UInt8} (hb : b.length = 1024) : Nb (nodeOf b) := by
  have h := (Inv.start (leafOf b) b (by omega)).loop (c := val ((b.drop 1).take 2))
  have hc := count_lt b
  rw [Nat.zero_add] at h
  obtain ⟨h1, h2, h3, h4, h5, h6⟩ := h
  rw [hb] at h5 h6
  exact ⟨by show (accOf b).keys.length ≤ _; unfold accOf; omega, by show (accOf b).vals.length ≤ _; unfold accOf; omega, by show (accOf b).kids.length ≤ _; unfold accOf; omega, by show tot (accOf b).keys ≤ _; unfold accOf; omega, by show tot (accOf b).vals ≤ _; unfold accOf; omega⟩

theorem strs_snoc (a : List (List UInt8)) (x : List UInt8) : strs a ++ [.str x] = strs (a ++ [x]) := by simp [strs]
theorem ints_snoc (a : List Int) (x : Int) : ints a ++ [.int .i64 x] = ints (a ++ [x]) := by simp [ints]
theorem ne_f {a b : Nat} (h : a ≠ b) : (a = b) = False := eq_false h
def zeroC : List AV := [.bool false, .sl 1 [] (.exact 0), .sl 1 [] (.exact 0), .sl 1 [] (.exact 0)]
def accC (l : Bool) (a : Acc) (c1 c2 c3 : Cap) : List AV := [.bool l, .sl 1 (strs a.keys) c1, .sl 1 (strs a.vals) c2, .sl 1 (ints a.kids) c3]

theorem readR_p (b : List UInt8) : PCalls Try.prog 24 [.str b] (.tup [encNode (readN b), .int .i64 (readE b)]) := by
  refine f24.pcalls0 (by simp) (by simp [allPure, isPure]) (by simp [allPure, isPure, encNode_pure]) ?_
  unfold c24
  refine Wp.seqReg (by simp only [go_sem, reduceIte, Nat.reduceEqDiff, Nat.reduceAdd, Bool.false_eq_true, Bool.true_beq, Bool.false_beq, Bool.not_true, Bool.not_false]; exact rfl) (by trivial) ?_
  refine Wp.seq ?_
  by_cases hb : b.length = 1024
  · have d0 : decide ((b.length : Int) = 1024) = true := decide_eq_true (by omega)
    have x0 : (0 : Int) < (b.length : Int) := by omega
    have y0 : (0 : Int) ≤ (0 : Int) := by omega
    have hnum := numberR_p b 1 2 (by omega) (by omega) (by omega)
    have hcn := count_lt b
    have hI0 := Inv.start (leafOf b) b (by omega)
    have hacc : accOf b = loopS (leafOf b) b (val ((b.drop 1).take 2)) (startS (leafOf b) b) := rfl
    generalize val ((b.drop 1).take 2) = C at *
    repeat (first
      | (refine Wp.seqItems (its := ?_) (t' := ?_) (h' := ?_) (log := ?_) ?_ ?_; rotate_left 4; (· simp only [go_sem, reduceIte, Nat.reduceEqDiff, Nat.reduceAdd, Bool.false_eq_true, Bool.true_beq, Bool.false_beq, Bool.not_true, Bool.not_false, and_self, true_and, and_true, if_true, if_false, true_or, or_true, Nat.zero_mul, Nat.one_mul, Nat.zero_le, Nat.reduceMul, Nat.reduceLeDiff, decide_true, decide_false, Int.toNat_natCast, List.length_append, List.filter_cons, List.filter_nil, ne_eq, not_true_eq_false, not_false_eq_true, d0, x0, y0, byte, leaf_eq, show (0 : Int).toNat = 0 from rfl, upd_upd]; exact rfl))
      | (refine Wp.items (its := ?_) (t' := ?_) (h' := ?_) (log := ?_) ?_ ?_; rotate_left 4; (· simp only [go_sem, reduceIte, Nat.reduceEqDiff, Nat.reduceAdd, Bool.false_eq_true, Bool.true_beq, Bool.false_beq, Bool.not_true, Bool.not_false, and_self, true_and, and_true, if_true, if_false, true_or, or_true, Nat.zero_mul, Nat.one_mul, Nat.zero_le, Nat.reduceMul, Nat.reduceLeDiff, decide_true, decide_false, Int.toNat_natCast, List.length_append, List.filter_cons, List.filter_nil, ne_eq, not_true_eq_false, not_false_eq_true, d0, x0, y0, byte, leaf_eq, show (0 : Int).toNat = 0 from rfl, upd_upd]; exact rfl))
      | (refine WpItems.nil ⟨?_, ?_⟩; (· first | trivial | simp [pairsQ, pairsOk, apart, ent0]))
      | (refine WpItems.pcall ?_ ?_ (hnum) ?_; (· simp only [go_sem, reduceIte, Nat.reduceEqDiff, Nat.reduceAdd, Bool.false_eq_true, Bool.true_beq, Bool.false_beq, Bool.not_true, Bool.not_false]); (· simp only [go_sem, reduceIte, Nat.reduceEqDiff, Nat.reduceAdd, Bool.false_eq_true, Bool.true_beq, Bool.false_beq, Bool.not_true, Bool.not_false, List.map]; first | exact VSubs.refl _ | (repeat (first | exact VSubs.nil | refine VSubs.cons (by first | exact VSub.refl _ | assumption | exact VSub.cap | exact VSub.any _) ?_))); refine WpItems.eval (its := ?_) (t' := ?_) (h' := ?_) (log' := ?_) ?_ ?_; rotate_left 4; (· simp only [go_sem, reduceIte, Nat.reduceEqDiff, Nat.reduceAdd, Bool.false_eq_true, Bool.true_beq, Bool.false_beq, Bool.not_true, Bool.not_false, and_self, true_and, and_true, if_true, if_false, true_or, or_true, Nat.zero_mul, Nat.one_mul, Nat.zero_le, Nat.reduceMul, Nat.reduceLeDiff, decide_true, decide_false, Int.toNat_natCast, List.length_append, List.filter_cons, List.filter_nil, ne_eq, not_true_eq_false, not_false_eq_true, d0, x0, y0, byte, leaf_eq, show (0 : Int).toNat = 0 from rfl, upd_upd]; exact rfl))
      | (refine Wp.cond_true ?_ ?_; (· simp only [go_sem, reduceIte, Nat.reduceEqDiff, Nat.reduceAdd, Bool.false_eq_true, Bool.true_beq, Bool.false_beq, Bool.not_true, Bool.not_false, and_self, true_and, and_true, if_true, if_false, true_or, or_true, Nat.zero_mul, Nat.one_mul, Nat.zero_le, Nat.reduceMul, Nat.reduceLeDiff, decide_true, decide_false, Int.toNat_natCast, List.length_append, List.filter_cons, List.filter_nil, ne_eq, not_true_eq_false, not_false_eq_true, d0, x0, y0, byte, leaf_eq, show (0 : Int).toNat = 0 from rfl, upd_upd]))
      | (refine Wp.cond_false ?_ ?_; (· simp only [go_sem, reduceIte, Nat.reduceEqDiff, Nat.reduceAdd, Bool.false_eq_true, Bool.true_beq, Bool.false_beq, Bool.not_true, Bool.not_false, and_self, true_and, and_true, if_true, if_false, true_or, or_true, Nat.zero_mul, Nat.one_mul, Nat.zero_le, Nat.reduceMul, Nat.reduceLeDiff, decide_true, decide_false, Int.toNat_natCast, List.length_append, List.filter_cons, List.filter_nil, ne_eq, not_true_eq_false, not_false_eq_true, d0, x0, y0, byte, leaf_eq, show (0 : Int).toNat = 0 from rfl, upd_upd]))
      | refine Wp.skip ?_
      | refine Wp.block ?_
      | refine Wp.exit ?_
      | refine Wp.seq ?_)
    refine Wp.meet ⟨tm [(0, .str b), (2, .ptr 0 0), (4, .ptr 1 0), (5, .int .i64 C), (6, .int .i64 (atI (startS (leafOf b) b).s))], ⟨upd (upd none' 0 (some (.cells zeroC))) 1 (some (.cells (accC (leafOf b) (startS (leafOf b) b) (.own 0) (.own 1) (.own 2)))), 2, [2, 1, 0], 3⟩⟩ ?_ ?_
    · cases hl : leafOf b with
      | true =>
        repeat (first
          | (refine Wp.seqItems (its := ?_) (t' := ?_) (h' := ?_) (log := ?_) ?_ ?_; rotate_left 4; (· simp only [go_sem, reduceIte, Nat.reduceEqDiff, Nat.reduceAdd, Bool.false_eq_true, Bool.true_beq, Bool.false_beq, Bool.not_true, Bool.not_false, and_self, true_and, and_true, if_true, if_false, true_or, or_true, Nat.zero_mul, Nat.one_mul, Nat.zero_le, Nat.reduceMul, Nat.reduceLeDiff, decide_true, decide_false, Int.toNat_natCast, List.length_append, List.filter_cons, List.filter_nil, ne_eq, not_true_eq_false, not_false_eq_true, upd_upd]; exact rfl))
          | (refine Wp.items (its := ?_) (t' := ?_) (h' := ?_) (log := ?_) ?_ ?_; rotate_left 4; (· simp only [go_sem, reduceIte, Nat.reduceEqDiff, Nat.reduceAdd, Bool.false_eq_true, Bool.true_beq, Bool.false_beq, Bool.not_true, Bool.not_false, and_self, true_and, and_true, if_true, if_false, true_or, or_true, Nat.zero_mul, Nat.one_mul, Nat.zero_le, Nat.reduceMul, Nat.reduceLeDiff, decide_true, decide_false, Int.toNat_natCast, List.length_append, List.filter_cons, List.filter_nil, ne_eq, not_true_eq_false, not_false_eq_true, upd_upd]; exact rfl))
          | (refine WpItems.nil ⟨?_, ?_⟩; (· first | trivial | simp [pairsQ, pairsOk, apart, ent0]))
          | (refine Wp.cond_true ?_ ?_; (· simp only [go_sem, reduceIte, Nat.reduceEqDiff, Nat.reduceAdd, Bool.false_eq_true, Bool.true_beq, Bool.false_beq, Bool.not_true, Bool.not_false, and_self, true_and, and_true, if_true, if_false, true_or, or_true, Nat.zero_mul, Nat.one_mul, Nat.zero_le, Nat.reduceMul, Nat.reduceLeDiff, decide_true, decide_false, Int.toNat_natCast, List.length_append, List.filter_cons, List.filter_nil, ne_eq, not_true_eq_false, not_false_eq_true, upd_upd]))
          | (refine Wp.cond_false ?_ ?_; (· simp only [go_sem, reduceIte, Nat.reduceEqDiff, Nat.reduceAdd, Bool.false_eq_true, Bool.true_beq, Bool.false_beq, Bool.not_true, Bool.not_false, and_self, true_and, and_true, if_true, if_false, true_or, or_true, Nat.zero_mul, Nat.one_mul, Nat.zero_le, Nat.reduceMul, Nat.reduceLeDiff, decide_true, decide_false, Int.toNat_natCast, List.length_append, List.filter_cons, List.filter_nil, ne_eq, not_true_eq_false, not_false_eq_true, upd_upd]))
          | refine Wp.skip ?_
          | refine Wp.block ?_
          | refine Wp.exit ?_
          | refine Wp.seq ?_)
        refine StLe.trans (StLe.tok _ _) (StLe.trans (StLe.tok _ _) (StLe.trans (StLe.tok _ _) (StLe.of (tm_le ?_) (OLe.upd (OLe.upd (OLe.none _) (OSub.refl _)) (VSubs.own3 rfl rfl rfl)) (fun _ h => h) (Nat.le_refl _) (Nat.le_refl _))))
        simp only [AllSub, go_sem, reduceIte, Nat.reduceEqDiff, Nat.reduceAdd, Bool.false_eq_true, Bool.true_beq, Bool.false_beq, Bool.not_true, Bool.not_false, startS, atI]; and_intros <;> first | exact trivial | exact VSub.refl _ | exact VSub.any _ | (refine VSub.int ?_; omega)
      | false =>
        have hk := kid_p b ⟨3, true⟩ (by omega) (by simp; omega)
        repeat (first
          | (refine Wp.seqItems (its := ?_) (t' := ?_) (h' := ?_) (log := ?_) ?_ ?_; rotate_left 4; (· simp only [go_sem, reduceIte, Nat.reduceEqDiff, Nat.reduceAdd, Bool.false_eq_true, Bool.true_beq, Bool.false_beq, Bool.not_true, Bool.not_false, and_self, true_and, and_true, if_true, if_false, true_or, or_true, Nat.zero_mul, Nat.one_mul, Nat.zero_le, Nat.reduceMul, Nat.reduceLeDiff, decide_true, decide_false, Int.toNat_natCast, List.length_append, List.filter_cons, List.filter_nil, ne_eq, not_true_eq_false, not_false_eq_true, upd_upd]; exact rfl))
          | (refine Wp.items (its := ?_) (t' := ?_) (h' := ?_) (log := ?_) ?_ ?_; rotate_left 4; (· simp only [go_sem, reduceIte, Nat.reduceEqDiff, Nat.reduceAdd, Bool.false_eq_true, Bool.true_beq, Bool.false_beq, Bool.not_true, Bool.not_false, and_self, true_and, and_true, if_true, if_false, true_or, or_true, Nat.zero_mul, Nat.one_mul, Nat.zero_le, Nat.reduceMul, Nat.reduceLeDiff, decide_true, decide_false, Int.toNat_natCast, List.length_append, List.filter_cons, List.filter_nil, ne_eq, not_true_eq_false, not_false_eq_true, upd_upd]; exact rfl))
          | (refine WpItems.nil ⟨?_, ?_⟩; (· first | trivial | simp [pairsQ, pairsOk, apart, ent0]))
          | (refine WpItems.pcall ?_ ?_ (hk) ?_; (· simp only [go_sem, reduceIte, Nat.reduceEqDiff, Nat.reduceAdd, Bool.false_eq_true, Bool.true_beq, Bool.false_beq, Bool.not_true, Bool.not_false]); (· simp only [go_sem, reduceIte, Nat.reduceEqDiff, Nat.reduceAdd, Bool.false_eq_true, Bool.true_beq, Bool.false_beq, Bool.not_true, Bool.not_false, List.map]; first | exact VSubs.refl _ | (repeat (first | exact VSubs.nil | refine VSubs.cons (by first | exact VSub.refl _ | assumption | exact VSub.cap | exact VSub.any _) ?_))); refine WpItems.eval (its := ?_) (t' := ?_) (h' := ?_) (log' := ?_) ?_ ?_; rotate_left 4; (· simp only [go_sem, reduceIte, Nat.reduceEqDiff, Nat.reduceAdd, Bool.false_eq_true, Bool.true_beq, Bool.false_beq, Bool.not_true, Bool.not_false, and_self, true_and, and_true, if_true, if_false, true_or, or_true, Nat.zero_mul, Nat.one_mul, Nat.zero_le, Nat.reduceMul, Nat.reduceLeDiff, decide_true, decide_false, Int.toNat_natCast, List.length_append, List.filter_cons, List.filter_nil, ne_eq, not_true_eq_false, not_false_eq_true, upd_upd]; exact rfl))
          | (refine Wp.cond_true ?_ ?_; (· simp only [go_sem, reduceIte, Nat.reduceEqDiff, Nat.reduceAdd, Bool.false_eq_true, Bool.true_beq, Bool.false_beq, Bool.not_true, Bool.not_false, and_self, true_and, and_true, if_true, if_false, true_or, or_true, Nat.zero_mul, Nat.one_mul, Nat.zero_le, Nat.reduceMul, Nat.reduceLeDiff, decide_true, decide_false, Int.toNat_natCast, List.length_append, List.filter_cons, List.filter_nil, ne_eq, not_true_eq_false, not_false_eq_true, upd_upd]))
          | (refine Wp.cond_false ?_ ?_; (· simp only [go_sem, reduceIte, Nat.reduceEqDiff, Nat.reduceAdd, Bool.false_eq_true, Bool.true_beq, Bool.false_beq, Bool.not_true, Bool.not_false, and_self, true_and, and_true, if_true, if_false, true_or, or_true, Nat.zero_mul, Nat.one_mul, Nat.zero_le, Nat.reduceMul, Nat.reduceLeDiff, decide_true, decide_false, Int.toNat_natCast, List.length_append, List.filter_cons, List.filter_nil, ne_eq, not_true_eq_false, not_false_eq_true, upd_upd]))
          | refine Wp.skip ?_
          | refine Wp.block ?_
          | refine Wp.exit ?_
          | refine Wp.seq ?_)
        refine StLe.trans (StLe.tok _ _) (StLe.trans (StLe.tok _ _) (StLe.trans (StLe.tok _ _) (StLe.of (tm_le ?_) (OLe.upd (OLe.upd (OLe.none _) (OSub.refl _)) (VSubs.own3 rfl rfl rfl)) (fun _ h => h) (Nat.le_refl _) (Nat.le_refl _))))
        simp only [AllSub, go_sem, reduceIte, Nat.reduceEqDiff, Nat.reduceAdd, Bool.false_eq_true, Bool.true_beq, Bool.false_beq, Bool.not_true, Bool.not_false, startS, atI]; and_intros <;> first | exact trivial | exact VSub.refl _ | exact VSub.any _ | (refine VSub.int ?_; omega)
    · refine Wp.seqJoin ⟨tm [(0, .str b), (2, .ptr 0 0), (4, .ptr 1 0), (6, .int .i64 (atI (accOf b).s))], ⟨upd (upd none' 0 (some (.cells zeroC))) 1 (some (.cells (accC (leafOf b) (accOf b) .any .any .any))), 2, [], 131075⟩⟩ ?_ ?_
      · repeat (first
          | (refine Wp.seqItems (its := ?_) (t' := ?_) (h' := ?_) (log := ?_) ?_ ?_; rotate_left 4; (· simp only [go_sem, reduceIte, Nat.reduceEqDiff, Nat.reduceAdd, Bool.false_eq_true, Bool.true_beq, Bool.false_beq, Bool.not_true, Bool.not_false, and_self, true_and, and_true, if_true, if_false, true_or, or_true, Nat.zero_mul, Nat.one_mul, Nat.zero_le, Nat.reduceMul, Nat.reduceLeDiff, decide_true, decide_false, Int.toNat_natCast, List.length_append, List.filter_cons, List.filter_nil, ne_eq, not_true_eq_false, not_false_eq_true]; exact rfl))
          | (refine Wp.items (its := ?_) (t' := ?_) (h' := ?_) (log := ?_) ?_ ?_; rotate_left 4; (· simp only [go_sem, reduceIte, Nat.reduceEqDiff, Nat.reduceAdd, Bool.false_eq_true, Bool.true_beq, Bool.false_beq, Bool.not_true, Bool.not_false, and_self, true_and, and_true, if_true, if_false, true_or, or_true, Nat.zero_mul, Nat.one_mul, Nat.zero_le, Nat.reduceMul, Nat.reduceLeDiff, decide_true, decide_false, Int.toNat_natCast, List.length_append, List.filter_cons, List.filter_nil, ne_eq, not_true_eq_false, not_false_eq_true]; exact rfl))
          | (refine WpItems.nil ⟨?_, ?_⟩; (· first | trivial | simp [pairsQ, pairsOk, apart, ent0]))
          | (refine Wp.cond_true ?_ ?_; (· simp only [go_sem, reduceIte, Nat.reduceEqDiff, Nat.reduceAdd, Bool.false_eq_true, Bool.true_beq, Bool.false_beq, Bool.not_true, Bool.not_false, and_self, true_and, and_true, if_true, if_false, true_or, or_true, Nat.zero_mul, Nat.one_mul, Nat.zero_le, Nat.reduceMul, Nat.reduceLeDiff, decide_true, decide_false, Int.toNat_natCast, List.length_append, List.filter_cons, List.filter_nil, ne_eq, not_true_eq_false, not_false_eq_true]))
          | (refine Wp.cond_false ?_ ?_; (· simp only [go_sem, reduceIte, Nat.reduceEqDiff, Nat.reduceAdd, Bool.false_eq_true, Bool.true_beq, Bool.false_beq, Bool.not_true, Bool.not_false, and_self, true_and, and_true, if_true, if_false, true_or, or_true, Nat.zero_mul, Nat.one_mul, Nat.zero_le, Nat.reduceMul, Nat.reduceLeDiff, decide_true, decide_false, Int.toNat_natCast, List.length_append, List.filter_cons, List.filter_nil, ne_eq, not_true_eq_false, not_false_eq_true]))
          | refine Wp.skip ?_
          | refine Wp.block ?_
          | refine Wp.exit ?_
          | refine Wp.seq ?_)
        refine Wp.loop (β := Nat × Acc × Nat × Nat × Nat × Nat) (fun j => ⟨tm [(0, .str b), (2, .ptr 0 0), (4, .ptr 1 0), (5, .int .i64 C), (6, .int .i64 (atI j.2.1.s)), (9, .int .i64 j.1)], ⟨upd (upd none' 0 (some (.cells zeroC))) 1 (some (.cells (accC (leafOf b) j.2.1 (.own j.2.2.1) (.own j.2.2.2.1) (.own j.2.2.2.2.1)))), 2, [j.2.2.1, j.2.2.2.1, j.2.2.2.2.1], j.2.2.2.2.2⟩⟩)
          (fun j => j.1 ≤ C ∧ Inv (leafOf b) b j.1 j.2.1 ∧ loopS (leafOf b) b (C - j.1) j.2.1 = accOf b ∧ j.2.2.1 ≠ j.2.2.2.1 ∧ j.2.2.1 ≠ j.2.2.2.2.1 ∧ j.2.2.2.1 ≠ j.2.2.2.2.1 ∧ j.2.2.1 < j.2.2.2.2.2 ∧ j.2.2.2.1 < j.2.2.2.2.2 ∧ j.2.2.2.2.1 < j.2.2.2.2.2 ∧ j.2.2.2.2.2 ≤ 3 + 2 * j.1)
          (fun j => C - j.1) (0, startS (leafOf b) b, 0, 1, 2, 3) ⟨Nat.zero_le _, hI0, hacc.symm, by simp, by simp, by simp, by simp, by simp, by simp, by simp⟩ (StLe.of (tm_le ?_) (OLe.refl _) (by simp) (Nat.le_refl _) (Nat.le_refl _)) ?_
        · simp only [AllSub, go_sem, reduceIte, Nat.reduceEqDiff, Nat.reduceAdd, Bool.false_eq_true, Bool.true_beq, Bool.false_beq, Bool.not_true, Bool.not_false]; and_intros <;> first | exact trivial | exact VSub.refl _ | exact VSub.any _ | (refine VSub.int ?_; omega)
        · rintro ⟨i, a, tk, tv, td, m⟩ ⟨hi, hI, hL, n1, n2, n3, m1, m2, m3, hm⟩
          simp only at hi hI hL n1 n2 n3 m1 m2 m3 hm
          have hpos := hI.pos
          have hp := pieceR_p b a.s 1 (by omega) (by omega) hpos
          have hpos1 := pieceS_le (w := 1) hpos
          have hp2 := pieceR_p b (pieceS b a.s 1).2 2 (by omega) (by omega) hpos1
          have hk2 := kid_p b (pieceS b a.s 1).2 (by omega) hpos1
          have lk := hI.k
          have lv := hI.v
          have ld := hI.d
          have e1 : IntKind.i64.wrap ((i : Int) + 1) = ((i + 1 : Nat) : Int) := by rw [IntWalk.i64_in _ (by omega)]; omega
          by_cases hc : i < C ∧ a.s.ok = true
          · obtain ⟨hlt, hok⟩ := hc
            have hst : loopS (leafOf b) b (C - (i + 1)) (stepS (leafOf b) b a) = accOf b := by
              rw [← hL, show C - i = (C - (i + 1)) + 1 by omega, loopS, if_pos hok]
            have hI' := hI.step
            have d1 : decide ((i : Int) < (C : Int)) = true := decide_eq_true (by omega)
            have r0 : (a.keys.length + 1) * 16 ≤ 140737488355328 := by omega
            have r0' : a.keys.length + 1 < 4611686018427387904 := by omega
            have v0 : (a.vals.length + 1) * 16 ≤ 140737488355328 := by omega
            have v0' : a.vals.length + 1 < 4611686018427387904 := by omega
            have d0 : (a.kids.length + 1) * 8 ≤ 140737488355328 := by omega
            have d0' : a.kids.length + 1 < 4611686018427387904 := by omega
            have dd0 : (a.kids.length + 1) * 8 ≤ 140737488355328 := by omega
            cases hl : leafOf b with
            | true =>
              rw [hl] at hst hI'
              repeat (first
                | (refine Wp.seqItems (its := ?_) (t' := ?_) (h' := ?_) (log := ?_) ?_ ?_; rotate_left 4; (· simp only [go_sem, reduceIte, Nat.reduceEqDiff, Nat.reduceAdd, Bool.false_eq_true, Bool.true_beq, Bool.false_beq, Bool.not_true, Bool.not_false, and_self, true_and, and_true, if_true, if_false, true_or, or_true, Nat.zero_mul, Nat.one_mul, Nat.zero_le, Nat.reduceMul, Nat.reduceLeDiff, decide_true, decide_false, Int.toNat_natCast, List.length_append, List.filter_cons, List.filter_nil, ne_eq, not_true_eq_false, not_false_eq_true, d1, hok, atI_ok, accC, upd_upd, strs_snoc, ints_snoc, e1, r0, r0', v0, v0', dd0, d0', List.mem_cons, ne_f n1, ne_f n1.symm, ne_f n2, ne_f n2.symm, ne_f n3, ne_f n3.symm, ne_f (Nat.ne_of_gt m2), ne_f (Nat.ne_of_gt m3), ne_f (Nat.ne_of_lt m2), ne_f (Nat.ne_of_lt m3), eq_self]; exact rfl))
                | (refine Wp.items (its := ?_) (t' := ?_) (h' := ?_) (log := ?_) ?_ ?_; rotate_left 4; (· simp only [go_sem, reduceIte, Nat.reduceEqDiff, Nat.reduceAdd, Bool.false_eq_true, Bool.true_beq, Bool.false_beq, Bool.not_true, Bool.not_false, and_self, true_and, and_true, if_true, if_false, true_or, or_true, Nat.zero_mul, Nat.one_mul, Nat.zero_le, Nat.reduceMul, Nat.reduceLeDiff, decide_true, decide_false, Int.toNat_natCast, List.length_append, List.filter_cons, List.filter_nil, ne_eq, not_true_eq_false, not_false_eq_true, d1, hok, atI_ok, accC, upd_upd, strs_snoc, ints_snoc, e1, r0, r0', v0, v0', dd0, d0', List.mem_cons, ne_f n1, ne_f n1.symm, ne_f n2, ne_f n2.symm, ne_f n3, ne_f n3.symm, ne_f (Nat.ne_of_gt m2), ne_f (Nat.ne_of_gt m3), ne_f (Nat.ne_of_lt m2), ne_f (Nat.ne_of_lt m3), eq_self]; exact rfl))
                | (refine WpItems.nil ⟨?_, ?_⟩; (· first | trivial | simp [pairsQ, pairsOk, apart, ent0]))
                | (refine WpItems.pcall ?_ ?_ (hp) ?_; (· simp only [go_sem, reduceIte, Nat.reduceEqDiff, Nat.reduceAdd, Bool.false_eq_true, Bool.true_beq, Bool.false_beq, Bool.not_true, Bool.not_false]); (· simp only [go_sem, reduceIte, Nat.reduceEqDiff, Nat.reduceAdd, Bool.false_eq_true, Bool.true_beq, Bool.false_beq, Bool.not_true, Bool.not_false, List.map]; first | exact VSubs.refl _ | (repeat (first | exact VSubs.nil | refine VSubs.cons (by first | exact VSub.refl _ | assumption | exact VSub.cap | exact VSub.any _) ?_))); refine WpItems.eval (its := ?_) (t' := ?_) (h' := ?_) (log' := ?_) ?_ ?_; rotate_left 4; (· simp only [go_sem, reduceIte, Nat.reduceEqDiff, Nat.reduceAdd, Bool.false_eq_true, Bool.true_beq, Bool.false_beq, Bool.not_true, Bool.not_false, and_self, true_and, and_true, if_true, if_false, true_or, or_true, Nat.zero_mul, Nat.one_mul, Nat.zero_le, Nat.reduceMul, Nat.reduceLeDiff, decide_true, decide_false, Int.toNat_natCast, List.length_append, List.filter_cons, List.filter_nil, ne_eq, not_true_eq_false, not_false_eq_true, d1, hok, atI_ok, accC, upd_upd, strs_snoc, ints_snoc, e1, r0, r0', v0, v0', dd0, d0', List.mem_cons, ne_f n1, ne_f n1.symm, ne_f n2, ne_f n2.symm, ne_f n3, ne_f n3.symm, ne_f (Nat.ne_of_gt m2), ne_f (Nat.ne_of_gt m3), ne_f (Nat.ne_of_lt m2), ne_f (Nat.ne_of_lt m3), eq_self]; exact rfl))
                | (refine WpItems.pcall ?_ ?_ (hp2) ?_; (· simp only [go_sem, reduceIte, Nat.reduceEqDiff, Nat.reduceAdd, Bool.false_eq_true, Bool.true_beq, Bool.false_beq, Bool.not_true, Bool.not_false]); (· simp only [go_sem, reduceIte, Nat.reduceEqDiff, Nat.reduceAdd, Bool.false_eq_true, Bool.true_beq, Bool.false_beq, Bool.not_true, Bool.not_false, List.map]; first | exact VSubs.refl _ | (repeat (first | exact VSubs.nil | refine VSubs.cons (by first | exact VSub.refl _ | assumption | exact VSub.cap | exact VSub.any _) ?_))); refine WpItems.eval (its := ?_) (t' := ?_) (h' := ?_) (log' := ?_) ?_ ?_; rotate_left 4; (· simp only [go_sem, reduceIte, Nat.reduceEqDiff, Nat.reduceAdd, Bool.false_eq_true, Bool.true_beq, Bool.false_beq, Bool.not_true, Bool.not_false, and_self, true_and, and_true, if_true, if_false, true_or, or_true, Nat.zero_mul, Nat.one_mul, Nat.zero_le, Nat.reduceMul, Nat.reduceLeDiff, decide_true, decide_false, Int.toNat_natCast, List.length_append, List.filter_cons, List.filter_nil, ne_eq, not_true_eq_false, not_false_eq_true, d1, hok, atI_ok, accC, upd_upd, strs_snoc, ints_snoc, e1, r0, r0', v0, v0', dd0, d0', List.mem_cons, ne_f n1, ne_f n1.symm, ne_f n2, ne_f n2.symm, ne_f n3, ne_f n3.symm, ne_f (Nat.ne_of_gt m2), ne_f (Nat.ne_of_gt m3), ne_f (Nat.ne_of_lt m2), ne_f (Nat.ne_of_lt m3), eq_self]; exact rfl))
                | (refine WpItems.pcall ?_ ?_ (hk2) ?_; (· simp only [go_sem, reduceIte, Nat.reduceEqDiff, Nat.reduceAdd, Bool.false_eq_true, Bool.true_beq, Bool.false_beq, Bool.not_true, Bool.not_false]); (· simp only [go_sem, reduceIte, Nat.reduceEqDiff, Nat.reduceAdd, Bool.false_eq_true, Bool.true_beq, Bool.false_beq, Bool.not_true, Bool.not_false, List.map]; first | exact VSubs.refl _ | (repeat (first | exact VSubs.nil | refine VSubs.cons (by first | exact VSub.refl _ | assumption | exact VSub.cap | exact VSub.any _) ?_))); refine WpItems.eval (its := ?_) (t' := ?_) (h' := ?_) (log' := ?_) ?_ ?_; rotate_left 4; (· simp only [go_sem, reduceIte, Nat.reduceEqDiff, Nat.reduceAdd, Bool.false_eq_true, Bool.true_beq, Bool.false_beq, Bool.not_true, Bool.not_false, and_self, true_and, and_true, if_true, if_false, true_or, or_true, Nat.zero_mul, Nat.one_mul, Nat.zero_le, Nat.reduceMul, Nat.reduceLeDiff, decide_true, decide_false, Int.toNat_natCast, List.length_append, List.filter_cons, List.filter_nil, ne_eq, not_true_eq_false, not_false_eq_true, d1, hok, atI_ok, accC, upd_upd, strs_snoc, ints_snoc, e1, r0, r0', v0, v0', dd0, d0', List.mem_cons, ne_f n1, ne_f n1.symm, ne_f n2, ne_f n2.symm, ne_f n3, ne_f n3.symm, ne_f (Nat.ne_of_gt m2), ne_f (Nat.ne_of_gt m3), ne_f (Nat.ne_of_lt m2), ne_f (Nat.ne_of_lt m3), eq_self]; exact rfl))
                | (refine Wp.cond_true ?_ ?_; (· simp only [go_sem, reduceIte, Nat.reduceEqDiff, Nat.reduceAdd, Bool.false_eq_true, Bool.true_beq, Bool.false_beq, Bool.not_true, Bool.not_false, and_self, true_and, and_true, if_true, if_false, true_or, or_true, Nat.zero_mul, Nat.one_mul, Nat.zero_le, Nat.reduceMul, Nat.reduceLeDiff, decide_true, decide_false, Int.toNat_natCast, List.length_append, List.filter_cons, List.filter_nil, ne_eq, not_true_eq_false, not_false_eq_true, d1, hok, atI_ok, accC, upd_upd, strs_snoc, ints_snoc, e1, r0, r0', v0, v0', dd0, d0', List.mem_cons, ne_f n1, ne_f n1.symm, ne_f n2, ne_f n2.symm, ne_f n3, ne_f n3.symm, ne_f (Nat.ne_of_gt m2), ne_f (Nat.ne_of_gt m3), ne_f (Nat.ne_of_lt m2), ne_f (Nat.ne_of_lt m3), eq_self]))
                | (refine Wp.cond_false ?_ ?_; (· simp only [go_sem, reduceIte, Nat.reduceEqDiff, Nat.reduceAdd, Bool.false_eq_true, Bool.true_beq, Bool.false_beq, Bool.not_true, Bool.not_false, and_self, true_and, and_true, if_true, if_false, true_or, or_true, Nat.zero_mul, Nat.one_mul, Nat.zero_le, Nat.reduceMul, Nat.reduceLeDiff, decide_true, decide_false, Int.toNat_natCast, List.length_append, List.filter_cons, List.filter_nil, ne_eq, not_true_eq_false, not_false_eq_true, d1, hok, atI_ok, accC, upd_upd, strs_snoc, ints_snoc, e1, r0, r0', v0, v0', dd0, d0', List.mem_cons, ne_f n1, ne_f n1.symm, ne_f n2, ne_f n2.symm, ne_f n3, ne_f n3.symm, ne_f (Nat.ne_of_gt m2), ne_f (Nat.ne_of_gt m3), ne_f (Nat.ne_of_lt m2), ne_f (Nat.ne_of_lt m3), eq_self]))
                | refine Wp.skip ?_
                | refine Wp.block ?_
                | refine Wp.exit ?_
                | refine Wp.seq ?_)
              refine ⟨(i + 1, stepS true b a, m, m + 1, td, m + 2), ⟨by simp only; omega, hI', hst, by simp only; omega, by simp only; omega, by simp only; omega, by simp only; omega, by simp only; omega, by simp only; omega, by simp only; omega⟩, by simp only; omega, ?_⟩
              refine StLe.of (tm_le ?_) (OLe.upd (OLe.upd (OLe.none _) (OSub.refl _)) (VSubs.refl _)) (by simp) (Nat.le_refl _) (by simp)
              simp only [AllSub, go_sem, reduceIte, Nat.reduceEqDiff, Nat.reduceAdd, Bool.false_eq_true, Bool.true_beq, Bool.false_beq, Bool.not_true, Bool.not_false, stepS]; and_intros <;> first | exact trivial | exact VSub.refl _ | exact VSub.any _ | (refine VSub.int ?_; omega)
            | false =>
              rw [hl] at hst hI'
              repeat (first
                | (refine Wp.seqItems (its := ?_) (t' := ?_) (h' := ?_) (log := ?_) ?_ ?_; rotate_left 4; (· simp only [go_sem, reduceIte, Nat.reduceEqDiff, Nat.reduceAdd, Bool.false_eq_true, Bool.true_beq, Bool.false_beq, Bool.not_true, Bool.not_false, and_self, true_and, and_true, if_true, if_false, true_or, or_true, Nat.zero_mul, Nat.one_mul, Nat.zero_le, Nat.reduceMul, Nat.reduceLeDiff, decide_true, decide_false, Int.toNat_natCast, List.length_append, List.filter_cons, List.filter_nil, ne_eq, not_true_eq_false, not_false_eq_true, d1, hok, atI_ok, accC, upd_upd, strs_snoc, ints_snoc, e1, r0, r0', v0, v0', dd0, d0', List.mem_cons, ne_f n1, ne_f n1.symm, ne_f n2, ne_f n2.symm, ne_f n3, ne_f n3.symm, ne_f (Nat.ne_of_gt m2), ne_f (Nat.ne_of_gt m3), ne_f (Nat.ne_of_lt m2), ne_f (Nat.ne_of_lt m3), eq_self]; exact rfl))
                | (refine Wp.items (its := ?_) (t' := ?_) (h' := ?_) (log := ?_) ?_ ?_; rotate_left 4; (· simp only [go_sem, reduceIte, Nat.reduceEqDiff, Nat.reduceAdd, Bool.false_eq_true, Bool.true_beq, Bool.false_beq, Bool.not_true, Bool.not_false, and_self, true_and, and_true, if_true, if_false, true_or, or_true, Nat.zero_mul, Nat.one_mul, Nat.zero_le, Nat.reduceMul, Nat.reduceLeDiff, decide_true, decide_false, Int.toNat_natCast, List.length_append, List.filter_cons, List.filter_nil, ne_eq, not_true_eq_false, not_false_eq_true, d1, hok, atI_ok, accC, upd_upd, strs_snoc, ints_snoc, e1, r0, r0', v0, v0', dd0, d0', List.mem_cons, ne_f n1, ne_f n1.symm, ne_f n2, ne_f n2.symm, ne_f n3, ne_f n3.symm, ne_f (Nat.ne_of_gt m2), ne_f (Nat.ne_of_gt m3), ne_f (Nat.ne_of_lt m2), ne_f (Nat.ne_of_lt m3), eq_self]; exact rfl))
                | (refine WpItems.nil ⟨?_, ?_⟩; (· first | trivial | simp [pairsQ, pairsOk, apart, ent0]))
                | (refine WpItems.pcall ?_ ?_ (hp) ?_; (· simp only [go_sem, reduceIte, Nat.reduceEqDiff, Nat.reduceAdd, Bool.false_eq_true, Bool.true_beq, Bool.false_beq, Bool.not_true, Bool.not_false]); (· simp only [go_sem, reduceIte, Nat.reduceEqDiff, Nat.reduceAdd, Bool.false_eq_true, Bool.true_beq, Bool.false_beq, Bool.not_true, Bool.not_false, List.map]; first | exact VSubs.refl _ | (repeat (first | exact VSubs.nil | refine VSubs.cons (by first | exact VSub.refl _ | assumption | exact VSub.cap | exact VSub.any _) ?_))); refine WpItems.eval (its := ?_) (t' := ?_) (h' := ?_) (log' := ?_) ?_ ?_; rotate_left 4; (· simp only [go_sem, reduceIte, Nat.reduceEqDiff, Nat.reduceAdd, Bool.false_eq_true, Bool.true_beq, Bool.false_beq, Bool.not_true, Bool.not_false, and_self, true_and, and_true, if_true, if_false, true_or, or_true, Nat.zero_mul, Nat.one_mul, Nat.zero_le, Nat.reduceMul, Nat.reduceLeDiff, decide_true, decide_false, Int.toNat_natCast, List.length_append, List.filter_cons, List.filter_nil, ne_eq, not_true_eq_false, not_false_eq_true, d1, hok, atI_ok, accC, upd_upd, strs_snoc, ints_snoc, e1, r0, r0', v0, v0', dd0, d0', List.mem_cons, ne_f n1, ne_f n1.symm, ne_f n2, ne_f n2.symm, ne_f n3, ne_f n3.symm, ne_f (Nat.ne_of_gt m2), ne_f (Nat.ne_of_gt m3), ne_f (Nat.ne_of_lt m2), ne_f (Nat.ne_of_lt m3), eq_self]; exact rfl))
                | (refine WpItems.pcall ?_ ?_ (hp2) ?_; (· simp only [go_sem, reduceIte, Nat.reduceEqDiff, Nat.reduceAdd, Bool.false_eq_true, Bool.true_beq, Bool.false_beq, Bool.not_true, Bool.not_false]); (· simp only [go_sem, reduceIte, Nat.reduceEqDiff, Nat.reduceAdd, Bool.false_eq_true, Bool.true_beq, Bool.false_beq, Bool.not_true, Bool.not_false, List.map]; first | exact VSubs.refl _ | (repeat (first | exact VSubs.nil | refine VSubs.cons (by first | exact VSub.refl _ | assumption | exact VSub.cap | exact VSub.any _) ?_))); refine WpItems.eval (its := ?_) (t' := ?_) (h' := ?_) (log' := ?_) ?_ ?_; rotate_left 4; (· simp only [go_sem, reduceIte, Nat.reduceEqDiff, Nat.reduceAdd, Bool.false_eq_true, Bool.true_beq, Bool.false_beq, Bool.not_true, Bool.not_false, and_self, true_and, and_true, if_true, if_false, true_or, or_true, Nat.zero_mul, Nat.one_mul, Nat.zero_le, Nat.reduceMul, Nat.reduceLeDiff, decide_true, decide_false, Int.toNat_natCast, List.length_append, List.filter_cons, List.filter_nil, ne_eq, not_true_eq_false, not_false_eq_true, d1, hok, atI_ok, accC, upd_upd, strs_snoc, ints_snoc, e1, r0, r0', v0, v0', dd0, d0', List.mem_cons, ne_f n1, ne_f n1.symm, ne_f n2, ne_f n2.symm, ne_f n3, ne_f n3.symm, ne_f (Nat.ne_of_gt m2), ne_f (Nat.ne_of_gt m3), ne_f (Nat.ne_of_lt m2), ne_f (Nat.ne_of_lt m3), eq_self]; exact rfl))
                | (refine WpItems.pcall ?_ ?_ (hk2) ?_; (· simp only [go_sem, reduceIte, Nat.reduceEqDiff, Nat.reduceAdd, Bool.false_eq_true, Bool.true_beq, Bool.false_beq, Bool.not_true, Bool.not_false]); (· simp only [go_sem, reduceIte, Nat.reduceEqDiff, Nat.reduceAdd, Bool.false_eq_true, Bool.true_beq, Bool.false_beq, Bool.not_true, Bool.not_false, List.map]; first | exact VSubs.refl _ | (repeat (first | exact VSubs.nil | refine VSubs.cons (by first | exact VSub.refl _ | assumption | exact VSub.cap | exact VSub.any _) ?_))); refine WpItems.eval (its := ?_) (t' := ?_) (h' := ?_) (log' := ?_) ?_ ?_; rotate_left 4; (· simp only [go_sem, reduceIte, Nat.reduceEqDiff, Nat.reduceAdd, Bool.false_eq_true, Bool.true_beq, Bool.false_beq, Bool.not_true, Bool.not_false, and_self, true_and, and_true, if_true, if_false, true_or, or_true, Nat.zero_mul, Nat.one_mul, Nat.zero_le, Nat.reduceMul, Nat.reduceLeDiff, decide_true, decide_false, Int.toNat_natCast, List.length_append, List.filter_cons, List.filter_nil, ne_eq, not_true_eq_false, not_false_eq_true, d1, hok, atI_ok, accC, upd_upd, strs_snoc, ints_snoc, e1, r0, r0', v0, v0', dd0, d0', List.mem_cons, ne_f n1, ne_f n1.symm, ne_f n2, ne_f n2.symm, ne_f n3, ne_f n3.symm, ne_f (Nat.ne_of_gt m2), ne_f (Nat.ne_of_gt m3), ne_f (Nat.ne_of_lt m2), ne_f (Nat.ne_of_lt m3), eq_self]; exact rfl))
                | (refine Wp.cond_true ?_ ?_; (· simp only [go_sem, reduceIte, Nat.reduceEqDiff, Nat.reduceAdd, Bool.false_eq_true, Bool.true_beq, Bool.false_beq, Bool.not_true, Bool.not_false, and_self, true_and, and_true, if_true, if_false, true_or, or_true, Nat.zero_mul, Nat.one_mul, Nat.zero_le, Nat.reduceMul, Nat.reduceLeDiff, decide_true, decide_false, Int.toNat_natCast, List.length_append, List.filter_cons, List.filter_nil, ne_eq, not_true_eq_false, not_false_eq_true, d1, hok, atI_ok, accC, upd_upd, strs_snoc, ints_snoc, e1, r0, r0', v0, v0', dd0, d0', List.mem_cons, ne_f n1, ne_f n1.symm, ne_f n2, ne_f n2.symm, ne_f n3, ne_f n3.symm, ne_f (Nat.ne_of_gt m2), ne_f (Nat.ne_of_gt m3), ne_f (Nat.ne_of_lt m2), ne_f (Nat.ne_of_lt m3), eq_self]))
                | (refine Wp.cond_false ?_ ?_; (· simp only [go_sem, reduceIte, Nat.reduceEqDiff, Nat.reduceAdd, Bool.false_eq_true, Bool.true_beq, Bool.false_beq, Bool.not_true, Bool.not_false, and_self, true_and, and_true, if_true, if_false, true_or, or_true, Nat.zero_mul, Nat.one_mul, Nat.zero_le, Nat.reduceMul, Nat.reduceLeDiff, decide_true, decide_false, Int.toNat_natCast, List.length_append, List.filter_cons, List.filter_nil, ne_eq, not_true_eq_false, not_false_eq_true, d1, hok, atI_ok, accC, upd_upd, strs_snoc, ints_snoc, e1, r0, r0', v0, v0', dd0, d0', List.mem_cons, ne_f n1, ne_f n1.symm, ne_f n2, ne_f n2.symm, ne_f n3, ne_f n3.symm, ne_f (Nat.ne_of_gt m2), ne_f (Nat.ne_of_gt m3), ne_f (Nat.ne_of_lt m2), ne_f (Nat.ne_of_lt m3), eq_self]))
                | refine Wp.skip ?_
                | refine Wp.block ?_
                | refine Wp.exit ?_
                | refine Wp.seq ?_)
              refine ⟨(i + 1, stepS false b a, m, tv, m + 1, m + 2), ⟨by simp only; omega, hI', hst, by simp only; omega, by simp only; omega, by simp only; omega, by simp only; omega, by simp only; omega, by simp only; omega, by simp only; omega⟩, by simp only; omega, ?_⟩
              refine StLe.of (tm_le ?_) (OLe.upd (OLe.upd (OLe.none _) (OSub.refl _)) (VSubs.refl _)) (by simp) (Nat.le_refl _) (by simp)
              simp only [AllSub, go_sem, reduceIte, Nat.reduceEqDiff, Nat.reduceAdd, Bool.false_eq_true, Bool.true_beq, Bool.false_beq, Bool.not_true, Bool.not_false, stepS]; and_intros <;> first | exact trivial | exact VSub.refl _ | exact VSub.any _ | (refine VSub.int ?_; omega)
          · have ha : a = accOf b := by
              rw [← hL]
              by_cases hlt : i < C
              · have hok : a.s.ok = false := by
                  cases h : a.s.ok
                  · rfl
                  · exact absurd ⟨hlt, h⟩ hc
                rw [show C - i = (C - (i + 1)) + 1 by omega, loopS, if_neg (by simp [hok])]
              · rw [show C - i = 0 by omega, loopS]
            subst ha
            by_cases hlt : i < C
            · have hok : (accOf b).s.ok = false := by
                cases h : (accOf b).s.ok
                · rfl
                · exact absurd ⟨hlt, h⟩ hc
              have d1 : decide ((i : Int) < (C : Int)) = true := decide_eq_true (by omega)
              repeat (first
                | (refine Wp.seqItems (its := ?_) (t' := ?_) (h' := ?_) (log := ?_) ?_ ?_; rotate_left 4; (· simp only [go_sem, reduceIte, Nat.reduceEqDiff, Nat.reduceAdd, Bool.false_eq_true, Bool.true_beq, Bool.false_beq, Bool.not_true, Bool.not_false, and_self, true_and, and_true, if_true, if_false, true_or, or_true, Nat.zero_mul, Nat.one_mul, Nat.zero_le, Nat.reduceMul, Nat.reduceLeDiff, decide_true, decide_false, Int.toNat_natCast, List.length_append, List.filter_cons, List.filter_nil, ne_eq, not_true_eq_false, not_false_eq_true, d1, hok, atI_ok]; exact rfl))
                | (refine Wp.items (its := ?_) (t' := ?_) (h' := ?_) (log := ?_) ?_ ?_; rotate_left 4; (· simp only [go_sem, reduceIte, Nat.reduceEqDiff, Nat.reduceAdd, Bool.false_eq_true, Bool.true_beq, Bool.false_beq, Bool.not_true, Bool.not_false, and_self, true_and, and_true, if_true, if_false, true_or, or_true, Nat.zero_mul, Nat.one_mul, Nat.zero_le, Nat.reduceMul, Nat.reduceLeDiff, decide_true, decide_false, Int.toNat_natCast, List.length_append, List.filter_cons, List.filter_nil, ne_eq, not_true_eq_false, not_false_eq_true, d1, hok, atI_ok]; exact rfl))
                | (refine WpItems.nil ⟨?_, ?_⟩; (· first | trivial | simp [pairsQ, pairsOk, apart, ent0]))
                | (refine Wp.cond_true ?_ ?_; (· simp only [go_sem, reduceIte, Nat.reduceEqDiff, Nat.reduceAdd, Bool.false_eq_true, Bool.true_beq, Bool.false_beq, Bool.not_true, Bool.not_false, and_self, true_and, and_true, if_true, if_false, true_or, or_true, Nat.zero_mul, Nat.one_mul, Nat.zero_le, Nat.reduceMul, Nat.reduceLeDiff, decide_true, decide_false, Int.toNat_natCast, List.length_append, List.filter_cons, List.filter_nil, ne_eq, not_true_eq_false, not_false_eq_true, d1, hok, atI_ok]))
                | (refine Wp.cond_false ?_ ?_; (· simp only [go_sem, reduceIte, Nat.reduceEqDiff, Nat.reduceAdd, Bool.false_eq_true, Bool.true_beq, Bool.false_beq, Bool.not_true, Bool.not_false, and_self, true_and, and_true, if_true, if_false, true_or, or_true, Nat.zero_mul, Nat.one_mul, Nat.zero_le, Nat.reduceMul, Nat.reduceLeDiff, decide_true, decide_false, Int.toNat_natCast, List.length_append, List.filter_cons, List.filter_nil, ne_eq, not_true_eq_false, not_false_eq_true, d1, hok, atI_ok]))
                | refine Wp.skip ?_
                | refine Wp.block ?_
                | refine Wp.exit ?_
                | refine Wp.seq ?_)
              refine StLe.of (tm_le ?_) (OLe.upd (OLe.upd (OLe.none _) (OSub.refl _)) (VSubs.cons (VSub.refl _) (VSubs.cons VSub.cap (VSubs.cons VSub.cap (VSubs.cons VSub.cap VSubs.nil))))) (by simp) (Nat.le_refl _) (by omega)
              simp only [AllSub, go_sem, reduceIte, Nat.reduceEqDiff, Nat.reduceAdd, Bool.false_eq_true, Bool.true_beq, Bool.false_beq, Bool.not_true, Bool.not_false]; and_intros <;> first | exact trivial | exact VSub.refl _ | exact VSub.any _ | (refine VSub.int ?_; omega)
            · have d1 : decide ((i : Int) < (C : Int)) = false := decide_eq_false (by omega)
              repeat (first
                | (refine Wp.seqItems (its := ?_) (t' := ?_) (h' := ?_) (log := ?_) ?_ ?_; rotate_left 4; (· simp only [go_sem, reduceIte, Nat.reduceEqDiff, Nat.reduceAdd, Bool.false_eq_true, Bool.true_beq, Bool.false_beq, Bool.not_true, Bool.not_false, and_self, true_and, and_true, if_true, if_false, true_or, or_true, Nat.zero_mul, Nat.one_mul, Nat.zero_le, Nat.reduceMul, Nat.reduceLeDiff, decide_true, decide_false, Int.toNat_natCast, List.length_append, List.filter_cons, List.filter_nil, ne_eq, not_true_eq_false, not_false_eq_true, d1, atI_ok]; exact rfl))
                | (refine Wp.items (its := ?_) (t' := ?_) (h' := ?_) (log := ?_) ?_ ?_; rotate_left 4; (· simp only [go_sem, reduceIte, Nat.reduceEqDiff, Nat.reduceAdd, Bool.false_eq_true, Bool.true_beq, Bool.false_beq, Bool.not_true, Bool.not_false, and_self, true_and, and_true, if_true, if_false, true_or, or_true, Nat.zero_mul, Nat.one_mul, Nat.zero_le, Nat.reduceMul, Nat.reduceLeDiff, decide_true, decide_false, Int.toNat_natCast, List.length_append, List.filter_cons, List.filter_nil, ne_eq, not_true_eq_false, not_false_eq_true, d1, atI_ok]; exact rfl))
                | (refine WpItems.nil ⟨?_, ?_⟩; (· first | trivial | simp [pairsQ, pairsOk, apart, ent0]))
                | (refine Wp.cond_true ?_ ?_; (· simp only [go_sem, reduceIte, Nat.reduceEqDiff, Nat.reduceAdd, Bool.false_eq_true, Bool.true_beq, Bool.false_beq, Bool.not_true, Bool.not_false, and_self, true_and, and_true, if_true, if_false, true_or, or_true, Nat.zero_mul, Nat.one_mul, Nat.zero_le, Nat.reduceMul, Nat.reduceLeDiff, decide_true, decide_false, Int.toNat_natCast, List.length_append, List.filter_cons, List.filter_nil, ne_eq, not_true_eq_false, not_false_eq_true, d1, atI_ok]))
                | (refine Wp.cond_false ?_ ?_; (· simp only [go_sem, reduceIte, Nat.reduceEqDiff, Nat.reduceAdd, Bool.false_eq_true, Bool.true_beq, Bool.false_beq, Bool.not_true, Bool.not_false, and_self, true_and, and_true, if_true, if_false, true_or, or_true, Nat.zero_mul, Nat.one_mul, Nat.zero_le, Nat.reduceMul, Nat.reduceLeDiff, decide_true, decide_false, Int.toNat_natCast, List.length_append, List.filter_cons, List.filter_nil, ne_eq, not_true_eq_false, not_false_eq_true, d1, atI_ok]))
                | refine Wp.skip ?_
                | refine Wp.block ?_
                | refine Wp.exit ?_
                | refine Wp.seq ?_)
              refine StLe.of (tm_le ?_) (OLe.upd (OLe.upd (OLe.none _) (OSub.refl _)) (VSubs.cons (VSub.refl _) (VSubs.cons VSub.cap (VSubs.cons VSub.cap (VSubs.cons VSub.cap VSubs.nil))))) (by simp) (Nat.le_refl _) (by omega)
              simp only [AllSub, go_sem, reduceIte, Nat.reduceEqDiff, Nat.reduceAdd, Bool.false_eq_true, Bool.true_beq, Bool.false_beq, Bool.not_true, Bool.not_false]; and_intros <;> first | exact trivial | exact VSub.refl _ | exact VSub.any _ | (refine VSub.int ?_; omega)
      · have hn := node_nb hb
        have hE : ∀ c1 c2 c3, VSub (.agg (accC (leafOf b) (accOf b) c1 c2 c3)) (encNode (nodeOf b)) := fun c1 c2 c3 => VSub.nodeC
        unfold accC at hE
        have hp : isPage b = ((accOf b).s.ok && decide (check (nodeOf b) = 0) && decide (bytesOf (nodeOf b) = b)) := by simp [isPage, hb]
        unfold readN readE
        rw [hp]
        clear hacc hI0 hp
        have fin : VSub (.tup [.agg zeroC, .int .i64 4]) (.tup [encNode zeroN, .int .i64 ((4 : Nat) : Int)]) := VSub.tup (VSubs.cons VSub.zeroN (VSubs.cons (VSub.refl _) VSubs.nil))
        refine Wp.seq ?_
        cases hok : (accOf b).s.ok with
        | false =>
          repeat (first
            | (refine Wp.seqItems (its := ?_) (t' := ?_) (h' := ?_) (log := ?_) ?_ ?_; rotate_left 4; (· simp only [go_sem, reduceIte, Nat.reduceEqDiff, Nat.reduceAdd, Bool.false_eq_true, Bool.true_beq, Bool.false_beq, Bool.not_true, Bool.not_false, and_self, true_and, and_true, if_true, if_false, true_or, or_true, Nat.zero_mul, Nat.one_mul, Nat.zero_le, Nat.reduceMul, Nat.reduceLeDiff, decide_true, decide_false, Int.toNat_natCast, List.length_append, List.filter_cons, List.filter_nil, ne_eq, not_true_eq_false, not_false_eq_true, hok, atI_neg, accC, zeroC, upd_upd]; exact rfl))
            | (refine Wp.items (its := ?_) (t' := ?_) (h' := ?_) (log := ?_) ?_ ?_; rotate_left 4; (· simp only [go_sem, reduceIte, Nat.reduceEqDiff, Nat.reduceAdd, Bool.false_eq_true, Bool.true_beq, Bool.false_beq, Bool.not_true, Bool.not_false, and_self, true_and, and_true, if_true, if_false, true_or, or_true, Nat.zero_mul, Nat.one_mul, Nat.zero_le, Nat.reduceMul, Nat.reduceLeDiff, decide_true, decide_false, Int.toNat_natCast, List.length_append, List.filter_cons, List.filter_nil, ne_eq, not_true_eq_false, not_false_eq_true, hok, atI_neg, accC, zeroC, upd_upd]; exact rfl))
            | (refine WpItems.nil ⟨?_, ?_⟩; (· first | trivial | simp [pairsQ, pairsOk, apart, ent0]))
            | (refine Wp.cond_true ?_ ?_; (· simp only [go_sem, reduceIte, Nat.reduceEqDiff, Nat.reduceAdd, Bool.false_eq_true, Bool.true_beq, Bool.false_beq, Bool.not_true, Bool.not_false, and_self, true_and, and_true, if_true, if_false, true_or, or_true, Nat.zero_mul, Nat.one_mul, Nat.zero_le, Nat.reduceMul, Nat.reduceLeDiff, decide_true, decide_false, Int.toNat_natCast, List.length_append, List.filter_cons, List.filter_nil, ne_eq, not_true_eq_false, not_false_eq_true, hok, atI_neg, accC, zeroC, upd_upd]))
            | (refine Wp.cond_false ?_ ?_; (· simp only [go_sem, reduceIte, Nat.reduceEqDiff, Nat.reduceAdd, Bool.false_eq_true, Bool.true_beq, Bool.false_beq, Bool.not_true, Bool.not_false, and_self, true_and, and_true, if_true, if_false, true_or, or_true, Nat.zero_mul, Nat.one_mul, Nat.zero_le, Nat.reduceMul, Nat.reduceLeDiff, decide_true, decide_false, Int.toNat_natCast, List.length_append, List.filter_cons, List.filter_nil, ne_eq, not_true_eq_false, not_false_eq_true, hok, atI_neg, accC, zeroC, upd_upd]))
            | refine Wp.skip ?_
            | refine Wp.block ?_
            | refine Wp.exit ?_
            | refine Wp.seq ?_)
          refine Wp.ret ⟨trivial, _, rfl, ?_⟩
          simp only [go_sem, reduceIte, Nat.reduceEqDiff, Nat.reduceAdd, Bool.false_eq_true, Bool.true_beq, Bool.false_beq, Bool.not_true, Bool.not_false]
          exact fin
        | true =>
          by_cases hc : check (nodeOf b) = 0
          · have d1 : decide ((check (nodeOf b) : Int) = 0) = true := by rw [hc]; rfl
            obtain ⟨r1, r2⟩ := check_zero hc
            have hput := putR_p _ hn (right_parts r1) r2
            by_cases hbb : bytesOf (nodeOf b) = b
            · have d2 : decide (bytesOf (nodeOf b) = b) = true := decide_eq_true hbb
              repeat (first
                | (refine Wp.seqItems (its := ?_) (t' := ?_) (h' := ?_) (log := ?_) ?_ ?_; rotate_left 4; (· simp only [go_sem, reduceIte, Nat.reduceEqDiff, Nat.reduceAdd, Bool.false_eq_true, Bool.true_beq, Bool.false_beq, Bool.not_true, Bool.not_false, and_self, true_and, and_true, if_true, if_false, true_or, or_true, Nat.zero_mul, Nat.one_mul, Nat.zero_le, Nat.reduceMul, Nat.reduceLeDiff, decide_true, decide_false, Int.toNat_natCast, List.length_append, List.filter_cons, List.filter_nil, ne_eq, not_true_eq_false, not_false_eq_true, hok, atI_neg, d1, d2, accC, zeroC, upd_upd]; exact rfl))
                | (refine Wp.items (its := ?_) (t' := ?_) (h' := ?_) (log := ?_) ?_ ?_; rotate_left 4; (· simp only [go_sem, reduceIte, Nat.reduceEqDiff, Nat.reduceAdd, Bool.false_eq_true, Bool.true_beq, Bool.false_beq, Bool.not_true, Bool.not_false, and_self, true_and, and_true, if_true, if_false, true_or, or_true, Nat.zero_mul, Nat.one_mul, Nat.zero_le, Nat.reduceMul, Nat.reduceLeDiff, decide_true, decide_false, Int.toNat_natCast, List.length_append, List.filter_cons, List.filter_nil, ne_eq, not_true_eq_false, not_false_eq_true, hok, atI_neg, d1, d2, accC, zeroC, upd_upd]; exact rfl))
                | (refine WpItems.nil ⟨?_, ?_⟩; (· first | trivial | simp [pairsQ, pairsOk, apart, ent0]))
                | (refine WpItems.pcall ?_ ?_ (checkR_p _ hn) ?_; (· simp only [go_sem, reduceIte, Nat.reduceEqDiff, Nat.reduceAdd, Bool.false_eq_true, Bool.true_beq, Bool.false_beq, Bool.not_true, Bool.not_false]); (· simp only [go_sem, reduceIte, Nat.reduceEqDiff, Nat.reduceAdd, Bool.false_eq_true, Bool.true_beq, Bool.false_beq, Bool.not_true, Bool.not_false, List.map]; exact VSubs.cons (hE _ _ _) VSubs.nil); refine WpItems.eval (its := ?_) (t' := ?_) (h' := ?_) (log' := ?_) ?_ ?_; rotate_left 4; (· simp only [go_sem, reduceIte, Nat.reduceEqDiff, Nat.reduceAdd, Bool.false_eq_true, Bool.true_beq, Bool.false_beq, Bool.not_true, Bool.not_false, and_self, true_and, and_true, if_true, if_false, true_or, or_true, Nat.zero_mul, Nat.one_mul, Nat.zero_le, Nat.reduceMul, Nat.reduceLeDiff, decide_true, decide_false, Int.toNat_natCast, List.length_append, List.filter_cons, List.filter_nil, ne_eq, not_true_eq_false, not_false_eq_true, hok, atI_neg, d1, d2, accC, zeroC, upd_upd]; exact rfl))
                | (refine WpItems.pcall ?_ ?_ (hput) ?_; (· simp only [go_sem, reduceIte, Nat.reduceEqDiff, Nat.reduceAdd, Bool.false_eq_true, Bool.true_beq, Bool.false_beq, Bool.not_true, Bool.not_false]); (· simp only [go_sem, reduceIte, Nat.reduceEqDiff, Nat.reduceAdd, Bool.false_eq_true, Bool.true_beq, Bool.false_beq, Bool.not_true, Bool.not_false, List.map]; exact VSubs.cons (hE _ _ _) VSubs.nil); refine WpItems.eval (its := ?_) (t' := ?_) (h' := ?_) (log' := ?_) ?_ ?_; rotate_left 4; (· simp only [go_sem, reduceIte, Nat.reduceEqDiff, Nat.reduceAdd, Bool.false_eq_true, Bool.true_beq, Bool.false_beq, Bool.not_true, Bool.not_false, and_self, true_and, and_true, if_true, if_false, true_or, or_true, Nat.zero_mul, Nat.one_mul, Nat.zero_le, Nat.reduceMul, Nat.reduceLeDiff, decide_true, decide_false, Int.toNat_natCast, List.length_append, List.filter_cons, List.filter_nil, ne_eq, not_true_eq_false, not_false_eq_true, hok, atI_neg, d1, d2, accC, zeroC, upd_upd]; exact rfl))
                | (refine Wp.cond_true ?_ ?_; (· simp only [go_sem, reduceIte, Nat.reduceEqDiff, Nat.reduceAdd, Bool.false_eq_true, Bool.true_beq, Bool.false_beq, Bool.not_true, Bool.not_false, and_self, true_and, and_true, if_true, if_false, true_or, or_true, Nat.zero_mul, Nat.one_mul, Nat.zero_le, Nat.reduceMul, Nat.reduceLeDiff, decide_true, decide_false, Int.toNat_natCast, List.length_append, List.filter_cons, List.filter_nil, ne_eq, not_true_eq_false, not_false_eq_true, hok, atI_neg, d1, d2, accC, zeroC, upd_upd]))
                | (refine Wp.cond_false ?_ ?_; (· simp only [go_sem, reduceIte, Nat.reduceEqDiff, Nat.reduceAdd, Bool.false_eq_true, Bool.true_beq, Bool.false_beq, Bool.not_true, Bool.not_false, and_self, true_and, and_true, if_true, if_false, true_or, or_true, Nat.zero_mul, Nat.one_mul, Nat.zero_le, Nat.reduceMul, Nat.reduceLeDiff, decide_true, decide_false, Int.toNat_natCast, List.length_append, List.filter_cons, List.filter_nil, ne_eq, not_true_eq_false, not_false_eq_true, hok, atI_neg, d1, d2, accC, zeroC, upd_upd]))
                | refine Wp.skip ?_
                | refine Wp.block ?_
                | refine Wp.exit ?_
                | refine Wp.seq ?_)
              refine Wp.ret ⟨trivial, _, rfl, ?_⟩
              simp only [go_sem, reduceIte, Nat.reduceEqDiff, Nat.reduceAdd, Bool.false_eq_true, Bool.true_beq, Bool.false_beq, Bool.not_true, Bool.not_false]
              simp only [hc, hbb, decide_true, Bool.and_self, if_true]
              exact VSub.tup (VSubs.cons (hE _ _ _) (VSubs.cons (VSub.refl _) VSubs.nil))
            · have d2 : decide (bytesOf (nodeOf b) = b) = false := decide_eq_false hbb
              repeat (first
                | (refine Wp.seqItems (its := ?_) (t' := ?_) (h' := ?_) (log := ?_) ?_ ?_; rotate_left 4; (· simp only [go_sem, reduceIte, Nat.reduceEqDiff, Nat.reduceAdd, Bool.false_eq_true, Bool.true_beq, Bool.false_beq, Bool.not_true, Bool.not_false, and_self, true_and, and_true, if_true, if_false, true_or, or_true, Nat.zero_mul, Nat.one_mul, Nat.zero_le, Nat.reduceMul, Nat.reduceLeDiff, decide_true, decide_false, Int.toNat_natCast, List.length_append, List.filter_cons, List.filter_nil, ne_eq, not_true_eq_false, not_false_eq_true, hok, atI_neg, d1, d2, accC, zeroC, upd_upd]; exact rfl))
                | (refine Wp.items (its := ?_) (t' := ?_) (h' := ?_) (log := ?_) ?_ ?_; rotate_left 4; (· simp only [go_sem, reduceIte, Nat.reduceEqDiff, Nat.reduceAdd, Bool.false_eq_true, Bool.true_beq, Bool.false_beq, Bool.not_true, Bool.not_false, and_self, true_and, and_true, if_true, if_false, true_or, or_true, Nat.zero_mul, Nat.one_mul, Nat.zero_le, Nat.reduceMul, Nat.reduceLeDiff, decide_true, decide_false, Int.toNat_natCast, List.length_append, List.filter_cons, List.filter_nil, ne_eq, not_true_eq_false, not_false_eq_true, hok, atI_neg, d1, d2, accC, zeroC, upd_upd]; exact rfl))
                | (refine WpItems.nil ⟨?_, ?_⟩; (· first | trivial | simp [pairsQ, pairsOk, apart, ent0]))
                | (refine WpItems.pcall ?_ ?_ (checkR_p _ hn) ?_; (· simp only [go_sem, reduceIte, Nat.reduceEqDiff, Nat.reduceAdd, Bool.false_eq_true, Bool.true_beq, Bool.false_beq, Bool.not_true, Bool.not_false]); (· simp only [go_sem, reduceIte, Nat.reduceEqDiff, Nat.reduceAdd, Bool.false_eq_true, Bool.true_beq, Bool.false_beq, Bool.not_true, Bool.not_false, List.map]; exact VSubs.cons (hE _ _ _) VSubs.nil); refine WpItems.eval (its := ?_) (t' := ?_) (h' := ?_) (log' := ?_) ?_ ?_; rotate_left 4; (· simp only [go_sem, reduceIte, Nat.reduceEqDiff, Nat.reduceAdd, Bool.false_eq_true, Bool.true_beq, Bool.false_beq, Bool.not_true, Bool.not_false, and_self, true_and, and_true, if_true, if_false, true_or, or_true, Nat.zero_mul, Nat.one_mul, Nat.zero_le, Nat.reduceMul, Nat.reduceLeDiff, decide_true, decide_false, Int.toNat_natCast, List.length_append, List.filter_cons, List.filter_nil, ne_eq, not_true_eq_false, not_false_eq_true, hok, atI_neg, d1, d2, accC, zeroC, upd_upd]; exact rfl))
                | (refine WpItems.pcall ?_ ?_ (hput) ?_; (· simp only [go_sem, reduceIte, Nat.reduceEqDiff, Nat.reduceAdd, Bool.false_eq_true, Bool.true_beq, Bool.false_beq, Bool.not_true, Bool.not_false]); (· simp only [go_sem, reduceIte, Nat.reduceEqDiff, Nat.reduceAdd, Bool.false_eq_true, Bool.true_beq, Bool.false_beq, Bool.not_true, Bool.not_false, List.map]; exact VSubs.cons (hE _ _ _) VSubs.nil); refine WpItems.eval (its := ?_) (t' := ?_) (h' := ?_) (log' := ?_) ?_ ?_; rotate_left 4; (· simp only [go_sem, reduceIte, Nat.reduceEqDiff, Nat.reduceAdd, Bool.false_eq_true, Bool.true_beq, Bool.false_beq, Bool.not_true, Bool.not_false, and_self, true_and, and_true, if_true, if_false, true_or, or_true, Nat.zero_mul, Nat.one_mul, Nat.zero_le, Nat.reduceMul, Nat.reduceLeDiff, decide_true, decide_false, Int.toNat_natCast, List.length_append, List.filter_cons, List.filter_nil, ne_eq, not_true_eq_false, not_false_eq_true, hok, atI_neg, d1, d2, accC, zeroC, upd_upd]; exact rfl))
                | (refine Wp.cond_true ?_ ?_; (· simp only [go_sem, reduceIte, Nat.reduceEqDiff, Nat.reduceAdd, Bool.false_eq_true, Bool.true_beq, Bool.false_beq, Bool.not_true, Bool.not_false, and_self, true_and, and_true, if_true, if_false, true_or, or_true, Nat.zero_mul, Nat.one_mul, Nat.zero_le, Nat.reduceMul, Nat.reduceLeDiff, decide_true, decide_false, Int.toNat_natCast, List.length_append, List.filter_cons, List.filter_nil, ne_eq, not_true_eq_false, not_false_eq_true, hok, atI_neg, d1, d2, accC, zeroC, upd_upd]))
                | (refine Wp.cond_false ?_ ?_; (· simp only [go_sem, reduceIte, Nat.reduceEqDiff, Nat.reduceAdd, Bool.false_eq_true, Bool.true_beq, Bool.false_beq, Bool.not_true, Bool.not_false, and_self, true_and, and_true, if_true, if_false, true_or, or_true, Nat.zero_mul, Nat.one_mul, Nat.zero_le, Nat.reduceMul, Nat.reduceLeDiff, decide_true, decide_false, Int.toNat_natCast, List.length_append, List.filter_cons, List.filter_nil, ne_eq, not_true_eq_false, not_false_eq_true, hok, atI_neg, d1, d2, accC, zeroC, upd_upd]))
                | refine Wp.skip ?_
                | refine Wp.block ?_
                | refine Wp.exit ?_
                | refine Wp.seq ?_)
              refine Wp.ret ⟨trivial, _, rfl, ?_⟩
              simp only [go_sem, reduceIte, Nat.reduceEqDiff, Nat.reduceAdd, Bool.false_eq_true, Bool.true_beq, Bool.false_beq, Bool.not_true, Bool.not_false]
              simp only [hc, hbb, decide_true, decide_false, Bool.and_false, Bool.false_eq_true, if_false]
              exact fin
          · have d1 : decide ((check (nodeOf b) : Int) = 0) = false := decide_eq_false (by omega)
            repeat (first
              | (refine Wp.seqItems (its := ?_) (t' := ?_) (h' := ?_) (log := ?_) ?_ ?_; rotate_left 4; (· simp only [go_sem, reduceIte, Nat.reduceEqDiff, Nat.reduceAdd, Bool.false_eq_true, Bool.true_beq, Bool.false_beq, Bool.not_true, Bool.not_false, and_self, true_and, and_true, if_true, if_false, true_or, or_true, Nat.zero_mul, Nat.one_mul, Nat.zero_le, Nat.reduceMul, Nat.reduceLeDiff, decide_true, decide_false, Int.toNat_natCast, List.length_append, List.filter_cons, List.filter_nil, ne_eq, not_true_eq_false, not_false_eq_true, hok, atI_neg, d1, accC, zeroC, upd_upd]; exact rfl))
              | (refine Wp.items (its := ?_) (t' := ?_) (h' := ?_) (log := ?_) ?_ ?_; rotate_left 4; (· simp only [go_sem, reduceIte, Nat.reduceEqDiff, Nat.reduceAdd, Bool.false_eq_true, Bool.true_beq, Bool.false_beq, Bool.not_true, Bool.not_false, and_self, true_and, and_true, if_true, if_false, true_or, or_true, Nat.zero_mul, Nat.one_mul, Nat.zero_le, Nat.reduceMul, Nat.reduceLeDiff, decide_true, decide_false, Int.toNat_natCast, List.length_append, List.filter_cons, List.filter_nil, ne_eq, not_true_eq_false, not_false_eq_true, hok, atI_neg, d1, accC, zeroC, upd_upd]; exact rfl))
              | (refine WpItems.nil ⟨?_, ?_⟩; (· first | trivial | simp [pairsQ, pairsOk, apart, ent0]))
              | (refine WpItems.pcall ?_ ?_ (checkR_p _ hn) ?_; (· simp only [go_sem, reduceIte, Nat.reduceEqDiff, Nat.reduceAdd, Bool.false_eq_true, Bool.true_beq, Bool.false_beq, Bool.not_true, Bool.not_false]); (· simp only [go_sem, reduceIte, Nat.reduceEqDiff, Nat.reduceAdd, Bool.false_eq_true, Bool.true_beq, Bool.false_beq, Bool.not_true, Bool.not_false, List.map]; exact VSubs.cons (hE _ _ _) VSubs.nil); refine WpItems.eval (its := ?_) (t' := ?_) (h' := ?_) (log' := ?_) ?_ ?_; rotate_left 4; (· simp only [go_sem, reduceIte, Nat.reduceEqDiff, Nat.reduceAdd, Bool.false_eq_true, Bool.true_beq, Bool.false_beq, Bool.not_true, Bool.not_false, and_self, true_and, and_true, if_true, if_false, true_or, or_true, Nat.zero_mul, Nat.one_mul, Nat.zero_le, Nat.reduceMul, Nat.reduceLeDiff, decide_true, decide_false, Int.toNat_natCast, List.length_append, List.filter_cons, List.filter_nil, ne_eq, not_true_eq_false, not_false_eq_true, hok, atI_neg, d1, accC, zeroC, upd_upd]; exact rfl))
              | (refine Wp.cond_true ?_ ?_; (· simp only [go_sem, reduceIte, Nat.reduceEqDiff, Nat.reduceAdd, Bool.false_eq_true, Bool.true_beq, Bool.false_beq, Bool.not_true, Bool.not_false, and_self, true_and, and_true, if_true, if_false, true_or, or_true, Nat.zero_mul, Nat.one_mul, Nat.zero_le, Nat.reduceMul, Nat.reduceLeDiff, decide_true, decide_false, Int.toNat_natCast, List.length_append, List.filter_cons, List.filter_nil, ne_eq, not_true_eq_false, not_false_eq_true, hok, atI_neg, d1, accC, zeroC, upd_upd]))
              | (refine Wp.cond_false ?_ ?_; (· simp only [go_sem, reduceIte, Nat.reduceEqDiff, Nat.reduceAdd, Bool.false_eq_true, Bool.true_beq, Bool.false_beq, Bool.not_true, Bool.not_false, and_self, true_and, and_true, if_true, if_false, true_or, or_true, Nat.zero_mul, Nat.one_mul, Nat.zero_le, Nat.reduceMul, Nat.reduceLeDiff, decide_true, decide_false, Int.toNat_natCast, List.length_append, List.filter_cons, List.filter_nil, ne_eq, not_true_eq_false, not_false_eq_true, hok, atI_neg, d1, accC, zeroC, upd_upd]))
              | refine Wp.skip ?_
              | refine Wp.block ?_
              | refine Wp.exit ?_
              | refine Wp.seq ?_)
            refine Wp.ret ⟨trivial, _, rfl, ?_⟩
            simp only [go_sem, reduceIte, Nat.reduceEqDiff, Nat.reduceAdd, Bool.false_eq_true, Bool.true_beq, Bool.false_beq, Bool.not_true, Bool.not_false]
            simp only [hc, decide_false, Bool.and_false, Bool.false_and, Bool.false_eq_true, if_false]
            exact fin
  · have d0 : decide ((b.length : Int) = 1024) = false := decide_eq_false (by omega)
    have hp : isPage b = false := by simp [isPage, hb]
    repeat (first
      | (refine Wp.seqItems (its := ?_) (t' := ?_) (h' := ?_) (log := ?_) ?_ ?_; rotate_left 4; (· simp only [go_sem, reduceIte, Nat.reduceEqDiff, Nat.reduceAdd, Bool.false_eq_true, Bool.true_beq, Bool.false_beq, Bool.not_true, Bool.not_false, and_self, true_and, and_true, if_true, if_false, true_or, or_true, Nat.zero_mul, Nat.one_mul, Nat.zero_le, Nat.reduceMul, Nat.reduceLeDiff, decide_true, decide_false, Int.toNat_natCast, List.length_append, List.filter_cons, List.filter_nil, ne_eq, not_true_eq_false, not_false_eq_true, d0, upd_upd]; exact rfl))
      | (refine Wp.items (its := ?_) (t' := ?_) (h' := ?_) (log := ?_) ?_ ?_; rotate_left 4; (· simp only [go_sem, reduceIte, Nat.reduceEqDiff, Nat.reduceAdd, Bool.false_eq_true, Bool.true_beq, Bool.false_beq, Bool.not_true, Bool.not_false, and_self, true_and, and_true, if_true, if_false, true_or, or_true, Nat.zero_mul, Nat.one_mul, Nat.zero_le, Nat.reduceMul, Nat.reduceLeDiff, decide_true, decide_false, Int.toNat_natCast, List.length_append, List.filter_cons, List.filter_nil, ne_eq, not_true_eq_false, not_false_eq_true, d0, upd_upd]; exact rfl))
      | (refine WpItems.nil ⟨?_, ?_⟩; (· first | trivial | simp [pairsQ, pairsOk, apart, ent0]))
      | (refine Wp.cond_true ?_ ?_; (· simp only [go_sem, reduceIte, Nat.reduceEqDiff, Nat.reduceAdd, Bool.false_eq_true, Bool.true_beq, Bool.false_beq, Bool.not_true, Bool.not_false, and_self, true_and, and_true, if_true, if_false, true_or, or_true, Nat.zero_mul, Nat.one_mul, Nat.zero_le, Nat.reduceMul, Nat.reduceLeDiff, decide_true, decide_false, Int.toNat_natCast, List.length_append, List.filter_cons, List.filter_nil, ne_eq, not_true_eq_false, not_false_eq_true, d0, upd_upd]))
      | (refine Wp.cond_false ?_ ?_; (· simp only [go_sem, reduceIte, Nat.reduceEqDiff, Nat.reduceAdd, Bool.false_eq_true, Bool.true_beq, Bool.false_beq, Bool.not_true, Bool.not_false, and_self, true_and, and_true, if_true, if_false, true_or, or_true, Nat.zero_mul, Nat.one_mul, Nat.zero_le, Nat.reduceMul, Nat.reduceLeDiff, decide_true, decide_false, Int.toNat_natCast, List.length_append, List.filter_cons, List.filter_nil, ne_eq, not_true_eq_false, not_false_eq_true, d0, upd_upd]))
      | refine Wp.skip ?_
      | refine Wp.block ?_
      | refine Wp.exit ?_
      | refine Wp.seq ?_)
    refine Wp.ret ⟨trivial, _, rfl, ?_⟩
    simp only [go_sem, reduceIte, Nat.reduceEqDiff, Nat.reduceAdd, Bool.false_eq_true, Bool.true_beq, Bool.false_beq, Bool.not_true, Bool.not_false]
    simp only [readN, readE, hp, Bool.false_eq_true, if_false]
    exact VSub.tup (VSubs.cons VSub.zeroN (VSubs.cons (VSub.refl _) VSubs.nil))
end Go.Proofs.Ytgainpikomhepaa.Page
