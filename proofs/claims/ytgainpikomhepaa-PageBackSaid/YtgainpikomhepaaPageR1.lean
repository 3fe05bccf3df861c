/- Chapter 08: the scanner of a page's bytes. -/
import Derived.Test.YtgainpikomhepaaPageY
set_option linter.unusedSimpArgs false
set_option linter.unusedVariables false
set_option maxRecDepth 10000
namespace Go.Proofs.Ytgainpikomhepaa.Page
open Go Go.Av Go.Proofs Go.Proofs.Ytgainpikomhepaa.C

/-- a number of bytes, the highest ahead -/
def val (l : List UInt8) : Nat := l.foldl (fun n c => n * 256 + c.toNat) 0
theorem val_snoc (l : List UInt8) (c : UInt8) : val (l ++ [c]) = val l * 256 + c.toNat := by simp [val]
theorem val_lt (l : List UInt8) : val l < 256 ^ l.length := by
  have key : ∀ (l : List UInt8) (a : Nat), l.foldl (fun n c => n * 256 + c.toNat) a < (a + 1) * 256 ^ l.length := by
    intro l
    induction l with
    | nil => intro a; simp
    | cons c l ih =>
      intro a
      rw [List.foldl_cons, List.length_cons, Nat.pow_succ, Nat.mul_comm (256 ^ l.length) 256, ← Nat.mul_assoc]
      refine Nat.lt_of_lt_of_le (ih _) (Nat.mul_le_mul_right _ ?_)
      have := c.toNat_lt
      omega
  simpa [val] using key l 0

theorem or_byte (v c : Nat) (hv : v < 1099511627776) (hc : c < 256) : ((BitVec.ofInt 64 ((v * 256 : Nat) : Int)) ||| (BitVec.ofInt 64 (c : Int))).toNat = v * 256 + c := by
  rw [BitVec.toNat_or, BitVec.ofInt_natCast, BitVec.ofInt_natCast, BitVec.toNat_ofNat, BitVec.toNat_ofNat, Nat.mod_eq_of_lt (by omega), Nat.mod_eq_of_lt (by omega)]
  have := Nat.two_pow_add_eq_or_of_lt (i := 8) (b := c) hc v
  rw [Nat.mul_comm v 256]
  exact this.symm

structure Scan where
  pos : Nat
  ok : Bool
def numS (b : List UInt8) (s : Scan) (w : Nat) : Nat × Scan := if s.ok && decide (s.pos + w ≤ b.length) then (val ((b.drop s.pos).take w), ⟨s.pos + w, true⟩) else (0, ⟨s.pos, false⟩)
def pieceS (b : List UInt8) (s : Scan) (w : Nat) : List UInt8 × Scan :=
  if (numS b s w).2.ok && decide ((numS b s w).2.pos + (numS b s w).1 ≤ b.length) then ((b.drop (numS b s w).2.pos).take (numS b s w).1, ⟨(numS b s w).2.pos + (numS b s w).1, true⟩) else ([], ⟨(numS b s w).2.pos, false⟩)
def scanO (b : List UInt8) (s : Scan) : Av.Obj := .cells [.sl 1 (bytesAV b) .any, .int .i64 s.pos, .bool s.ok]

theorem numS_le {b : List UInt8} {s : Scan} {w : Nat} (h : s.pos ≤ b.length) : (numS b s w).2.pos ≤ b.length := by
  unfold numS; split
  · rename_i hc; simp only [Bool.and_eq_true, decide_eq_true_eq] at hc; exact hc.2
  · exact h
theorem numS_val {b : List UInt8} {s : Scan} {w : Nat} : (numS b s w).1 < 256 ^ w := by
  unfold numS; split
  · refine Nat.lt_of_lt_of_le (val_lt _) (Nat.pow_le_pow_right (by omega) ?_)
    simp; omega
  · exact Nat.pow_pos (by omega)
theorem pieceS_le {b : List UInt8} {s : Scan} {w : Nat} (h : s.pos ≤ b.length) : (pieceS b s w).2.pos ≤ b.length := by
  unfold pieceS; split
  · rename_i hc; simp only [Bool.and_eq_true, decide_eq_true_eq] at hc; exact hc.2
  · exact numS_le h

theorem take_val (l : List UInt8) (k : Nat) (h : k < l.length) : val (l.take (k + 1)) = val (l.take k) * 256 + (l.getD k 0).toNat := by
  rw [List.take_succ_eq_append_getElem h, val_snoc, getD_at h]

theorem number_p (b : List UInt8) (s : Scan) (w : Nat) (hb : b.length ≤ 1099511627776) (hs : s.pos ≤ b.length) (hw : w ≤ 4) (id n m : Nat) :
    ACalls Try.prog 42 [.ptr id 0, .int .i64 w] (.only (upd none' id (some (scanO b s))) [] n m) (.int .i64 (numS b s w).1) (.only (upd none' id (some (scanO b (numS b s w).2))) [] n m) := by
  suffices h : ∃ r h', ACalls Try.prog 42 [.ptr id 0, .int .i64 w] (.only (upd none' id (some (scanO b s))) [] n m) r h' ∧ r = (.int .i64 (numS b s w).1) ∧ h' = (.only (upd none' id (some (scanO b (numS b s w).2))) [] n m) by
    obtain ⟨r, h', ha, rfl, rfl⟩ := h; exact ha
  refine f42.acalls (by simp) ?_
  unfold c42
  obtain ⟨at0, ok⟩ := s
  simp only at hs
  have eu : ∀ (x y : Av.Obj), upd (upd none' id (some x)) id (some y) = upd none' id (some y) := by intro x y; funext j; simp only [upd]; split <;> rfl
  have g1 : IntKind.i64.wrap ((b.length : Int) - (at0 : Int)) = (b.length : Int) - (at0 : Int) := IntWalk.i64_in _ (by omega)
  simp only [scanO]
  refine Wp.seqReg (by simp only [go_sem, reduceIte, Nat.reduceEqDiff, Nat.reduceAdd, Bool.false_eq_true, Bool.true_beq, Bool.false_beq, Bool.not_true, Bool.not_false]; exact rfl) (by trivial) ?_
  refine Wp.seq ?_
  by_cases hc : (ok && decide (at0 + w ≤ b.length)) = true
  · have hc' := hc
    simp only [Bool.and_eq_true, decide_eq_true_eq] at hc'
    obtain ⟨rfl, hc2⟩ := hc'
    have g2 : decide ((w : Int) ≤ (b.length : Int) - (at0 : Int)) = true := decide_eq_true (by omega)
    have g3 : IntKind.i64.wrap ((at0 : Int) + (w : Int)) = ((at0 + w : Nat) : Int) := by rw [IntWalk.i64_in _ (by omega)]; omega
    have x1 : (0 : Int) ≤ (at0 : Int) := by omega
    have x2 : (at0 : Int) ≤ ((at0 + w : Nat) : Int) := by omega
    have x3 : (0 : Int) ≤ ((at0 + w : Nat) : Int) := by omega
    have x4 : ((at0 + w : Nat) : Int) ≤ (b.length : Int) := by omega
    have lp : (((bytesAV b).take (at0 + w)).drop at0) = bytesAV ((b.drop at0).take w) := by
      simp only [bytesAV, ← List.map_take, ← List.map_drop]
      rw [List.drop_take]; congr 2; congr 1; omega
    have lw : ((b.drop at0).take w).length = w := by simp; omega
    have hv : ∀ j, j ≤ w → val (((b.drop at0).take w).take j) < 256 ^ j := fun j hj => by
      have := val_lt (((b.drop at0).take w).take j)
      rwa [List.length_take, lw, Nat.min_eq_left hj] at this
    rw [numS, if_pos (by simpa using hc2)]
    generalize hP : (b.drop at0).take w = P at *
    repeat (first
      | (refine Wp.seqItems (its := ?_) (t' := ?_) (h' := ?_) (log := ?_) ?_ ?_; rotate_left 4; (· simp only [go_sem, reduceIte, Nat.reduceEqDiff, Nat.reduceAdd, Bool.false_eq_true, Bool.true_beq, Bool.false_beq, Bool.not_true, Bool.not_false, and_self, true_and, and_true, if_true, if_false, true_or, or_true, Nat.zero_mul, Nat.one_mul, Nat.zero_le, Nat.reduceMul, Nat.reduceLeDiff, decide_true, decide_false, Int.toNat_natCast, List.length_append, List.filter_cons, List.filter_nil, ne_eq, not_true_eq_false, not_false_eq_true, g1, g2, g3, x1, x2, x3, x4, lp, lw, eu]; exact rfl))
      | (refine Wp.items (its := ?_) (t' := ?_) (h' := ?_) (log := ?_) ?_ ?_; rotate_left 4; (· simp only [go_sem, reduceIte, Nat.reduceEqDiff, Nat.reduceAdd, Bool.false_eq_true, Bool.true_beq, Bool.false_beq, Bool.not_true, Bool.not_false, and_self, true_and, and_true, if_true, if_false, true_or, or_true, Nat.zero_mul, Nat.one_mul, Nat.zero_le, Nat.reduceMul, Nat.reduceLeDiff, decide_true, decide_false, Int.toNat_natCast, List.length_append, List.filter_cons, List.filter_nil, ne_eq, not_true_eq_false, not_false_eq_true, g1, g2, g3, x1, x2, x3, x4, lp, lw, eu]; exact rfl))
      | (refine WpItems.nil ⟨?_, ?_⟩; (· first | trivial | simp [pairsQ, pairsOk, apart, ent0]))
      | (refine Wp.cond_true ?_ ?_; (· simp only [go_sem, reduceIte, Nat.reduceEqDiff, Nat.reduceAdd, Bool.false_eq_true, Bool.true_beq, Bool.false_beq, Bool.not_true, Bool.not_false, and_self, true_and, and_true, if_true, if_false, true_or, or_true, Nat.zero_mul, Nat.one_mul, Nat.zero_le, Nat.reduceMul, Nat.reduceLeDiff, decide_true, decide_false, Int.toNat_natCast, List.length_append, List.filter_cons, List.filter_nil, ne_eq, not_true_eq_false, not_false_eq_true, g1, g2, g3, x1, x2, x3, x4, lp, lw, eu]))
      | (refine Wp.cond_false ?_ ?_; (· simp only [go_sem, reduceIte, Nat.reduceEqDiff, Nat.reduceAdd, Bool.false_eq_true, Bool.true_beq, Bool.false_beq, Bool.not_true, Bool.not_false, and_self, true_and, and_true, if_true, if_false, true_or, or_true, Nat.zero_mul, Nat.one_mul, Nat.zero_le, Nat.reduceMul, Nat.reduceLeDiff, decide_true, decide_false, Int.toNat_natCast, List.length_append, List.filter_cons, List.filter_nil, ne_eq, not_true_eq_false, not_false_eq_true, g1, g2, g3, x1, x2, x3, x4, lp, lw, eu]))
      | refine Wp.skip ?_
      | refine Wp.block ?_
      | refine Wp.exit ?_
      | refine Wp.seq ?_)
    refine Wp.loopK [0, 1, 48, 49] (by simp only [go_sem, reduceIte, Nat.reduceEqDiff, Nat.reduceAdd, Bool.false_eq_true, Bool.true_beq, Bool.false_beq, Bool.not_true, Bool.not_false, List.map]; exact rfl) (fun j : Nat => [(5, .int .i64 (val (P.take j))), (50, .int .i64 j)]) (fun j => j ≤ w) (fun j => w - j) 0 (Nat.zero_le _) ?_ ?_
    · simp only [AllSub, go_sem, reduceIte, Nat.reduceEqDiff, Nat.reduceAdd, Bool.false_eq_true, Bool.true_beq, Bool.false_beq, Bool.not_true, Bool.not_false]; and_intros <;> first | exact trivial | exact VSub.refl _ | exact VSub.any _ | (refine VSub.int ?_; omega)
    · intro j hj
      by_cases hlt : j < w
      · have d1 : decide ((j : Int) < (w : Int)) = true := decide_eq_true (by omega)
        have h1 : (0 : Int) ≤ (j : Int) := by omega
        have h2 : (j : Int) < (w : Int) := by omega
        have h3 : j < P.length := by omega
        have hvj := hv j hj
        have hpw : (256 : Nat) ^ j ≤ 256 ^ 3 := Nat.pow_le_pow_right (by omega) (by omega)
        have hc := (P.getD j 0).toNat_lt
        have e1 : IntKind.i64.wrap (((val (P.take j) : Nat) : Int) * 2 ^ (min (Int.toNat 8) 64)) = ((val (P.take j) * 256 : Nat) : Int) := by
          rw [show min (Int.toNat 8) 64 = 8 from rfl, IntWalk.i64_in _ (by omega)]; omega
        have e2 : ¬ (8 : Int) < 0 := by omega
        have e3 : IntKind.i64.wrap (((P.getD j 0).toNat : Nat) : Int) = (((P.getD j 0).toNat : Nat) : Int) := IntWalk.i64_in _ (by omega)
        have e4 : IntKind.i64.wrap (((((BitVec.ofInt (IntKind.bits .i64) ((val (P.take j) * 256 : Nat) : Int)) ||| (BitVec.ofInt (IntKind.bits .i64) (((P.getD j 0).toNat : Nat) : Int))).toNat : Nat)) : Int) = ((val (P.take (j + 1)) : Nat) : Int) := by
          rw [show ((BitVec.ofInt (IntKind.bits .i64) ((val (P.take j) * 256 : Nat) : Int)) ||| (BitVec.ofInt (IntKind.bits .i64) (((P.getD j 0).toNat : Nat) : Int))).toNat = _ from or_byte _ _ (by omega) hc, take_val P j h3, IntWalk.i64_in _ (by omega)]
        have e5 : IntKind.i64.wrap ((j : Int) + 1) = ((j + 1 : Nat) : Int) := by rw [IntWalk.i64_in _ (by omega)]; omega
        repeat (first
          | (refine Wp.seqItems (its := ?_) (t' := ?_) (h' := ?_) (log := ?_) ?_ ?_; rotate_left 4; (· simp only [go_sem, reduceIte, Nat.reduceEqDiff, Nat.reduceAdd, Bool.false_eq_true, Bool.true_beq, Bool.false_beq, Bool.not_true, Bool.not_false, and_self, true_and, and_true, if_true, if_false, true_or, or_true, Nat.zero_mul, Nat.one_mul, Nat.zero_le, Nat.reduceMul, Nat.reduceLeDiff, decide_true, decide_false, Int.toNat_natCast, List.length_append, List.filter_cons, List.filter_nil, ne_eq, not_true_eq_false, not_false_eq_true, d1, h1, h2, lw, bytes_getD P j _ h3, byte, IntKind.bits, e1, e2, e3, e5]; exact rfl))
          | (refine Wp.items (its := ?_) (t' := ?_) (h' := ?_) (log := ?_) ?_ ?_; rotate_left 4; (· simp only [go_sem, reduceIte, Nat.reduceEqDiff, Nat.reduceAdd, Bool.false_eq_true, Bool.true_beq, Bool.false_beq, Bool.not_true, Bool.not_false, and_self, true_and, and_true, if_true, if_false, true_or, or_true, Nat.zero_mul, Nat.one_mul, Nat.zero_le, Nat.reduceMul, Nat.reduceLeDiff, decide_true, decide_false, Int.toNat_natCast, List.length_append, List.filter_cons, List.filter_nil, ne_eq, not_true_eq_false, not_false_eq_true, d1, h1, h2, lw, bytes_getD P j _ h3, byte, IntKind.bits, e1, e2, e3, e5]; exact rfl))
          | (refine WpItems.nil ⟨?_, ?_⟩; (· first | trivial | simp [pairsQ, pairsOk, apart, ent0]))
          | (refine Wp.cond_true ?_ ?_; (· simp only [go_sem, reduceIte, Nat.reduceEqDiff, Nat.reduceAdd, Bool.false_eq_true, Bool.true_beq, Bool.false_beq, Bool.not_true, Bool.not_false, and_self, true_and, and_true, if_true, if_false, true_or, or_true, Nat.zero_mul, Nat.one_mul, Nat.zero_le, Nat.reduceMul, Nat.reduceLeDiff, decide_true, decide_false, Int.toNat_natCast, List.length_append, List.filter_cons, List.filter_nil, ne_eq, not_true_eq_false, not_false_eq_true, d1, h1, h2, lw, bytes_getD P j _ h3, byte, IntKind.bits, e1, e2, e3, e5]))
          | (refine Wp.cond_false ?_ ?_; (· simp only [go_sem, reduceIte, Nat.reduceEqDiff, Nat.reduceAdd, Bool.false_eq_true, Bool.true_beq, Bool.false_beq, Bool.not_true, Bool.not_false, and_self, true_and, and_true, if_true, if_false, true_or, or_true, Nat.zero_mul, Nat.one_mul, Nat.zero_le, Nat.reduceMul, Nat.reduceLeDiff, decide_true, decide_false, Int.toNat_natCast, List.length_append, List.filter_cons, List.filter_nil, ne_eq, not_true_eq_false, not_false_eq_true, d1, h1, h2, lw, bytes_getD P j _ h3, byte, IntKind.bits, e1, e2, e3, e5]))
          | refine Wp.skip ?_
          | refine Wp.block ?_
          | refine Wp.exit ?_
          | refine Wp.seq ?_)
        refine ⟨j + 1, by omega, by omega, ?_⟩
        refine StLe.tm (by simp only [AllSub, go_sem, reduceIte, Nat.reduceEqDiff, Nat.reduceAdd, Bool.false_eq_true, Bool.true_beq, Bool.false_beq, Bool.not_true, Bool.not_false]; and_intros <;> first | exact trivial | exact VSub.refl _ | exact VSub.any _ | exact VSub.of_eq (congrArg (AV.int .i64) e4) | (refine VSub.int ?_; omega))
      · have hjw : j = w := by omega
        subst hjw
        have d1 : decide ((j : Int) < (j : Int)) = false := decide_eq_false (by omega)
        have hPt : P.take j = P := List.take_of_length_le (by omega)
        rw [hPt]
        repeat (first
          | (refine Wp.seqItems (its := ?_) (t' := ?_) (h' := ?_) (log := ?_) ?_ ?_; rotate_left 4; (· simp only [go_sem, reduceIte, Nat.reduceEqDiff, Nat.reduceAdd, Bool.false_eq_true, Bool.true_beq, Bool.false_beq, Bool.not_true, Bool.not_false, and_self, true_and, and_true, if_true, if_false, true_or, or_true, Nat.zero_mul, Nat.one_mul, Nat.zero_le, Nat.reduceMul, Nat.reduceLeDiff, decide_true, decide_false, Int.toNat_natCast, List.length_append, List.filter_cons, List.filter_nil, ne_eq, not_true_eq_false, not_false_eq_true, d1, g3, eu]; exact rfl))
          | (refine Wp.items (its := ?_) (t' := ?_) (h' := ?_) (log := ?_) ?_ ?_; rotate_left 4; (· simp only [go_sem, reduceIte, Nat.reduceEqDiff, Nat.reduceAdd, Bool.false_eq_true, Bool.true_beq, Bool.false_beq, Bool.not_true, Bool.not_false, and_self, true_and, and_true, if_true, if_false, true_or, or_true, Nat.zero_mul, Nat.one_mul, Nat.zero_le, Nat.reduceMul, Nat.reduceLeDiff, decide_true, decide_false, Int.toNat_natCast, List.length_append, List.filter_cons, List.filter_nil, ne_eq, not_true_eq_false, not_false_eq_true, d1, g3, eu]; exact rfl))
          | (refine WpItems.nil ⟨?_, ?_⟩; (· first | trivial | simp [pairsQ, pairsOk, apart, ent0]))
          | (refine Wp.cond_true ?_ ?_; (· simp only [go_sem, reduceIte, Nat.reduceEqDiff, Nat.reduceAdd, Bool.false_eq_true, Bool.true_beq, Bool.false_beq, Bool.not_true, Bool.not_false, and_self, true_and, and_true, if_true, if_false, true_or, or_true, Nat.zero_mul, Nat.one_mul, Nat.zero_le, Nat.reduceMul, Nat.reduceLeDiff, decide_true, decide_false, Int.toNat_natCast, List.length_append, List.filter_cons, List.filter_nil, ne_eq, not_true_eq_false, not_false_eq_true, d1, g3, eu]))
          | (refine Wp.cond_false ?_ ?_; (· simp only [go_sem, reduceIte, Nat.reduceEqDiff, Nat.reduceAdd, Bool.false_eq_true, Bool.true_beq, Bool.false_beq, Bool.not_true, Bool.not_false, and_self, true_and, and_true, if_true, if_false, true_or, or_true, Nat.zero_mul, Nat.one_mul, Nat.zero_le, Nat.reduceMul, Nat.reduceLeDiff, decide_true, decide_false, Int.toNat_natCast, List.length_append, List.filter_cons, List.filter_nil, ne_eq, not_true_eq_false, not_false_eq_true, d1, g3, eu]))
          | refine Wp.skip ?_
          | refine Wp.block ?_
          | refine Wp.exit ?_
          | refine Wp.seq ?_)
        refine Wp.ret ⟨trivial, _, rfl, ?_, ?_⟩
        · first | rfl | simp only [go_sem, reduceIte, Nat.reduceEqDiff]
        · first | rfl | simp only [go_sem, reduceIte, Nat.reduceEqDiff]
  · rw [numS, if_neg (by simpa using hc)]
    cases ok with
    | false =>
      repeat (first
        | (refine Wp.seqItems (its := ?_) (t' := ?_) (h' := ?_) (log := ?_) ?_ ?_; rotate_left 4; (· simp only [go_sem, reduceIte, Nat.reduceEqDiff, Nat.reduceAdd, Bool.false_eq_true, Bool.true_beq, Bool.false_beq, Bool.not_true, Bool.not_false, and_self, true_and, and_true, if_true, if_false, true_or, or_true, Nat.zero_mul, Nat.one_mul, Nat.zero_le, Nat.reduceMul, Nat.reduceLeDiff, decide_true, decide_false, Int.toNat_natCast, List.length_append, List.filter_cons, List.filter_nil, ne_eq, not_true_eq_false, not_false_eq_true, g1, eu]; exact rfl))
        | (refine Wp.items (its := ?_) (t' := ?_) (h' := ?_) (log := ?_) ?_ ?_; rotate_left 4; (· simp only [go_sem, reduceIte, Nat.reduceEqDiff, Nat.reduceAdd, Bool.false_eq_true, Bool.true_beq, Bool.false_beq, Bool.not_true, Bool.not_false, and_self, true_and, and_true, if_true, if_false, true_or, or_true, Nat.zero_mul, Nat.one_mul, Nat.zero_le, Nat.reduceMul, Nat.reduceLeDiff, decide_true, decide_false, Int.toNat_natCast, List.length_append, List.filter_cons, List.filter_nil, ne_eq, not_true_eq_false, not_false_eq_true, g1, eu]; exact rfl))
        | (refine WpItems.nil ⟨?_, ?_⟩; (· first | trivial | simp [pairsQ, pairsOk, apart, ent0]))
        | (refine Wp.cond_true ?_ ?_; (· simp only [go_sem, reduceIte, Nat.reduceEqDiff, Nat.reduceAdd, Bool.false_eq_true, Bool.true_beq, Bool.false_beq, Bool.not_true, Bool.not_false, and_self, true_and, and_true, if_true, if_false, true_or, or_true, Nat.zero_mul, Nat.one_mul, Nat.zero_le, Nat.reduceMul, Nat.reduceLeDiff, decide_true, decide_false, Int.toNat_natCast, List.length_append, List.filter_cons, List.filter_nil, ne_eq, not_true_eq_false, not_false_eq_true, g1, eu]))
        | (refine Wp.cond_false ?_ ?_; (· simp only [go_sem, reduceIte, Nat.reduceEqDiff, Nat.reduceAdd, Bool.false_eq_true, Bool.true_beq, Bool.false_beq, Bool.not_true, Bool.not_false, and_self, true_and, and_true, if_true, if_false, true_or, or_true, Nat.zero_mul, Nat.one_mul, Nat.zero_le, Nat.reduceMul, Nat.reduceLeDiff, decide_true, decide_false, Int.toNat_natCast, List.length_append, List.filter_cons, List.filter_nil, ne_eq, not_true_eq_false, not_false_eq_true, g1, eu]))
        | refine Wp.skip ?_
        | refine Wp.block ?_
        | refine Wp.exit ?_
        | refine Wp.seq ?_)
      refine Wp.ret ⟨trivial, _, rfl, ?_, ?_⟩
      · first | rfl | simp only [go_sem, reduceIte, Nat.reduceEqDiff]
      · first | rfl | simp only [go_sem, reduceIte, Nat.reduceEqDiff]
    | true =>
      have hlt : ¬ at0 + w ≤ b.length := by simpa using hc
      have g2 : decide ((w : Int) ≤ (b.length : Int) - (at0 : Int)) = false := decide_eq_false (by omega)
      repeat (first
        | (refine Wp.seqItems (its := ?_) (t' := ?_) (h' := ?_) (log := ?_) ?_ ?_; rotate_left 4; (· simp only [go_sem, reduceIte, Nat.reduceEqDiff, Nat.reduceAdd, Bool.false_eq_true, Bool.true_beq, Bool.false_beq, Bool.not_true, Bool.not_false, and_self, true_and, and_true, if_true, if_false, true_or, or_true, Nat.zero_mul, Nat.one_mul, Nat.zero_le, Nat.reduceMul, Nat.reduceLeDiff, decide_true, decide_false, Int.toNat_natCast, List.length_append, List.filter_cons, List.filter_nil, ne_eq, not_true_eq_false, not_false_eq_true, g1, g2, eu]; exact rfl))
        | (refine Wp.items (its := ?_) (t' := ?_) (h' := ?_) (log := ?_) ?_ ?_; rotate_left 4; (· simp only [go_sem, reduceIte, Nat.reduceEqDiff, Nat.reduceAdd, Bool.false_eq_true, Bool.true_beq, Bool.false_beq, Bool.not_true, Bool.not_false, and_self, true_and, and_true, if_true, if_false, true_or, or_true, Nat.zero_mul, Nat.one_mul, Nat.zero_le, Nat.reduceMul, Nat.reduceLeDiff, decide_true, decide_false, Int.toNat_natCast, List.length_append, List.filter_cons, List.filter_nil, ne_eq, not_true_eq_false, not_false_eq_true, g1, g2, eu]; exact rfl))
        | (refine WpItems.nil ⟨?_, ?_⟩; (· first | trivial | simp [pairsQ, pairsOk, apart, ent0]))
        | (refine Wp.cond_true ?_ ?_; (· simp only [go_sem, reduceIte, Nat.reduceEqDiff, Nat.reduceAdd, Bool.false_eq_true, Bool.true_beq, Bool.false_beq, Bool.not_true, Bool.not_false, and_self, true_and, and_true, if_true, if_false, true_or, or_true, Nat.zero_mul, Nat.one_mul, Nat.zero_le, Nat.reduceMul, Nat.reduceLeDiff, decide_true, decide_false, Int.toNat_natCast, List.length_append, List.filter_cons, List.filter_nil, ne_eq, not_true_eq_false, not_false_eq_true, g1, g2, eu]))
        | (refine Wp.cond_false ?_ ?_; (· simp only [go_sem, reduceIte, Nat.reduceEqDiff, Nat.reduceAdd, Bool.false_eq_true, Bool.true_beq, Bool.false_beq, Bool.not_true, Bool.not_false, and_self, true_and, and_true, if_true, if_false, true_or, or_true, Nat.zero_mul, Nat.one_mul, Nat.zero_le, Nat.reduceMul, Nat.reduceLeDiff, decide_true, decide_false, Int.toNat_natCast, List.length_append, List.filter_cons, List.filter_nil, ne_eq, not_true_eq_false, not_false_eq_true, g1, g2, eu]))
        | refine Wp.skip ?_
        | refine Wp.block ?_
        | refine Wp.exit ?_
        | refine Wp.seq ?_)
      refine Wp.ret ⟨trivial, _, rfl, ?_, ?_⟩
      · first | rfl | simp only [go_sem, reduceIte, Nat.reduceEqDiff]
      · first | rfl | simp only [go_sem, reduceIte, Nat.reduceEqDiff]
end Go.Proofs.Ytgainpikomhepaa.Page
