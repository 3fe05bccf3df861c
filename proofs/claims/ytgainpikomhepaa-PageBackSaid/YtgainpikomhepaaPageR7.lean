/- Chapter 08: a node's bytes are read as the node; PageReads and PageBack. -/
import Derived.Test.YtgainpikomhepaaPageR6
import Derived.Test.YtgainpikomhepaaPageU
set_option linter.unusedSimpArgs false
set_option linter.unusedVariables false
set_option maxRecDepth 10000
namespace Go.Proofs.Ytgainpikomhepaa.Page
open Go Go.Av Go.Proofs Go.Proofs.Ytgainpikomhepaa.C

theorem val_be : ∀ (w v : Nat), v < 256 ^ w → val (be w v) = v
  | 0, v, h => by simp at h; subst h; rfl
  | w + 1, v, h => by
    have hp : 0 < 256 ^ w := Nat.pow_pos (by omega)
    have e : be w v = be w (v % 256 ^ w) := by
      conv => lhs; rw [← Nat.div_add_mod v (256 ^ w), Nat.mul_comm]
      exact be_mod w _ _
    rw [be, val_cons, be_length, e, val_be w _ (Nat.mod_lt _ hp)]
    have hq : v / 256 ^ w < 256 := by
      rw [Nat.div_lt_iff_lt_mul hp]
      rw [Nat.pow_succ, Nat.mul_comm] at h
      exact h
    generalize hQ : v / 256 ^ w = Q at *
    have : (UInt8.ofNat Q).toNat = Q := by simp only [UInt8.toNat_ofNat']; omega
    rw [this, Nat.mul_comm, ← hQ]
    exact Nat.div_add_mod v (256 ^ w)

theorem numS_at {b P R : List UInt8} {w v : Nat} (hb : b = P ++ (be w v ++ R)) (hv : v < 256 ^ w) : numS b ⟨P.length, true⟩ w = (v, ⟨P.length + w, true⟩) := by
  have hl : b.length = P.length + (w + R.length) := by rw [hb]; simp [be_length]
  have e : (b.drop P.length).take w = be w v := by
    rw [hb, List.drop_left]
    rw [List.take_append_of_le_length (by rw [be_length]; exact Nat.le_refl _)]
    exact List.take_of_length_le (by rw [be_length]; exact Nat.le_refl _)
  rw [numS, if_pos (by simp; omega)]
  simp only [e, val_be w v hv]
theorem pieceS_at {b P R s : List UInt8} {w : Nat} (hb : b = P ++ (be w s.length ++ (s ++ R))) (hv : s.length < 256 ^ w) : pieceS b ⟨P.length, true⟩ w = (s, ⟨P.length + w + s.length, true⟩) := by
  have hn := numS_at hb hv
  have hl : b.length = P.length + (w + (s.length + R.length)) := by rw [hb]; simp [be_length]
  unfold pieceS
  rw [hn]
  simp only
  rw [if_pos (by simp; omega)]
  have e : (b.drop (P.length + w)).take s.length = s := by
    have : b = (P ++ be w s.length) ++ (s ++ R) := by rw [hb]; simp
    rw [this]
    have hl2 : P.length + w = (P ++ be w s.length).length := by simp [be_length]
    rw [hl2, List.drop_left, List.take_left]
  rw [e]

theorem rows_pre (n : Node) (i : Nat) : ∀ d, ∃ S, rows n (i + d) = rows n i ++ S
  | 0 => ⟨[], by simp⟩
  | d + 1 => by
    obtain ⟨S, h⟩ := rows_pre n i d
    exact ⟨S ++ row n (i + d), by rw [← Nat.add_assoc, rows, h, List.append_assoc]⟩

def accAt (n : Node) (i : Nat) : Acc := ⟨n.keys.take i, if n.leaf then n.vals.take i else [], if n.leaf then [] else n.kids.take (i + 1), ⟨(head n ++ rows n i).length, true⟩⟩

theorem step_at {n : Node} {b Z : List UInt8} (hr : right n = true) (hb : b = text n ++ Z) {i : Nat} (hi : i < n.keys.length) : stepS n.leaf b (accAt n i) = accAt n (i + 1) := by
  have hR := right_parts hr
  obtain ⟨S, hS⟩ := rows_pre n (i + 1) (n.keys.length - (i + 1))
  rw [show i + 1 + (n.keys.length - (i + 1)) = n.keys.length by omega, rows] at hS
  have hk := hR.keys i hi
  have hkl : (n.keys.getD i []).length < 256 ^ 1 := by omega
  cases hl : n.leaf with
  | true =>
    have hv := hR.val hl i hi
    have hvl : (n.vals.getD i []).length < 256 ^ 2 := by omega
    have hvi : i < n.vals.length := by rw [hR.vals hl]; exact hi
    have e1 : b = (head n ++ rows n i) ++ (be 1 (n.keys.getD i []).length ++ (n.keys.getD i [] ++ ((be 2 (n.vals.getD i []).length ++ n.vals.getD i []) ++ S ++ Z))) := by
      rw [hb, text, hS, row, hl]; simp only [if_true, List.append_assoc]
    have p1 := pieceS_at e1 hkl
    have e2 : b = ((head n ++ rows n i) ++ be 1 (n.keys.getD i []).length ++ n.keys.getD i []) ++ (be 2 (n.vals.getD i []).length ++ (n.vals.getD i [] ++ (S ++ Z))) := by
      rw [e1]; simp only [List.append_assoc]
    have p2 := pieceS_at e2 hvl
    have hlen : ((head n ++ rows n i) ++ be 1 (n.keys.getD i []).length ++ n.keys.getD i []).length = (head n ++ rows n i).length + 1 + (n.keys.getD i []).length := by simp only [List.length_append, be_length]
    rw [hlen] at p2
    simp only [stepS, accAt, hl, if_true, p1, p2]
    rw [List.take_succ_eq_append_getElem hi, List.take_succ_eq_append_getElem hvi, getD_at hi, getD_at hvi]
    congr 2
    rw [rows, row, hl]
    simp only [if_true, List.length_append, be_length, getD_at hi, getD_at hvi]
    omega
  | false =>
    have hv := hR.kid hl (i + 1) (by omega)
    have hvl : (n.kids.getD (i + 1) 0).toNat < 256 ^ 4 := by omega
    have hvi : i + 1 < n.kids.length := by rw [hR.kids hl]; omega
    have e1 : b = (head n ++ rows n i) ++ (be 1 (n.keys.getD i []).length ++ (n.keys.getD i [] ++ (be 4 (n.kids.getD (i + 1) 0).toNat ++ S ++ Z))) := by
      rw [hb, text, hS, row, hl]; simp only [Bool.false_eq_true, if_false, List.append_assoc]
    have p1 := pieceS_at e1 hkl
    have e2 : b = ((head n ++ rows n i) ++ be 1 (n.keys.getD i []).length ++ n.keys.getD i []) ++ (be 4 (n.kids.getD (i + 1) 0).toNat ++ (S ++ Z)) := by
      rw [e1]; simp only [List.append_assoc]
    have p2 := numS_at e2 hvl
    have hlen : ((head n ++ rows n i) ++ be 1 (n.keys.getD i []).length ++ n.keys.getD i []).length = (head n ++ rows n i).length + 1 + (n.keys.getD i []).length := by simp only [List.length_append, be_length]
    rw [hlen] at p2
    simp only [stepS, accAt, hl, Bool.false_eq_true, if_false, p1, p2]
    rw [List.take_succ_eq_append_getElem hi, List.take_succ_eq_append_getElem hvi, getD_at hi, getD_at hvi]
    have hc : ((n.kids[i + 1].toNat : Nat) : Int) = n.kids[i + 1] := by rw [getD_at hvi] at hv; omega
    rw [hc]
    congr 2
    rw [rows, row, hl]
    simp only [Bool.false_eq_true, if_false, List.length_append, be_length, getD_at hi]
    omega

theorem loop_at {n : Node} {b Z : List UInt8} (hr : right n = true) (hb : b = text n ++ Z) : ∀ (c i : Nat), i + c ≤ n.keys.length → loopS n.leaf b c (accAt n i) = accAt n (i + c)
  | 0, i, _ => rfl
  | c + 1, i, h => by
    rw [loopS, if_pos (show (accAt n i).s.ok = true from rfl), step_at hr hb (by omega), loop_at hr hb c (i + 1) (by omega), Nat.add_assoc, Nat.add_comm 1 c]

theorem node_at {n : Node} {b Z : List UInt8} (hr : right n = true) (hs : size n ≤ 1024) (hb : b = text n ++ Z) : nodeOf b = n ∧ (accOf b).s.ok = true := by
  have hR := right_parts hr
  have hkl : n.keys.length < 256 ^ 2 := by unfold size at hs; split at hs <;> omega
  have hlf : leafOf b = n.leaf := by
    unfold leafOf
    rw [hb, text, head]
    cases n.leaf <;> rfl
  have e1 : b = [b.getD 0 0] ++ (be 2 n.keys.length ++ ((if n.leaf then [] else be 4 (n.kids.getD 0 0).toNat) ++ rows n n.keys.length ++ Z)) := by
    have : b = (if n.leaf then [76] else [73]) ++ (be 2 n.keys.length ++ ((if n.leaf then [] else be 4 (n.kids.getD 0 0).toNat) ++ rows n n.keys.length ++ Z)) := by
      rw [hb, text, head]; simp only [List.append_assoc]
    rw [this]
    cases n.leaf <;> rfl
  have hcount : val ((b.drop 1).take 2) = n.keys.length := by
    have := numS_at e1 hkl
    rw [numS, if_pos (by rw [e1]; simp [be_length])] at this
    exact (Prod.mk.inj this).1
  have hstart : startS n.leaf b = accAt n 0 := by
    cases hl : n.leaf with
    | true =>
      simp only [startS, accAt, hl, if_true, rows, List.append_nil, head_length, List.take_zero]
    | false =>
      have hv := hR.kid hl 0 (by omega)
      have hvl : (n.kids.getD 0 0).toNat < 256 ^ 4 := by omega
      have hvi : 0 < n.kids.length := by rw [hR.kids hl]; omega
      have e2 : b = ([b.getD 0 0] ++ be 2 n.keys.length) ++ (be 4 (n.kids.getD 0 0).toNat ++ (rows n n.keys.length ++ Z)) := by
        conv => lhs; rw [e1]
        rw [hl]; simp only [Bool.false_eq_true, if_false, List.append_assoc]
      have p := numS_at e2 hvl
      have h3 : ([b.getD 0 0] ++ be 2 n.keys.length).length = 3 := by simp [be_length]
      rw [h3] at p
      simp only [startS, accAt, hl, Bool.false_eq_true, if_false, p, rows, List.append_nil, head_length, List.take_zero]
      rw [List.take_succ_eq_append_getElem hvi, getD_at hvi]
      have hc : ((n.kids[0].toNat : Nat) : Int) = n.kids[0] := by rw [getD_at hvi] at hv; omega
      rw [hc]
      rfl
  have hacc : accOf b = accAt n n.keys.length := by
    unfold accOf
    rw [hlf, hcount, hstart, loop_at hr hb _ _ (by omega), Nat.zero_add]
  refine ⟨?_, by rw [hacc]; rfl⟩
  unfold nodeOf
  rw [hacc, hlf]
  cases hl : n.leaf with
  | true =>
    obtain ⟨-, r2, r3, -⟩ := (right_leaf hl).1 hr
    simp only [accAt, hl, if_true, List.take_length]
    rw [← r2, List.take_length]
    cases n; simp only at hl r3 ⊢; subst hl r3; rfl
  | false =>
    obtain ⟨-, r2, r3, -⟩ := (right_inner hl).1 hr
    simp only [accAt, hl, Bool.false_eq_true, if_false, List.take_length]
    rw [← r3, List.take_length]
    cases n; simp only at hl r2 ⊢; subst hl r2; rfl

theorem bytes_length_1024 {n : Node} (hc : check n = 0) : (bytesOf n).length = 1024 := by
  obtain ⟨hr, hs⟩ := check_zero hc
  have := text_length n (right_parts hr).vals
  simp only [bytesOf, List.length_append, List.length_replicate]
  omega
theorem page_back {n : Node} (hc : check n = 0) : isPage (bytesOf n) = true ∧ nodeOf (bytesOf n) = n := by
  obtain ⟨hr, hs⟩ := check_zero hc
  obtain ⟨h1, h2⟩ := node_at (b := bytesOf n) (Z := List.replicate (1024 - size n) 0) hr hs rfl
  refine ⟨?_, h1⟩
  unfold isPage
  rw [h1, h2, bytes_length_1024 hc, hc]
  simp

theorem readN_nb (b : List UInt8) : Nb (readN b) := by
  unfold readN
  split
  · rename_i h
    simp only [isPage, Bool.and_eq_true, decide_eq_true_eq] at h
    exact node_nb h.1.1.1
  · exact zero_nb

theorem reads_p (b : List UInt8) (hb : b.length ≤ 140737488351232) : PCalls Try.prog 6 [.sl 1 (bytesAV b) .any] (.bool true) := by
  refine f6.pcalls0 (by simp) (by simp [allPure, isPure, capPure, bytes_pure]) rfl ?_
  unfold c6
  have hn := readN_nb b
  have r0 : b.length ≤ 140737488355328 := by omega
  have r1 : b.length < 4611686018427387904 := by omega
  repeat (first
    | (refine Wp.seqItems (its := ?_) (t' := ?_) (h' := ?_) (log := ?_) ?_ ?_; rotate_left 4; (· simp only [go_sem, reduceIte, Nat.reduceEqDiff, Nat.reduceAdd, Bool.false_eq_true, Bool.true_beq, Bool.false_beq, Bool.not_true, Bool.not_false, and_self, true_and, and_true, if_true, if_false, true_or, or_true, Nat.zero_mul, Nat.one_mul, Nat.zero_le, Nat.reduceMul, Nat.reduceLeDiff, decide_true, decide_false, Int.toNat_natCast, List.length_append, List.filter_cons, List.filter_nil, ne_eq, not_true_eq_false, not_false_eq_true, unBytes_bytes, Nat.mul_one, r0, r1]; exact rfl))
    | (refine Wp.items (its := ?_) (t' := ?_) (h' := ?_) (log := ?_) ?_ ?_; rotate_left 4; (· simp only [go_sem, reduceIte, Nat.reduceEqDiff, Nat.reduceAdd, Bool.false_eq_true, Bool.true_beq, Bool.false_beq, Bool.not_true, Bool.not_false, and_self, true_and, and_true, if_true, if_false, true_or, or_true, Nat.zero_mul, Nat.one_mul, Nat.zero_le, Nat.reduceMul, Nat.reduceLeDiff, decide_true, decide_false, Int.toNat_natCast, List.length_append, List.filter_cons, List.filter_nil, ne_eq, not_true_eq_false, not_false_eq_true, unBytes_bytes, Nat.mul_one, r0, r1]; exact rfl))
    | (refine WpItems.nil ⟨?_, ?_⟩; (· first | trivial | simp [pairsQ, pairsOk, apart, ent0]))
    | (refine WpItems.pcall ?_ ?_ (read_p b) ?_; (· simp only [go_sem, reduceIte, Nat.reduceEqDiff, Nat.reduceAdd, Bool.false_eq_true, Bool.true_beq, Bool.false_beq, Bool.not_true, Bool.not_false]); (· simp only [go_sem, reduceIte, Nat.reduceEqDiff, Nat.reduceAdd, Bool.false_eq_true, Bool.true_beq, Bool.false_beq, Bool.not_true, Bool.not_false, List.map]; first | exact VSubs.refl _ | (repeat (first | exact VSubs.nil | refine VSubs.cons (by first | exact VSub.refl _ | assumption | exact VSub.cap | exact VSub.any _) ?_))); refine WpItems.eval (its := ?_) (t' := ?_) (h' := ?_) (log' := ?_) ?_ ?_; rotate_left 4; (· simp only [go_sem, reduceIte, Nat.reduceEqDiff, Nat.reduceAdd, Bool.false_eq_true, Bool.true_beq, Bool.false_beq, Bool.not_true, Bool.not_false, and_self, true_and, and_true, if_true, if_false, true_or, or_true, Nat.zero_mul, Nat.one_mul, Nat.zero_le, Nat.reduceMul, Nat.reduceLeDiff, decide_true, decide_false, Int.toNat_natCast, List.length_append, List.filter_cons, List.filter_nil, ne_eq, not_true_eq_false, not_false_eq_true, unBytes_bytes, Nat.mul_one, r0, r1]; exact rfl))
    | (refine WpItems.pcall ?_ ?_ (readR_p b) ?_; (· simp only [go_sem, reduceIte, Nat.reduceEqDiff, Nat.reduceAdd, Bool.false_eq_true, Bool.true_beq, Bool.false_beq, Bool.not_true, Bool.not_false]); (· simp only [go_sem, reduceIte, Nat.reduceEqDiff, Nat.reduceAdd, Bool.false_eq_true, Bool.true_beq, Bool.false_beq, Bool.not_true, Bool.not_false, List.map]; first | exact VSubs.refl _ | (repeat (first | exact VSubs.nil | refine VSubs.cons (by first | exact VSub.refl _ | assumption | exact VSub.cap | exact VSub.any _) ?_))); refine WpItems.eval (its := ?_) (t' := ?_) (h' := ?_) (log' := ?_) ?_ ?_; rotate_left 4; (· simp only [go_sem, reduceIte, Nat.reduceEqDiff, Nat.reduceAdd, Bool.false_eq_true, Bool.true_beq, Bool.false_beq, Bool.not_true, Bool.not_false, and_self, true_and, and_true, if_true, if_false, true_or, or_true, Nat.zero_mul, Nat.one_mul, Nat.zero_le, Nat.reduceMul, Nat.reduceLeDiff, decide_true, decide_false, Int.toNat_natCast, List.length_append, List.filter_cons, List.filter_nil, ne_eq, not_true_eq_false, not_false_eq_true, unBytes_bytes, Nat.mul_one, r0, r1]; exact rfl))
    | (refine WpItems.pcall ?_ ?_ (same_p _ hn) ?_; (· simp only [go_sem, reduceIte, Nat.reduceEqDiff, Nat.reduceAdd, Bool.false_eq_true, Bool.true_beq, Bool.false_beq, Bool.not_true, Bool.not_false]); (· simp only [go_sem, reduceIte, Nat.reduceEqDiff, Nat.reduceAdd, Bool.false_eq_true, Bool.true_beq, Bool.false_beq, Bool.not_true, Bool.not_false, List.map]; first | exact VSubs.refl _ | (repeat (first | exact VSubs.nil | refine VSubs.cons (by first | exact VSub.refl _ | assumption | exact VSub.cap | exact VSub.any _) ?_))); refine WpItems.eval (its := ?_) (t' := ?_) (h' := ?_) (log' := ?_) ?_ ?_; rotate_left 4; (· simp only [go_sem, reduceIte, Nat.reduceEqDiff, Nat.reduceAdd, Bool.false_eq_true, Bool.true_beq, Bool.false_beq, Bool.not_true, Bool.not_false, and_self, true_and, and_true, if_true, if_false, true_or, or_true, Nat.zero_mul, Nat.one_mul, Nat.zero_le, Nat.reduceMul, Nat.reduceLeDiff, decide_true, decide_false, Int.toNat_natCast, List.length_append, List.filter_cons, List.filter_nil, ne_eq, not_true_eq_false, not_false_eq_true, unBytes_bytes, Nat.mul_one, r0, r1]; exact rfl))
    | (refine WpItems.pcall ?_ ?_ (lives_p) ?_; (· simp only [go_sem, reduceIte, Nat.reduceEqDiff, Nat.reduceAdd, Bool.false_eq_true, Bool.true_beq, Bool.false_beq, Bool.not_true, Bool.not_false]); (· simp only [go_sem, reduceIte, Nat.reduceEqDiff, Nat.reduceAdd, Bool.false_eq_true, Bool.true_beq, Bool.false_beq, Bool.not_true, Bool.not_false, List.map]; first | exact VSubs.refl _ | (repeat (first | exact VSubs.nil | refine VSubs.cons (by first | exact VSub.refl _ | assumption | exact VSub.cap | exact VSub.any _) ?_))); refine WpItems.eval (its := ?_) (t' := ?_) (h' := ?_) (log' := ?_) ?_ ?_; rotate_left 4; (· simp only [go_sem, reduceIte, Nat.reduceEqDiff, Nat.reduceAdd, Bool.false_eq_true, Bool.true_beq, Bool.false_beq, Bool.not_true, Bool.not_false, and_self, true_and, and_true, if_true, if_false, true_or, or_true, Nat.zero_mul, Nat.one_mul, Nat.zero_le, Nat.reduceMul, Nat.reduceLeDiff, decide_true, decide_false, Int.toNat_natCast, List.length_append, List.filter_cons, List.filter_nil, ne_eq, not_true_eq_false, not_false_eq_true, unBytes_bytes, Nat.mul_one, r0, r1]; exact rfl))
    | (refine Wp.cond_true ?_ ?_; (· simp only [go_sem, reduceIte, Nat.reduceEqDiff, Nat.reduceAdd, Bool.false_eq_true, Bool.true_beq, Bool.false_beq, Bool.not_true, Bool.not_false, and_self, true_and, and_true, if_true, if_false, true_or, or_true, Nat.zero_mul, Nat.one_mul, Nat.zero_le, Nat.reduceMul, Nat.reduceLeDiff, decide_true, decide_false, Int.toNat_natCast, List.length_append, List.filter_cons, List.filter_nil, ne_eq, not_true_eq_false, not_false_eq_true, unBytes_bytes, Nat.mul_one, r0, r1]))
    | (refine Wp.cond_false ?_ ?_; (· simp only [go_sem, reduceIte, Nat.reduceEqDiff, Nat.reduceAdd, Bool.false_eq_true, Bool.true_beq, Bool.false_beq, Bool.not_true, Bool.not_false, and_self, true_and, and_true, if_true, if_false, true_or, or_true, Nat.zero_mul, Nat.one_mul, Nat.zero_le, Nat.reduceMul, Nat.reduceLeDiff, decide_true, decide_false, Int.toNat_natCast, List.length_append, List.filter_cons, List.filter_nil, ne_eq, not_true_eq_false, not_false_eq_true, unBytes_bytes, Nat.mul_one, r0, r1]))
    | refine Wp.skip ?_
    | refine Wp.block ?_
    | refine Wp.exit ?_
    | refine Wp.seq ?_)
  refine Wp.ret ⟨trivial, _, rfl, ?_⟩
  simp only [go_sem, reduceIte, Nat.reduceEqDiff, Nat.reduceAdd, Bool.false_eq_true, Bool.true_beq, Bool.false_beq, Bool.not_true, Bool.not_false]
  exact VSub.refl _

theorem law_PageReads {b : Nat} (avs : List AV) (h : All2 (ArgFits Try.prog 5) Try.f6.params.toList avs) (_ : bulkAs avs ≤ b) : PCalls Try.prog 6 avs (.bool true) := by
  rw [Try.params6] at h
  cases h with | cons h0 h =>
  cases h
  obtain ⟨l, rfl, hl⟩ := open_bytes h0
  exact reads_p l hl
end Go.Proofs.Ytgainpikomhepaa.Page
