/- Numbers of fixed widths: field.put, and the document's Field. -/
import Derived.Test.YtlefnohibjcekaaLessB
set_option linter.unusedSimpArgs false
set_option linter.unusedVariables false
set_option maxRecDepth 10000
namespace Go.Proofs.Ytlefnohibjcekaa.Batch
open Go Go.Av Go.Proofs Go.Proofs.Ytlefnohibjcekaa.C

/-- a number's lowest bytes, the highest ahead -/
def be : Nat → Nat → List UInt8
  | 0, _ => []
  | b + 1, v => UInt8.ofNat (v / 256 ^ b) :: be b v
theorem be_length : ∀ b v, (be b v).length = b
  | 0, _ => rfl
  | b + 1, v => by simp [be, be_length b v]

theorem byte_shr (v i : Nat) (hi : i ≤ 7) : AV.int .u8 (IntKind.u8.wrap ((v : Int).fdiv (2 ^ (min ((8 * i : Nat) : Int).toNat 64)))) = byte (UInt8.ofNat (v / 256 ^ i)) := by
  have h1 : min ((8 * i : Nat) : Int).toNat 64 = 8 * i := by rw [Int.toNat_natCast]; omega
  have h2 : (2 : Int) ^ (8 * i) = ((256 ^ i : Nat) : Int) := by
    rw [Int.pow_mul]; norm_cast
  rw [h1, h2, byte, Int.fdiv_eq_ediv_of_nonneg _ (Int.natCast_nonneg _), ← Int.natCast_ediv, IntKind.wrap_u8]
  congr 1

theorem bytes_append (l m : List UInt8) : bytesAV (l ++ m) = bytesAV l ++ bytesAV m := by simp [bytesAV]

theorem put_gen {f : FuncId} (hF : FnIs Try.prog f 24 c140 [.tmp 6]) (K : IntKind) (v : Nat) (hv : v < 18446744073709551616) (b : Nat) (hb : b ≤ 8) (xs : List UInt8) (hx : xs.length ≤ 1099511627776) :
    TCalls Try.prog f (fun t => [.sl 1 (bytesAV xs) (.own t), .int K v, .int .i64 b]) (fun t => .sl 1 (bytesAV (xs ++ be b v)) (.own t)) := by
  intro t n m
  suffices h : ∃ r h', ACalls Try.prog f [.sl 1 (bytesAV xs) (.own t), .int K v, .int .i64 b] (.only none' [t] n m) r h' ∧ ∃ t' m', m ≤ m' ∧ r = .sl 1 (bytesAV (xs ++ be b v)) (.own t') ∧ h' = .only none' [t'] n m' by
    obtain ⟨r, h', ha, t', m', hm, rfl, rfl⟩ := h
    exact ⟨t', m', hm, ha⟩
  refine hF.acalls (by simp) ?_
  unfold c140
  refine Wp.seqReg (by simp only [go_sem, reduceIte, Nat.reduceEqDiff, Nat.reduceAdd, Bool.false_eq_true, Bool.true_beq, Bool.false_beq, Bool.not_true, Bool.not_false]; exact rfl) (by trivial) ?_
  refine Wp.seq ?_
  refine Wp.seqReg (by simp only [go_sem, reduceIte, Nat.reduceEqDiff, Nat.reduceAdd, Bool.false_eq_true, Bool.true_beq, Bool.false_beq, Bool.not_true, Bool.not_false]; simp (disch := omega) only [IntWalk.i64_in]; exact rfl) (by trivial) ?_
  refine Wp.block ?_
  refine Wp.loopH [1] (by simp only [go_sem, reduceIte, Nat.reduceEqDiff, List.map]; exact rfl) (fun j : Nat × List UInt8 × Nat × Nat => [(0, .sl 1 (bytesAV (xs ++ j.2.1)) (.own j.2.2.1)), (7, .int .i64 ((j.1 : Int) - 1))]) (fun j => .only none' [j.2.2.1] n j.2.2.2)
    (fun j => j.1 ≤ b ∧ m ≤ j.2.2.2 ∧ j.2.1 ++ be j.1 v = be b v) (fun j => j.1) (b, [], t, m) ⟨Nat.le_refl _, Nat.le_refl _, rfl⟩ rfl ?_ ?_
  · simp only [AllSub, go_sem, reduceIte, Nat.reduceEqDiff, Nat.reduceAdd, Bool.false_eq_true, Bool.true_beq, Bool.false_beq, Bool.not_true, Bool.not_false, List.append_nil]; and_intros <;> first | exact trivial | exact VSub.refl _ | exact VSub.any _ | (refine VSub.int ?_; omega)
  · intro j hj
    obtain ⟨r, dn, tk, m'⟩ := j
    obtain ⟨h1, h2, h3⟩ := hj
    simp only at h1 h2 h3
    have hdl : dn.length + r = b := by have := congrArg List.length h3; simp only [List.length_append, be_length] at this; exact this
    refine Wp.seq ?_
    refine Wp.seqReg (by simp only [go_sem, reduceIte, Nat.reduceEqDiff, Nat.reduceAdd, Bool.false_eq_true, Bool.true_beq, Bool.false_beq, Bool.not_true, Bool.not_false]; exact rfl) (by trivial) ?_
    refine Wp.cond_split (b := decide ((0 : Int) ≤ (r : Int) - 1)) (by simp only [go_sem, reduceIte, Nat.reduceEqDiff, Nat.reduceAdd, Bool.false_eq_true, Bool.true_beq, Bool.false_beq, Bool.not_true, Bool.not_false]) (fun hc => ?_) (fun hc => ?_)
    · have hc' : (0 : Int) ≤ (r : Int) - 1 := by simpa using hc
      obtain ⟨i, rfl⟩ : ∃ i, r = i + 1 := ⟨r - 1, by omega⟩
      have e1 : ((i + 1 : Nat) : Int) - 1 = (i : Int) := by omega
      have e2 : IntKind.i64.wrap (8 * (i : Int)) = ((8 * i : Nat) : Int) := by rw [IntWalk.i64_in _ (by omega)]; omega
      have e3 : IntKind.u64.wrap (v : Int) = (v : Int) := IntWalk.u64_in _ (by omega)
      have e4 : ¬ ((8 * i : Nat) : Int) < 0 := by omega
      have e5 := byte_shr v i (by omega)
      have e6 : (bytesAV (xs ++ dn)).length + 1 ≤ 140737488355328 := by rw [bytes_length, List.length_append]; omega
      have e7 : (bytesAV (xs ++ dn)).length + 1 < 4611686018427387904 := by omega
      rw [bytes_length] at e6 e7
      refine Wp.skip ?_
      refine Wp.seq ?_
      refine Wp.block ?_
      rw [e1]
      refine Wp.reg1 (by simp only [go_sem, reduceIte, Nat.reduceEqDiff, Nat.reduceAdd, Bool.false_eq_true, Bool.true_beq, Bool.false_beq, Bool.not_true, Bool.not_false, e2, e3, e4, e5, Nat.mul_one, Nat.one_mul, IntKind.bits, e6, e7, true_and, and_self, if_true, ne_eq, byte, decide_true, Nat.reduceMul, Nat.reduceLeDiff]; exact rfl) (by trivial) ?_
      refine Wp.reg1 (by simp only [go_sem, reduceIte, Nat.reduceEqDiff, Nat.reduceAdd, Bool.false_eq_true, Bool.true_beq, Bool.false_beq, Bool.not_true, Bool.not_false]; simp (disch := omega) only [IntWalk.i64_in]; exact rfl) (by trivial) ?_
      refine ⟨(i, dn ++ [UInt8.ofNat (v / 256 ^ i)], m', m' + 1), ⟨by simp only; omega, by simp only; omega, by rw [← h3]; simp [be]⟩, by simp, ?_⟩
      refine StLe.tm (by simp only [AllSub, go_sem, reduceIte, Nat.reduceEqDiff, Nat.reduceAdd, Bool.false_eq_true, Bool.true_beq, Bool.false_beq, Bool.not_true, Bool.not_false]; and_intros <;> first | exact trivial | exact VSub.refl _ | exact VSub.any _ | exact VSub.of_eq (by simp [bytesAV, byte]) | (refine VSub.int ?_; omega))
    · skip
      refine Wp.exit ?_
      refine Wp.seqReg (by simp only [go_sem, reduceIte, Nat.reduceEqDiff, Nat.reduceAdd, Bool.false_eq_true, Bool.true_beq, Bool.false_beq, Bool.not_true, Bool.not_false]; exact rfl) (by trivial) ?_
      have hr : r = 0 := by have : ¬ (0 : Int) ≤ (r : Int) - 1 := by simpa using hc
                            omega
      subst hr
      have h4 : dn = be b v := by simpa [be] using h3
      subst h4
      refine Wp.ret ⟨trivial, _, rfl, tk, m', h2, ?_, rfl⟩
      simp only [go_sem, reduceIte, Nat.reduceEqDiff]

theorem put_gen64 {f : FuncId} (hF : FnIs Try.prog f 23 c141 [.tmp 6]) (v : Nat) (hv : v < 18446744073709551616) (b : Nat) (hb : b ≤ 8) (xs : List UInt8) (hx : xs.length ≤ 1099511627776) :
    TCalls Try.prog f (fun t => [.sl 1 (bytesAV xs) (.own t), .int .u64 v, .int .i64 b]) (fun t => .sl 1 (bytesAV (xs ++ be b v)) (.own t)) := by
  intro t n m
  suffices h : ∃ r h', ACalls Try.prog f [.sl 1 (bytesAV xs) (.own t), .int .u64 v, .int .i64 b] (.only none' [t] n m) r h' ∧ ∃ t' m', m ≤ m' ∧ r = .sl 1 (bytesAV (xs ++ be b v)) (.own t') ∧ h' = .only none' [t'] n m' by
    obtain ⟨r, h', ha, t', m', hm, rfl, rfl⟩ := h
    exact ⟨t', m', hm, ha⟩
  refine hF.acalls (by simp) ?_
  unfold c141
  refine Wp.seqReg (by simp only [go_sem, reduceIte, Nat.reduceEqDiff, Nat.reduceAdd, Bool.false_eq_true, Bool.true_beq, Bool.false_beq, Bool.not_true, Bool.not_false]; exact rfl) (by trivial) ?_
  refine Wp.seq ?_
  refine Wp.seqReg (by simp only [go_sem, reduceIte, Nat.reduceEqDiff, Nat.reduceAdd, Bool.false_eq_true, Bool.true_beq, Bool.false_beq, Bool.not_true, Bool.not_false]; simp (disch := omega) only [IntWalk.i64_in]; exact rfl) (by trivial) ?_
  refine Wp.block ?_
  refine Wp.loopH [1] (by simp only [go_sem, reduceIte, Nat.reduceEqDiff, List.map]; exact rfl) (fun j : Nat × List UInt8 × Nat × Nat => [(0, .sl 1 (bytesAV (xs ++ j.2.1)) (.own j.2.2.1)), (7, .int .i64 ((j.1 : Int) - 1))]) (fun j => .only none' [j.2.2.1] n j.2.2.2)
    (fun j => j.1 ≤ b ∧ m ≤ j.2.2.2 ∧ j.2.1 ++ be j.1 v = be b v) (fun j => j.1) (b, [], t, m) ⟨Nat.le_refl _, Nat.le_refl _, rfl⟩ rfl ?_ ?_
  · simp only [AllSub, go_sem, reduceIte, Nat.reduceEqDiff, Nat.reduceAdd, Bool.false_eq_true, Bool.true_beq, Bool.false_beq, Bool.not_true, Bool.not_false, List.append_nil]; and_intros <;> first | exact trivial | exact VSub.refl _ | exact VSub.any _ | (refine VSub.int ?_; omega)
  · intro j hj
    obtain ⟨r, dn, tk, m'⟩ := j
    obtain ⟨h1, h2, h3⟩ := hj
    simp only at h1 h2 h3
    have hdl : dn.length + r = b := by have := congrArg List.length h3; simp only [List.length_append, be_length] at this; exact this
    refine Wp.seq ?_
    refine Wp.seqReg (by simp only [go_sem, reduceIte, Nat.reduceEqDiff, Nat.reduceAdd, Bool.false_eq_true, Bool.true_beq, Bool.false_beq, Bool.not_true, Bool.not_false]; exact rfl) (by trivial) ?_
    refine Wp.cond_split (b := decide ((0 : Int) ≤ (r : Int) - 1)) (by simp only [go_sem, reduceIte, Nat.reduceEqDiff, Nat.reduceAdd, Bool.false_eq_true, Bool.true_beq, Bool.false_beq, Bool.not_true, Bool.not_false]) (fun hc => ?_) (fun hc => ?_)
    · have hc' : (0 : Int) ≤ (r : Int) - 1 := by simpa using hc
      obtain ⟨i, rfl⟩ : ∃ i, r = i + 1 := ⟨r - 1, by omega⟩
      have e1 : ((i + 1 : Nat) : Int) - 1 = (i : Int) := by omega
      have e2 : IntKind.i64.wrap (8 * (i : Int)) = ((8 * i : Nat) : Int) := by rw [IntWalk.i64_in _ (by omega)]; omega
      have e3 : IntKind.u64.wrap (v : Int) = (v : Int) := IntWalk.u64_in _ (by omega)
      have e4 : ¬ ((8 * i : Nat) : Int) < 0 := by omega
      have e5 := byte_shr v i (by omega)
      have e6 : (bytesAV (xs ++ dn)).length + 1 ≤ 140737488355328 := by rw [bytes_length, List.length_append]; omega
      have e7 : (bytesAV (xs ++ dn)).length + 1 < 4611686018427387904 := by omega
      rw [bytes_length] at e6 e7
      refine Wp.skip ?_
      refine Wp.seq ?_
      refine Wp.block ?_
      rw [e1]
      refine Wp.reg1 (by simp only [go_sem, reduceIte, Nat.reduceEqDiff, Nat.reduceAdd, Bool.false_eq_true, Bool.true_beq, Bool.false_beq, Bool.not_true, Bool.not_false, e2, e3, e4, e5, Nat.mul_one, Nat.one_mul, IntKind.bits, e6, e7, true_and, and_self, if_true, ne_eq, byte, decide_true, Nat.reduceMul, Nat.reduceLeDiff]; exact rfl) (by trivial) ?_
      refine Wp.reg1 (by simp only [go_sem, reduceIte, Nat.reduceEqDiff, Nat.reduceAdd, Bool.false_eq_true, Bool.true_beq, Bool.false_beq, Bool.not_true, Bool.not_false]; simp (disch := omega) only [IntWalk.i64_in]; exact rfl) (by trivial) ?_
      refine ⟨(i, dn ++ [UInt8.ofNat (v / 256 ^ i)], m', m' + 1), ⟨by simp only; omega, by simp only; omega, by rw [← h3]; simp [be]⟩, by simp, ?_⟩
      refine StLe.tm (by simp only [AllSub, go_sem, reduceIte, Nat.reduceEqDiff, Nat.reduceAdd, Bool.false_eq_true, Bool.true_beq, Bool.false_beq, Bool.not_true, Bool.not_false]; and_intros <;> first | exact trivial | exact VSub.refl _ | exact VSub.any _ | exact VSub.of_eq (by simp [bytesAV, byte]) | (refine VSub.int ?_; omega))
    · skip
      refine Wp.exit ?_
      refine Wp.seqReg (by simp only [go_sem, reduceIte, Nat.reduceEqDiff, Nat.reduceAdd, Bool.false_eq_true, Bool.true_beq, Bool.false_beq, Bool.not_true, Bool.not_false]; exact rfl) (by trivial) ?_
      have hr : r = 0 := by have : ¬ (0 : Int) ≤ (r : Int) - 1 := by simpa using hc
                            omega
      subst hr
      have h4 : dn = be b v := by simpa [be] using h3
      subst h4
      refine Wp.ret ⟨trivial, _, rfl, tk, m', h2, ?_, rfl⟩
      simp only [go_sem, reduceIte, Nat.reduceEqDiff]

theorem put8_p (v : Nat) (hv : v < 256) (xs : List UInt8) (hx : xs.length ≤ 1099511627776) : TCalls Try.prog 95 (fun t => [.sl 1 (bytesAV xs) (.own t), .int .i64 v]) (fun t => .sl 1 (bytesAV (xs ++ be 1 v)) (.own t)) := by
  intro t n m
  suffices h : ∃ r h', ACalls Try.prog 95 [.sl 1 (bytesAV xs) (.own t), .int .i64 v] (.only none' [t] n m) r h' ∧ ∃ t' m', m ≤ m' ∧ r = .sl 1 (bytesAV (xs ++ be 1 v)) (.own t') ∧ h' = .only none' [t'] n m' by
    obtain ⟨r, h', ha, t', m', hm, rfl, rfl⟩ := h
    exact ⟨t', m', hm, ha⟩
  refine f95.acalls (by simp) ?_
  unfold c95
  have e1 : IntKind.u8.wrap (v : Int) = (v : Int) := IntWalk.u8_in _ (by omega)
  refine Wp.seqReg (by simp only [go_sem, reduceIte, Nat.reduceEqDiff, Nat.reduceAdd, Bool.false_eq_true, Bool.true_beq, Bool.false_beq, Bool.not_true, Bool.not_false]; exact rfl) (by trivial) ?_
  refine Wp.seqItems (by simp only [go_sem, reduceIte, Nat.reduceEqDiff, Nat.reduceAdd, Bool.false_eq_true, Bool.true_beq, Bool.false_beq, Bool.not_true, Bool.not_false, e1]; exact rfl) ?_
  refine WpItems.tcall t (by simp only [go_sem]) (by simp only [go_sem, reduceIte, Nat.reduceEqDiff, List.map]; exact VSubs.refl _) (by simp only [go_sem]) (put_gen f140 .u8 v (by omega) 1 (by omega) xs hx) fun t' m' hm => ?_
  refine WpItems.eval (by simp only [go_sem, reduceIte, Nat.reduceEqDiff, Nat.reduceAdd, Bool.false_eq_true, Bool.true_beq, Bool.false_beq, Bool.not_true, Bool.not_false]; exact rfl) ?_
  refine WpItems.nil ⟨by trivial, ?_⟩
  refine Wp.ret ⟨trivial, _, rfl, t', m', hm, ?_, rfl⟩
  simp only [go_sem, reduceIte, Nat.reduceEqDiff]

theorem put64_p (v : Nat) (hv : v < 9223372036854775808) (xs : List UInt8) (hx : xs.length ≤ 1099511627776) : TCalls Try.prog 96 (fun t => [.sl 1 (bytesAV xs) (.own t), .int .i64 v]) (fun t => .sl 1 (bytesAV (xs ++ be 8 v)) (.own t)) := by
  intro t n m
  suffices h : ∃ r h', ACalls Try.prog 96 [.sl 1 (bytesAV xs) (.own t), .int .i64 v] (.only none' [t] n m) r h' ∧ ∃ t' m', m ≤ m' ∧ r = .sl 1 (bytesAV (xs ++ be 8 v)) (.own t') ∧ h' = .only none' [t'] n m' by
    obtain ⟨r, h', ha, t', m', hm, rfl, rfl⟩ := h
    exact ⟨t', m', hm, ha⟩
  refine f96.acalls (by simp) ?_
  unfold c96
  have e1 : IntKind.u64.wrap (v : Int) = (v : Int) := IntWalk.u64_in _ (by omega)
  refine Wp.seqReg (by simp only [go_sem, reduceIte, Nat.reduceEqDiff, Nat.reduceAdd, Bool.false_eq_true, Bool.true_beq, Bool.false_beq, Bool.not_true, Bool.not_false]; exact rfl) (by trivial) ?_
  refine Wp.seqItems (by simp only [go_sem, reduceIte, Nat.reduceEqDiff, Nat.reduceAdd, Bool.false_eq_true, Bool.true_beq, Bool.false_beq, Bool.not_true, Bool.not_false, e1]; exact rfl) ?_
  refine WpItems.tcall t (by simp only [go_sem]) (by simp only [go_sem, reduceIte, Nat.reduceEqDiff, List.map]; exact VSubs.refl _) (by simp only [go_sem]) (put_gen64 f141 v (by omega) 8 (by omega) xs hx) fun t' m' hm => ?_
  refine WpItems.eval (by simp only [go_sem, reduceIte, Nat.reduceEqDiff, Nat.reduceAdd, Bool.false_eq_true, Bool.true_beq, Bool.false_beq, Bool.not_true, Bool.not_false]; exact rfl) ?_
  refine WpItems.nil ⟨by trivial, ?_⟩
  refine Wp.ret ⟨trivial, _, rfl, t', m', hm, ?_, rfl⟩
  simp only [go_sem, reduceIte, Nat.reduceEqDiff]

def toksO : Option Nat → List Nat
  | none => []
  | some t => [t]
def capO (k : Nat) : Option Nat → Cap
  | none => .exact k
  | some t => .own t

theorem fieldR_p (v : Nat) (hv : v < 9223372036854775808) (b : Nat) (hb : b ≤ 8) : PCalls Try.prog 98 [.int .i64 v, .int .i64 b] (.str (be b v)) := by
  refine f98.pcalls (by simp) (allPure_ok _ rfl) (isPure_ok _ rfl) fun n m => ?_
  unfold c98
  have e3 : IntKind.u64.wrap (v : Int) = (v : Int) := IntWalk.u64_in _ (by omega)
  refine Wp.seqReg (by simp only [go_sem, reduceIte, Nat.reduceEqDiff, Nat.reduceAdd, Bool.false_eq_true, Bool.true_beq, Bool.false_beq, Bool.not_true, Bool.not_false]; exact rfl) (by trivial) ?_
  refine Wp.seqReg (by simp only [go_sem, reduceIte, Nat.reduceEqDiff, Nat.reduceAdd, Bool.false_eq_true, Bool.true_beq, Bool.false_beq, Bool.not_true, Bool.not_false, e3]; exact rfl) (by trivial) ?_
  refine Wp.seqReg (by simp only [go_sem, reduceIte, Nat.reduceEqDiff, Nat.reduceAdd, Bool.false_eq_true, Bool.true_beq, Bool.false_beq, Bool.not_true, Bool.not_false]; exact rfl) (by trivial) ?_
  refine Wp.seq ?_
  refine Wp.seqReg (by simp only [go_sem, reduceIte, Nat.reduceEqDiff, Nat.reduceAdd, Bool.false_eq_true, Bool.true_beq, Bool.false_beq, Bool.not_true, Bool.not_false]; simp (disch := omega) only [IntWalk.i64_in]; exact rfl) (by trivial) ?_
  refine Wp.block ?_
  refine Wp.loopH [5] (by simp only [go_sem, reduceIte, Nat.reduceEqDiff, List.map]; exact rfl) (fun j : Nat × List UInt8 × Option Nat × Nat => [(6, .sl 1 (bytesAV j.2.1) (capO j.2.1.length j.2.2.1)), (7, .int .i64 ((j.1 : Int) - 1))]) (fun j => .only none' (toksO j.2.2.1) n j.2.2.2)
    (fun j => j.1 ≤ b ∧ j.2.1 ++ be j.1 v = be b v) (fun j => j.1) (b, [], none, m) ⟨Nat.le_refl _, rfl⟩ rfl ?_ ?_
  · simp only [AllSub, go_sem, reduceIte, Nat.reduceEqDiff, Nat.reduceAdd, Bool.false_eq_true, Bool.true_beq, Bool.false_beq, Bool.not_true, Bool.not_false, capO, bytesAV, List.map_nil, List.length_nil]; and_intros <;> first | exact trivial | exact VSub.refl _ | exact VSub.any _ | (refine VSub.int ?_; omega)
  · intro j hj
    obtain ⟨r, dn, o, m'⟩ := j
    obtain ⟨h1, h3⟩ := hj
    simp only at h1 h3
    have hdl : dn.length + r = b := by have := congrArg List.length h3; simp only [List.length_append, be_length] at this; exact this
    refine Wp.seq ?_
    refine Wp.seqReg (by simp only [go_sem, reduceIte, Nat.reduceEqDiff, Nat.reduceAdd, Bool.false_eq_true, Bool.true_beq, Bool.false_beq, Bool.not_true, Bool.not_false]; exact rfl) (by trivial) ?_
    refine Wp.cond_split (b := decide ((0 : Int) ≤ (r : Int) - 1)) (by simp only [go_sem, reduceIte, Nat.reduceEqDiff, Nat.reduceAdd, Bool.false_eq_true, Bool.true_beq, Bool.false_beq, Bool.not_true, Bool.not_false]) (fun hc => ?_) (fun hc => ?_)
    · have hc' : (0 : Int) ≤ (r : Int) - 1 := by simpa using hc
      obtain ⟨i, rfl⟩ : ∃ i, r = i + 1 := ⟨r - 1, by omega⟩
      have e1 : ((i + 1 : Nat) : Int) - 1 = (i : Int) := by omega
      have e0 : IntKind.u64.wrap (i : Int) = (i : Int) := IntWalk.u64_in _ (by omega)
      have e2 : IntKind.u64.wrap (8 * (i : Int)) = ((8 * i : Nat) : Int) := by rw [IntWalk.u64_in _ (by omega)]; omega
      have e4 : ¬ ((8 * i : Nat) : Int) < 0 := by omega
      have e5 := byte_shr v i (by omega)
      have e6 : dn.length + 1 ≤ 140737488355328 := by omega
      have e7 : dn.length + 1 < 4611686018427387904 := by omega
      refine Wp.skip ?_
      refine Wp.seq ?_
      refine Wp.block ?_
      rw [e1]
      refine (fun (h : Wp _ _ _ _ _) => h) ?_
      cases o with
      | none =>
        refine Wp.reg1 (by simp only [go_sem, reduceIte, Nat.reduceEqDiff, Nat.reduceAdd, Bool.false_eq_true, Bool.true_beq, Bool.false_beq, Bool.not_true, Bool.not_false, toksO, capO, e0, e2, e4, e5, Nat.mul_one, Nat.one_mul, IntKind.bits, e6, e7, true_and, and_self, if_true, ne_eq, byte, decide_true, Nat.reduceMul, Nat.reduceLeDiff]; exact rfl) (by trivial) ?_
        refine Wp.reg1 (by simp only [go_sem, reduceIte, Nat.reduceEqDiff, Nat.reduceAdd, Bool.false_eq_true, Bool.true_beq, Bool.false_beq, Bool.not_true, Bool.not_false]; simp (disch := omega) only [IntWalk.i64_in]; exact rfl) (by trivial) ?_
        refine ⟨(i, dn ++ [UInt8.ofNat (v / 256 ^ i)], some m', m' + 1), ⟨by simp only; omega, by rw [← h3]; simp [be]⟩, by simp, ?_⟩
        refine StLe.tm (by simp only [AllSub, go_sem, reduceIte, Nat.reduceEqDiff, Nat.reduceAdd, Bool.false_eq_true, Bool.true_beq, Bool.false_beq, Bool.not_true, Bool.not_false, capO]; and_intros <;> first | exact trivial | exact VSub.refl _ | exact VSub.any _ | exact VSub.of_eq (by simp [bytesAV, byte]) | (refine VSub.int ?_; omega))
      | some tk =>
        refine Wp.reg1 (by simp only [go_sem, reduceIte, Nat.reduceEqDiff, Nat.reduceAdd, Bool.false_eq_true, Bool.true_beq, Bool.false_beq, Bool.not_true, Bool.not_false, toksO, capO, e0, e2, e4, e5, Nat.mul_one, Nat.one_mul, IntKind.bits, e6, e7, true_and, and_self, if_true, ne_eq, byte, decide_true, Nat.reduceMul, Nat.reduceLeDiff]; exact rfl) (by trivial) ?_
        refine Wp.reg1 (by simp only [go_sem, reduceIte, Nat.reduceEqDiff, Nat.reduceAdd, Bool.false_eq_true, Bool.true_beq, Bool.false_beq, Bool.not_true, Bool.not_false]; simp (disch := omega) only [IntWalk.i64_in]; exact rfl) (by trivial) ?_
        refine ⟨(i, dn ++ [UInt8.ofNat (v / 256 ^ i)], some m', m' + 1), ⟨by simp only; omega, by rw [← h3]; simp [be]⟩, by simp, ?_⟩
        refine StLe.tm (by simp only [AllSub, go_sem, reduceIte, Nat.reduceEqDiff, Nat.reduceAdd, Bool.false_eq_true, Bool.true_beq, Bool.false_beq, Bool.not_true, Bool.not_false, capO]; and_intros <;> first | exact trivial | exact VSub.refl _ | exact VSub.any _ | exact VSub.of_eq (by simp [bytesAV, byte]) | (refine VSub.int ?_; omega))
    · have hr : r = 0 := by have : ¬ (0 : Int) ≤ (r : Int) - 1 := by simpa using hc
                            omega
      subst hr
      have h4 : dn = be b v := by simpa [be] using h3
      subst h4
      refine Wp.exit ?_
      refine Wp.seqReg (by simp only [go_sem, reduceIte, Nat.reduceEqDiff, Nat.reduceAdd, Bool.false_eq_true, Bool.true_beq, Bool.false_beq, Bool.not_true, Bool.not_false, unBytes_bytes, true_or, if_true]; exact rfl) (by trivial) ?_
      refine Wp.ret ⟨trivial, _, rfl, ?_⟩
      simp only [go_sem, reduceIte, Nat.reduceEqDiff, Nat.reduceAdd, Bool.false_eq_true, Bool.true_beq, Bool.false_beq, Bool.not_true, Bool.not_false]
      exact VSub.refl _
end Go.Proofs.Ytlefnohibjcekaa.Batch
