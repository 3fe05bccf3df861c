/- Chapter 08: an argument that reads as a node. -/
import Derived.Test.YtgainpikomhepaaPageRow
import Derived.Test.YtgainpikomhepaaPageL
set_option linter.unusedSimpArgs false
set_option linter.unusedVariables false
set_option maxRecDepth 100000
namespace Go.Proofs.Ytgainpikomhepaa.Page
open Go Go.Av Go.Proofs Go.Proofs.Ytgainpikomhepaa.C

structure ReadN (n : Node) : Prop where
  k : n.keys.length * 16 ≤ reachBytes
  v : n.vals.length * 16 ≤ reachBytes
  i : n.kids.length * 8 ≤ reachBytes
  ks : ∀ s ∈ n.keys, s.length ≤ reachBytes
  vs : ∀ s ∈ n.vals, s.length ≤ reachBytes
  is : ∀ x ∈ n.kids, (Lit.int .i64 x).wf = true

theorem open_node {a : AV} (h : ArgFits Try.prog 5 25 a) : ∃ n, a = encNode n ∧ ReadN n := by
  obtain ⟨cs, h, rfl⟩ := h
  have hw : ∀ cs, wrapE Try.prog 25 cs = .agg cs := fun cs => by
    unfold wrapE; rw [if_pos (by kernel_rfl)]
  rw [hw]
  unfold Fits at h
  rw [Try.underlying25] at h
  obtain ⟨xss, rfl, h⟩ := h
  cases h with | cons h0 h => cases h with | cons h1 h => cases h with | cons h2 h => cases h with | cons h3 h =>
  cases h
  unfold Fits at h0 h1 h2 h3
  simp only at h0 h1 h2 h3
  rw [Try.underlying4] at h0
  rw [Try.underlying22] at h1 h2
  rw [Try.underlying23] at h3
  obtain ⟨b, rfl⟩ := h0
  obtain ⟨ys1, rfl, l1, e1⟩ := h1
  obtain ⟨ys2, rfl, l2, e2⟩ := h2
  obtain ⟨ys3, rfl, l3, e3⟩ := h3
  obtain ⟨ks, rfl, k1⟩ := all_strs Try.underlying9 (by kernel_rfl) e1
  obtain ⟨vs, rfl, k2⟩ := all_strs Try.underlying9 (by kernel_rfl) e2
  obtain ⟨is, rfl, k3⟩ := all_ints Try.underlying3 (by kernel_rfl) e3
  refine ⟨⟨b, ks, vs, is⟩, ?_, ?_⟩
  · have c1 : Try.prog.cellsOf 9 = 1 := by kernel_rfl
    have c2 : Try.prog.cellsOf 3 = 1 := by kernel_rfl
    simp [encNode, c1, c2]
  · have b1 : Try.prog.bytesOf 9 = 16 := by kernel_rfl
    have b2 : Try.prog.bytesOf 3 = 8 := by kernel_rfl
    rw [b1, strs_length] at l1 l2
    rw [b2, ints_length] at l3
    exact ⟨l1, l2, l3, k1, k2, k3⟩

theorem tot_le {l : List (List UInt8)} {b : Nat} (h : ∀ s ∈ l, s.length ≤ b) : tot l ≤ l.length * b := by
  induction l with
  | nil => simp [tot]
  | cons x l ih =>
    have := ih fun s hs => h s (by simp [hs])
    have hx := h x (by simp)
    simp only [tot, List.map_cons, List.sum_cons, List.length_cons, Nat.add_mul] at this ⊢
    omega

theorem few_nb {n : Node} (hr : ReadN n) (h : few n = true) : Nb n := by
  simp only [few, Bool.and_eq_true, decide_eq_true_eq] at h
  obtain ⟨⟨h1, h2⟩, h3⟩ := h
  have t1 := tot_le hr.ks
  have t2 := tot_le hr.vs
  have m1 : n.keys.length * reachBytes ≤ 500 * reachBytes := Nat.mul_le_mul_right _ h1
  have m2 : n.vals.length * reachBytes ≤ 500 * reachBytes := Nat.mul_le_mul_right _ h2
  unfold reachBytes at t1 t2 m1 m2
  exact ⟨by omega, by omega, by omega, by omega, by omega⟩

theorem open_str {a : AV} (h : ArgFits Try.prog 5 9 a) : ∃ l, a = .str l ∧ l.length ≤ reachBytes := by
  obtain ⟨cs, h, rfl⟩ := h
  unfold Fits at h
  rw [Try.underlying9] at h
  obtain ⟨l, rfl, hl⟩ := h
  refine ⟨l, ?_, hl⟩
  unfold wrapE; rw [if_neg (by rw [show isAggT Try.prog 9 = false by kernel_rfl]; simp)]; rfl
theorem open_i {a : AV} (h : ArgFits Try.prog 5 3 a) : ∃ n, a = .int .i64 n ∧ (Lit.int .i64 n).wf = true := by
  obtain ⟨cs, h, rfl⟩ := h
  unfold Fits at h
  rw [Try.underlying3] at h
  obtain ⟨l, rfl, hl⟩ := h
  refine ⟨l, ?_, hl⟩
  unfold wrapE; rw [if_neg (by rw [show isAggT Try.prog 3 = false by kernel_rfl]; simp)]; rfl
theorem open_bytes {a : AV} (h : ArgFits Try.prog 5 28 a) : ∃ l, a = .sl 1 (bytesAV l) .any ∧ l.length ≤ reachBytes := by
  obtain ⟨cs, h, rfl⟩ := h
  unfold Fits at h
  rw [Try.underlying28] at h
  obtain ⟨ys, rfl, hl, he⟩ := h
  obtain ⟨l, rfl⟩ := all_u8s Try.underlying5 (by kernel_rfl) he
  have b1 : Try.prog.bytesOf 5 = 1 := by kernel_rfl
  have c1 : Try.prog.cellsOf 5 = 1 := by kernel_rfl
  rw [b1, bytes_length, Nat.mul_one] at hl
  refine ⟨l, ?_, hl⟩
  rw [c1]
  unfold wrapE; rw [if_neg (by rw [show isAggT Try.prog 28 = false by kernel_rfl]; simp)]; rfl
end Go.Proofs.Ytgainpikomhepaa.Page
