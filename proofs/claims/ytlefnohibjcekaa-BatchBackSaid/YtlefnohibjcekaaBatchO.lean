/- Chapter 15: a record is read as what was written, and only that: plain data. -/
import Derived.Test.YtlefnohibjcekaaBatchN
set_option linter.unusedSimpArgs false
set_option linter.unusedVariables false
set_option maxRecDepth 10000
namespace Go.Proofs.Ytlefnohibjcekaa.Batch
open Go Go.Av Go.Proofs Go.Proofs.Ytlefnohibjcekaa.C

theorem i64_pos {b : Bs} (hb : b.length = 8) (h : 0 ≤ i64 b) : i64 b = (val b : Int) := by
  have hv := val_lt b
  rw [hb] at hv
  have hv' : val b < 18446744073709551616 := by simpa using hv
  unfold i64 at h ⊢
  rw [IntKind.wrap_i64] at h ⊢
  omega

theorem i64_be (t : Nat) (ht : t ≤ 1152921504606846976) : i64 (be 8 t) = (t : Int) := by
  unfold i64
  rw [val_be 8 t (by omega), IntWalk.i64_in _ (by omega)]

theorem take_one {s : Bs} (h : 1 ≤ s.length) : s.take 1 = [bt s 0] := by
  cases s with
  | nil => simp at h
  | cons a s => rfl

/-- the first nine bytes -/
theorem front {s : Bs} (h : 9 ≤ s.length) (ht : 0 ≤ tim s) : s.take 9 = [bt s 0] ++ be 8 (tim s).toNat := by
  have l8 : ((s.drop 1).take 8).length = 8 := by simp; omega
  have e1 : tim s = (val ((s.drop 1).take 8) : Int) := i64_pos l8 ht
  have e2 : be 8 (tim s).toNat = (s.drop 1).take 8 := by
    rw [e1, Int.toNat_natCast]
    have := be_val ((s.drop 1).take 8)
    rwa [l8] at this
  rw [e2]
  have : s.take 9 = s.take 1 ++ (s.drop 1).take 8 := by rw [← List.take_add]
  rw [this, take_one (by omega)]

theorem front10 {s : Bs} (h : 10 ≤ s.length) (h0 : bt s 0 = 66) (ht : 0 ≤ tim s) {l : List Ch} (hn : (bt s 9).toNat = l.length) : s.take 10 = headB (tim s).toNat l := by
  have e1 := front (s := s) (by omega) ht
  have e2 : s.take 10 = s.take 9 ++ [bt s 9] := by
    rw [List.take_succ_eq_append_getElem (show 9 < s.length by omega), bt, getD0 (by omega)]
  have e3 : be 1 l.length = [bt s 9] := by rw [be_one, ← hn, UInt8.ofNat_toNat]
  rw [e2, e1, h0, headB, e3]

/-- what is read has just this record -/
theorem pgo_put {s : Bs} {l : List Ch} (hh : isHead s = true) (hp : pgo s (bt s 9).toNat 10 [] = some (l, s.length)) (hc : bCheck (tim s) l = 0) : bput (tim s).toNat l = s := by
  simp only [isHead, Bool.and_eq_true, decide_eq_true_eq] at hh
  obtain ⟨l1, r1, r2, r3, r4, r5⟩ := pgo_sound s _ _ _ _ _ hp hh.1
  rw [List.nil_append] at r1
  subst r1
  obtain ⟨n, hn, hr, -⟩ := check_zero hc
  have ht : 0 ≤ tim s := by omega
  rw [List.drop_length, List.append_nil] at r4
  rw [bput, ← front10 hh.1 hh.2 ht r2.symm, ← r4, List.take_append_drop]

theorem right_lens {t : Int} {l : List Ch} (h : bRight t l = true) : ∀ c ∈ l, c.k.length < 256 ∧ c.v.length < 256 := by
  obtain ⟨-, -, -, hk⟩ := right_short h
  intro c hc
  obtain ⟨i, hi, rfl⟩ := List.getElem_of_mem hc
  have := (kept_size (hk i hi)).2
  rw [getD_el hi] at this
  omega

theorem put_facts {t : Nat} {l : List Ch} (hc : bCheck (t : Int) l = 0) : isHead (bput t l) = true ∧ tim (bput t l) = t ∧ (bput t l).length ≤ 16384 ∧ isMark (bput t l) = false ∧ pgo (bput t l) (bt (bput t l) 9).toNat 10 [] = some (l, (bput t l).length) := by
  obtain ⟨n, hn, hr, hz⟩ := check_zero hc
  obtain rfl : t = n := by omega
  obtain ⟨t1, t2, l64, hk⟩ := right_short hr
  have hl := bput_length t l
  have hl10 : 10 ≤ (bput t l).length := by rw [hl, bsize]; omega
  have h0 : bt (bput t l) 0 = 66 := rfl
  have htim : tim (bput t l) = t := by
    have : ((bput t l).drop 1).take 8 = be 8 t := by
      have e : bput t l = [66] ++ (be 8 t ++ (be 1 l.length ++ restB l)) := by simp [bput, headB]
      rw [e]
      show ((be 8 t ++ (be 1 l.length ++ restB l))).take 8 = be 8 t
      exact List.take_left' (be_length 8 t)
    rw [tim, this, i64_be t (by omega)]
  have h9 : bt (bput t l) 9 = UInt8.ofNat l.length := by
    have e : bput t l = ([66] ++ be 8 t) ++ (be 1 l.length ++ restB l) := by simp [bput, headB]
    rw [e, bt, List.getD_eq_getElem?_getD, List.getElem?_append_right (by simp [be_length]), be_one]
    simp [be_length]
  have hn9 : (bt (bput t l) 9).toNat = l.length := by rw [h9]; simp only [UInt8.toNat_ofNat']; omega
  refine ⟨by simp [isHead, hl10, h0], htim, by rw [hl]; exact hz, by simp [isMark, h0], ?_⟩
  rw [hn9]
  have := pgo_mk [] l (headB t l) [] (right_lens hr)
  rw [List.append_nil, headB_length] at this
  rw [bput, this]
  simp [headB_length]

theorem read_alike (s : Bs) : outReadR s = outRead s := by
  unfold outReadR
  by_cases hm : isMark s = true
  · have h9 : s.length = 9 := by simp only [isMark, Bool.and_eq_true, decide_eq_true_eq] at hm; exact hm.1.1.1
    rw [if_pos hm, outRead, if_neg (by omega), if_pos hm]
  · rw [if_neg hm]
    by_cases hh : isHead s = true
    · rw [if_pos hh]
      have h10 : 10 ≤ s.length := by simp only [isHead, Bool.and_eq_true, decide_eq_true_eq] at hh; exact hh.1
      by_cases hg : ∃ l, pgo s (bt s 9).toNat 10 [] = some (l, s.length) ∧ bCheck (tim s) l = 0
      · obtain ⟨l, g1, g2⟩ := hg
        obtain ⟨l1, r1, r2, r3, r4, r5⟩ := pgo_sound s _ _ _ _ _ g1 h10
        have hp := pgo_put hh g1 g2
        have hz : s.length ≤ 16384 := by
          obtain ⟨n, hn, hr, hz⟩ := check_zero g2
          rw [← hp, bput_length]; exact hz
        have r5' : rgo s (bt s 9).toNat 10 [] = (l, (s.length : Int)) := r5
        rw [r5', if_neg (by simp only [not_or, ne_eq, Decidable.not_not]; exact ⟨by omega, g2, hp⟩), outRead, if_neg (by omega), if_neg hm, if_pos hh, g1]
        simp only [true_and, g2, if_true]
      · have hbad : outRead s = badR := by
          unfold outRead
          by_cases hz : 16384 < s.length
          · rw [if_pos hz]
          · rw [if_neg hz, if_neg hm, if_pos hh]
            split
            · rename_i l e hp
              rw [if_neg]
              rintro ⟨rfl, hc⟩
              exact hg ⟨l, hp, hc⟩
            · rfl
        rw [hbad]
        by_cases hr : (rgo s (bt s 9).toNat 10 []).2 < 0 ∨ bCheck (tim s) (rgo s (bt s 9).toNat 10 []).1 ≠ 0 ∨ bput (tim s).toNat (rgo s (bt s 9).toNat 10 []).1 ≠ s
        · rw [if_pos hr]
        · exfalso
          simp only [not_or, ne_eq, Decidable.not_not] at hr
          obtain ⟨-, h2, h3⟩ := hr
          generalize (rgo s (bt s 9).toNat 10 []).1 = l at h2 h3
          obtain ⟨n, hn, -⟩ := check_zero h2
          have h2' : bCheck ((tim s).toNat : Int) l = 0 := by rw [show (((tim s).toNat : Nat) : Int) = tim s by omega]; exact h2
          obtain ⟨-, -, -, -, p5⟩ := put_facts h2'
          rw [h3] at p5
          exact hg ⟨l, p5, h2⟩
    · rw [if_neg hh, outRead]
      by_cases hz : 16384 < s.length
      · rw [if_pos hz]
      · rw [if_neg hz, if_neg hm, if_neg hh]
end Go.Proofs.Ytlefnohibjcekaa.Batch
