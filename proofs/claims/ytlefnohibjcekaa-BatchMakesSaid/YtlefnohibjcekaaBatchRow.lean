/- Chapter 15: arguments that read as data are pairs, changes, batches; the program's closed facts. -/
import Derived.Test.YtlefnohibjcekaaBatchA
import Derived.Test.YtlefnohibjcekaaAvRow
set_option linter.unusedSimpArgs false
set_option linter.unusedVariables false
set_option maxRecDepth 100000
namespace Go.Proofs.Ytlefnohibjcekaa.Batch
open Go Go.Av Go.Proofs Go.Proofs.Ytlefnohibjcekaa.C

theorem laid : laidOutB Try.prog = true := by kernel_rfl
theorem rowed : mapsRowed Try.prog = true := by kernel_rfl
theorem full : ∀ t e, t < Try.prog.types.size → Try.prog.underlying t = some (.slice e) → 0 < Try.prog.cellsOf e := slices_full_of Try.prog (by kernel_rfl)
theorem own : ownKnob Try.prog.godebug = none := by kernel_rfl

theorem bulk {H : Type} : Bulk (H := H) Rows.uptoBulk Rows.uptoBulkAll :=
  ⟨fun l => by simp [Rows.uptoBulk], fun k n => by simp [Rows.uptoBulk], fun b => by simp [Rows.uptoBulk], by simp [Rows.uptoBulk], fun a b => by simp [Rows.uptoBulk], fun a => by simp [Rows.uptoBulk], by simp [Rows.uptoBulkAll], fun d l => by simp [Rows.uptoBulkAll]⟩

theorem all_strs {k : Nat} {t : TypeId} (ht : Try.prog.underlying t = some .string) (ha : isAggT Try.prog t = false) : ∀ {ys : List AV}, (∀ y ∈ ys, ∃ cs, Fits Try.prog (k + 1) t cs ∧ y = wrapE Try.prog t cs) → ∃ l : List (List UInt8), ys = strs l ∧ ∀ s ∈ l, s.length ≤ reachBytes
  | [], _ => ⟨[], rfl, by simp⟩
  | y :: ys, h => by
    obtain ⟨l, rfl, hl⟩ := all_strs ht ha (ys := ys) (fun z hz => h z (by simp [hz]))
    obtain ⟨cs, h1, h2⟩ := h y (by simp)
    unfold Fits at h1
    rw [ht] at h1
    obtain ⟨s, rfl, hs⟩ := h1
    refine ⟨s :: l, by simp [strs, h2, wrapE, ha], fun z hz => ?_⟩
    rcases List.mem_cons.1 hz with rfl | hz
    · exact hs
    · exact hl z hz
theorem all_ints {k : Nat} {t : TypeId} (ht : Try.prog.underlying t = some (.int .i64)) (ha : isAggT Try.prog t = false) : ∀ {ys : List AV}, (∀ y ∈ ys, ∃ cs, Fits Try.prog (k + 1) t cs ∧ y = wrapE Try.prog t cs) → ∃ l : List Int, ys = ints l ∧ ∀ n ∈ l, (Lit.int .i64 n).wf = true
  | [], _ => ⟨[], rfl, by simp⟩
  | y :: ys, h => by
    obtain ⟨l, rfl, hl⟩ := all_ints ht ha (ys := ys) (fun z hz => h z (by simp [hz]))
    obtain ⟨cs, h1, h2⟩ := h y (by simp)
    unfold Fits at h1
    rw [ht] at h1
    obtain ⟨s, rfl, hs⟩ := h1
    refine ⟨s :: l, by simp [ints, h2, wrapE, ha], fun z hz => ?_⟩
    rcases List.mem_cons.1 hz with rfl | hz
    · exact hs
    · exact hl z hz
theorem open_str {a : AV} (h : ArgFits Try.prog 5 9 a) : ∃ l, a = .str l ∧ l.length ≤ reachBytes := by
  obtain ⟨cs, h, rfl⟩ := h
  unfold Fits at h
  rw [Try.underlying9] at h
  obtain ⟨l, rfl, hl⟩ := h
  refine ⟨l, ?_, hl⟩
  unfold wrapE; rw [if_neg (by rw [show isAggT Try.prog 9 = false by kernel_rfl]; simp)]; rfl
theorem open_i {a : AV} (h : ArgFits Try.prog 5 3 a) : ∃ n, a = .int .i64 n ∧ (Lit.int .i64 n).wf = true := by
  obtain ⟨cs, h, rfl⟩ := h
  unfold Fits at h
  rw [Try.underlying3] at h
  obtain ⟨l, rfl, hl⟩ := h
  refine ⟨l, ?_, hl⟩
  unfold wrapE; rw [if_neg (by rw [show isAggT Try.prog 3 = false by kernel_rfl]; simp)]; rfl

theorem all_of {α : Type} {t : TypeId} {k : Nat} {enc : α → AV} {Q : α → Prop} (h1 : ∀ cs, Fits Try.prog k t cs → ∃ x, wrapE Try.prog t cs = enc x ∧ Q x) : ∀ {ys : List AV}, (∀ y ∈ ys, ∃ cs, Fits Try.prog k t cs ∧ y = wrapE Try.prog t cs) → ∃ l : List α, ys = l.map enc ∧ ∀ x ∈ l, Q x
  | [], _ => ⟨[], rfl, by simp⟩
  | y :: ys, h => by
    obtain ⟨l, rfl, hl⟩ := all_of h1 (ys := ys) (fun z hz => h z (by simp [hz]))
    obtain ⟨cs, g1, g2⟩ := h y (by simp)
    obtain ⟨x, e, q⟩ := h1 cs g1
    refine ⟨x :: l, by simp [g2, e], fun z hz => ?_⟩
    rcases List.mem_cons.1 hz with rfl | hz
    · exact q
    · exact hl z hz

def PrOk (p : Pr) : Prop := p.k.length ≤ reachBytes ∧ p.v.length ≤ reachBytes
def ChOk (c : Ch) : Prop := c.k.length ≤ reachBytes ∧ c.v.length ≤ reachBytes

theorem pair_fits {k : Nat} {cs : List AV} (h : Fits Try.prog (k + 2) 103 cs) : ∃ p : Pr, wrapE Try.prog 103 cs = encPr p ∧ PrOk p := by
  have hw : ∀ cs, wrapE Try.prog 103 cs = .agg cs := fun cs => by
    unfold wrapE; rw [if_pos (by kernel_rfl)]
  rw [hw]
  unfold Fits at h
  rw [Try.underlying103] at h
  obtain ⟨xss, rfl, h⟩ := h
  cases h with | cons h0 h => cases h with | cons h1 h =>
  cases h
  unfold Fits at h0 h1
  simp only at h0 h1
  rw [Try.underlying9] at h0 h1
  obtain ⟨s, rfl, hs⟩ := h0
  obtain ⟨v, rfl, hv⟩ := h1
  exact ⟨⟨s, v⟩, rfl, hs, hv⟩

theorem change_fits {k : Nat} {cs : List AV} (h : Fits Try.prog (k + 2) 87 cs) : ∃ p : Ch, wrapE Try.prog 87 cs = encCh p ∧ ChOk p := by
  have hw : ∀ cs, wrapE Try.prog 87 cs = .agg cs := fun cs => by
    unfold wrapE; rw [if_pos (by kernel_rfl)]
  rw [hw]
  unfold Fits at h
  rw [Try.underlying87] at h
  obtain ⟨xss, rfl, h⟩ := h
  cases h with | cons h0 h => cases h with | cons h1 h => cases h with | cons h2 h =>
  cases h
  unfold Fits at h0 h1 h2
  simp only at h0 h1 h2
  rw [Try.underlying9] at h0 h1
  rw [Try.underlying4] at h2
  obtain ⟨s, rfl, hs⟩ := h0
  obtain ⟨v, rfl, hv⟩ := h1
  obtain ⟨b, rfl⟩ := h2
  exact ⟨⟨s, v, b⟩, rfl, hs, hv⟩

theorem open_prs {a : AV} (h : ArgFits Try.prog 5 78 a) : ∃ l : List Pr, a = .sl 2 (prs l) .any ∧ (∀ p ∈ l, PrOk p) ∧ l.length ≤ reachBytes := by
  obtain ⟨cs, h, rfl⟩ := h
  unfold Fits at h
  rw [Try.underlying78] at h
  obtain ⟨ys, rfl, hl, he⟩ := h
  obtain ⟨l, rfl, hq⟩ := all_of (fun cs h => pair_fits h) he
  have b1 : Try.prog.bytesOf 103 = 32 := by kernel_rfl
  have c1 : Try.prog.cellsOf 103 = 2 := by kernel_rfl
  rw [b1, List.length_map] at hl
  refine ⟨l, ?_, hq, by omega⟩
  rw [c1]
  unfold wrapE; rw [if_neg (by rw [show isAggT Try.prog 78 = false by kernel_rfl]; simp)]; rfl
end Go.Proofs.Ytlefnohibjcekaa.Batch
