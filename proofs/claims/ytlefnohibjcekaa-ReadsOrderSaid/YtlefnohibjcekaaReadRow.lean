/- Chapter 16: arguments that read as data are reads, spans, keys; the program's closed facts. -/
import Derived.Test.YtlefnohibjcekaaReadA
import Derived.Test.YtlefnohibjcekaaAvRow
set_option linter.unusedSimpArgs false
set_option linter.unusedVariables false
set_option maxRecDepth 100000
namespace Go.Proofs.Ytlefnohibjcekaa.Reads
open Go Go.Av Go.Proofs Go.Proofs.Ytlefnohibjcekaa.C

theorem laid : laidOutB Try.prog = true := by kernel_rfl
theorem rowed : mapsRowed Try.prog = true := by kernel_rfl
theorem full : ∀ t e, t < Try.prog.types.size → Try.prog.underlying t = some (.slice e) → 0 < Try.prog.cellsOf e := slices_full_of Try.prog (by kernel_rfl)
theorem own : ownKnob Try.prog.godebug = none := by kernel_rfl

theorem bulk {H : Type} : Bulk (H := H) Rows.uptoBulk Rows.uptoBulkAll :=
  ⟨fun l => by simp [Rows.uptoBulk], fun k n => by simp [Rows.uptoBulk], fun b => by simp [Rows.uptoBulk], by simp [Rows.uptoBulk], fun a b => by simp [Rows.uptoBulk], fun a => by simp [Rows.uptoBulk], by simp [Rows.uptoBulkAll], fun d l => by simp [Rows.uptoBulkAll]⟩

theorem all_strs {k : Nat} {t : TypeId} (ht : Try.prog.underlying t = some .string) (ha : isAggT Try.prog t = false) : ∀ {ys : List AV}, (∀ y ∈ ys, ∃ cs, Fits Try.prog (k + 1) t cs ∧ y = wrapE Try.prog t cs) → ∃ l : List (List UInt8), ys = strs l ∧ ∀ s ∈ l, s.length ≤ reachBytes
  | [], _ => ⟨[], rfl, by simp⟩
  | y :: ys, h => by
    obtain ⟨l, rfl, hl⟩ := all_strs ht ha (ys := ys) (fun z hz => h z (by simp [hz]))
    obtain ⟨cs, h1, h2⟩ := h y (by simp)
    unfold Fits at h1
    rw [ht] at h1
    obtain ⟨s, rfl, hs⟩ := h1
    refine ⟨s :: l, by simp [strs, h2, wrapE, ha], fun z hz => ?_⟩
    rcases List.mem_cons.1 hz with rfl | hz
    · exact hs
    · exact hl z hz
theorem all_ints {k : Nat} {t : TypeId} (ht : Try.prog.underlying t = some (.int .i64)) (ha : isAggT Try.prog t = false) : ∀ {ys : List AV}, (∀ y ∈ ys, ∃ cs, Fits Try.prog (k + 1) t cs ∧ y = wrapE Try.prog t cs) → ∃ l : List Int, ys = ints l ∧ ∀ n ∈ l, (Lit.int .i64 n).wf = true
  | [], _ => ⟨[], rfl, by simp⟩
  | y :: ys, h => by
    obtain ⟨l, rfl, hl⟩ := all_ints ht ha (ys := ys) (fun z hz => h z (by simp [hz]))
    obtain ⟨cs, h1, h2⟩ := h y (by simp)
    unfold Fits at h1
    rw [ht] at h1
    obtain ⟨s, rfl, hs⟩ := h1
    refine ⟨s :: l, by simp [ints, h2, wrapE, ha], fun z hz => ?_⟩
    rcases List.mem_cons.1 hz with rfl | hz
    · exact hs
    · exact hl z hz
theorem open_str {a : AV} (h : ArgFits Try.prog 5 9 a) : ∃ l, a = .str l ∧ l.length ≤ reachBytes := by
  obtain ⟨cs, h, rfl⟩ := h
  unfold Fits at h
  rw [Try.underlying9] at h
  obtain ⟨l, rfl, hl⟩ := h
  refine ⟨l, ?_, hl⟩
  unfold wrapE; rw [if_neg (by rw [show isAggT Try.prog 9 = false by kernel_rfl]; simp)]; rfl
theorem open_i {a : AV} (h : ArgFits Try.prog 5 3 a) : ∃ n, a = .int .i64 n ∧ (Lit.int .i64 n).wf = true := by
  obtain ⟨cs, h, rfl⟩ := h
  unfold Fits at h
  rw [Try.underlying3] at h
  obtain ⟨l, rfl, hl⟩ := h
  refine ⟨l, ?_, hl⟩
  unfold wrapE; rw [if_neg (by rw [show isAggT Try.prog 3 = false by kernel_rfl]; simp)]; rfl

theorem all_of {α : Type} {t : TypeId} {k : Nat} {enc : α → AV} {Q : α → Prop} (h1 : ∀ cs, Fits Try.prog k t cs → ∃ x, wrapE Try.prog t cs = enc x ∧ Q x) : ∀ {ys : List AV}, (∀ y ∈ ys, ∃ cs, Fits Try.prog k t cs ∧ y = wrapE Try.prog t cs) → ∃ l : List α, ys = l.map enc ∧ ∀ x ∈ l, Q x
  | [], _ => ⟨[], rfl, by simp⟩
  | y :: ys, h => by
    obtain ⟨l, rfl, hl⟩ := all_of h1 (ys := ys) (fun z hz => h z (by simp [hz]))
    obtain ⟨cs, g1, g2⟩ := h y (by simp)
    obtain ⟨x, e, q⟩ := h1 cs g1
    refine ⟨x :: l, by simp [g2, e], fun z hz => ?_⟩
    rcases List.mem_cons.1 hz with rfl | hz
    · exact q
    · exact hl z hz

def SpOk (p : Sp) : Prop := p.f.length ≤ reachBytes ∧ p.t.length ≤ reachBytes

theorem span_fits {k : Nat} {cs : List AV} (h : Fits Try.prog (k + 2) 40 cs) : ∃ p : Sp, wrapE Try.prog 40 cs = encSp p ∧ SpOk p := by
  have hw : ∀ cs, wrapE Try.prog 40 cs = .agg cs := fun cs => by
    unfold wrapE; rw [if_pos (by kernel_rfl)]
  rw [hw]
  unfold Fits at h
  rw [Try.underlying40] at h
  obtain ⟨xss, rfl, h⟩ := h
  cases h with | cons h0 h => cases h with | cons h1 h =>
  cases h
  unfold Fits at h0 h1
  simp only at h0 h1
  rw [Try.underlying9] at h0 h1
  obtain ⟨s, rfl, hs⟩ := h0
  obtain ⟨v, rfl, hv⟩ := h1
  exact ⟨⟨s, v⟩, rfl, hs, hv⟩

theorem open_span {a : AV} (h : ArgFits Try.prog 5 40 a) : ∃ p : Sp, a = encSp p ∧ SpOk p := by
  obtain ⟨cs, h, rfl⟩ := h
  exact span_fits h

theorem open_reads {a : AV} (h : ArgFits Try.prog 5 25 a) : ∃ (k : List Bs) (l : List Sp), a = encR k l ∧ (∀ s ∈ k, s.length ≤ reachBytes) ∧ (∀ s ∈ l, SpOk s) := by
  obtain ⟨cs, h, rfl⟩ := h
  have hw : ∀ cs, wrapE Try.prog 25 cs = .agg cs := fun cs => by
    unfold wrapE; rw [if_pos (by kernel_rfl)]
  rw [hw]
  unfold Fits at h
  rw [Try.underlying25] at h
  obtain ⟨xss, rfl, h⟩ := h
  cases h with | cons h0 h => cases h with | cons h1 h =>
  cases h
  unfold Fits at h0 h1
  simp only at h0 h1
  rw [Try.underlying22] at h0
  rw [Try.underlying23] at h1
  obtain ⟨xs, rfl, hlx, hx⟩ := h0
  obtain ⟨ys, rfl, hl, he⟩ := h1
  obtain ⟨k, rfl, hk⟩ := all_strs Try.underlying9 (by kernel_rfl) hx
  obtain ⟨l, rfl, hq⟩ := all_of (fun cs h => span_fits h) he
  have c1 : Try.prog.cellsOf 40 = 2 := by kernel_rfl
  have c2 : Try.prog.cellsOf 9 = 1 := by kernel_rfl
  refine ⟨k, l, ?_, hk, hq⟩
  simp [encR, sps, c1, c2]
end Go.Proofs.Ytlefnohibjcekaa.Reads
