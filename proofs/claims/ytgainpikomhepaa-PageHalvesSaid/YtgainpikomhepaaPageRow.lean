/- Chapter 08: arguments that read as data are nodes; the program's closed facts. -/
import Derived.Test.YtgainpikomhepaaPageA
import Derived.Test.YtgainpikomhepaaAvRow
set_option linter.unusedSimpArgs false
set_option linter.unusedVariables false
set_option maxRecDepth 100000
namespace Go.Proofs.Ytgainpikomhepaa.Page
open Go Go.Av Go.Proofs Go.Proofs.Ytgainpikomhepaa.C

theorem laid : laidOutB Try.prog = true := by kernel_rfl
theorem rowed : mapsRowed Try.prog = true := by kernel_rfl
theorem full : ∀ t e, t < Try.prog.types.size → Try.prog.underlying t = some (.slice e) → 0 < Try.prog.cellsOf e := slices_full_of Try.prog (by kernel_rfl)
theorem own : ownKnob Try.prog.godebug = none := by kernel_rfl

theorem bulk {H : Type} : Bulk (H := H) Rows.uptoBulk Rows.uptoBulkAll :=
  ⟨fun l => by simp [Rows.uptoBulk], fun k n => by simp [Rows.uptoBulk], fun b => by simp [Rows.uptoBulk], by simp [Rows.uptoBulk], fun a b => by simp [Rows.uptoBulk], fun a => by simp [Rows.uptoBulk], by simp [Rows.uptoBulkAll], fun d l => by simp [Rows.uptoBulkAll]⟩

theorem all_strs {k : Nat} {t : TypeId} (ht : Try.prog.underlying t = some .string) (ha : isAggT Try.prog t = false) : ∀ {ys : List AV}, (∀ y ∈ ys, ∃ cs, Fits Try.prog (k + 1) t cs ∧ y = wrapE Try.prog t cs) → ∃ l : List (List UInt8), ys = strs l ∧ ∀ s ∈ l, s.length ≤ reachBytes
  | [], _ => ⟨[], rfl, by simp⟩
  | y :: ys, h => by
    obtain ⟨l, rfl, hl⟩ := all_strs ht ha (ys := ys) (fun z hz => h z (by simp [hz]))
    obtain ⟨cs, h1, h2⟩ := h y (by simp)
    unfold Fits at h1
    rw [ht] at h1
    obtain ⟨s, rfl, hs⟩ := h1
    refine ⟨s :: l, by simp [strs, h2, wrapE, ha], fun z hz => ?_⟩
    rcases List.mem_cons.1 hz with rfl | hz
    · exact hs
    · exact hl z hz
theorem all_ints {k : Nat} {t : TypeId} (ht : Try.prog.underlying t = some (.int .i64)) (ha : isAggT Try.prog t = false) : ∀ {ys : List AV}, (∀ y ∈ ys, ∃ cs, Fits Try.prog (k + 1) t cs ∧ y = wrapE Try.prog t cs) → ∃ l : List Int, ys = ints l ∧ ∀ n ∈ l, (Lit.int .i64 n).wf = true
  | [], _ => ⟨[], rfl, by simp⟩
  | y :: ys, h => by
    obtain ⟨l, rfl, hl⟩ := all_ints ht ha (ys := ys) (fun z hz => h z (by simp [hz]))
    obtain ⟨cs, h1, h2⟩ := h y (by simp)
    unfold Fits at h1
    rw [ht] at h1
    obtain ⟨s, rfl, hs⟩ := h1
    refine ⟨s :: l, by simp [ints, h2, wrapE, ha], fun z hz => ?_⟩
    rcases List.mem_cons.1 hz with rfl | hz
    · exact hs
    · exact hl z hz
theorem all_u8s {k : Nat} {t : TypeId} (ht : Try.prog.underlying t = some (.int .u8)) (ha : isAggT Try.prog t = false) : ∀ {ys : List AV}, (∀ y ∈ ys, ∃ cs, Fits Try.prog (k + 1) t cs ∧ y = wrapE Try.prog t cs) → ∃ l : List UInt8, ys = bytesAV l
  | [], _ => ⟨[], rfl⟩
  | y :: ys, h => by
    obtain ⟨l, rfl⟩ := all_u8s ht ha (ys := ys) (fun z hz => h z (by simp [hz]))
    obtain ⟨cs, h1, h2⟩ := h y (by simp)
    unfold Fits at h1
    rw [ht] at h1
    obtain ⟨s, rfl, hs⟩ := h1
    have hb : 0 ≤ s ∧ s ≤ 255 := by simpa [Lit.wf, IntKind.min, IntKind.max, IntKind.signed, IntKind.bits] using hs
    refine ⟨UInt8.ofNat s.toNat :: l, ?_⟩
    simp only [bytesAV, List.map_cons, h2, wrapE, ha, Bool.false_eq_true, if_false, List.headD_cons, byte]
    congr 2
    have : (UInt8.ofNat s.toNat).toNat = s.toNat := by simp [UInt8.toNat_ofNat]; omega
    rw [this]; omega
end Go.Proofs.Ytgainpikomhepaa.Page
