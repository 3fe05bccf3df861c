/- Parts of a proof: a layer of abstract values over the model, the functions' walks, plain laws. -/
import Derived.Deep.CondSized
import Derived.Defers
import Derived.IntWalk
import Derived.KernelRfl
import Derived.Laws.Append
import Derived.Laws.AppendOwn
import Derived.Laws.BytesArg
import Derived.Laws.ComplexArith
import Derived.Laws.Cover3
import Derived.Laws.Entries
import Derived.Laws.IdiomCopy
import Derived.Laws.IdiomStrings
import Derived.Laws.Pointers
import Derived.Laws.Small
import Derived.Laws.Strings
import Derived.Laws.StructEq
import Derived.MapKept
import Derived.OpenShut
import Derived.Orders
import Derived.OrdersIn
import Derived.ProofKit
import Derived.RangeFuncRecord
import Derived.RangeFuncSeq
import Derived.ReadAgain
import Derived.Recover
import Derived.Scope
import Derived.Shelf.Slices.Cells
import Derived.Shelf.Slices.Clone
import Derived.Shelf.Slices.Delete
import Derived.Shelf.Spec.SlicesInsertGrow
import Derived.SizedLaws
import Derived.Tactics
import Derived.Tactics2
import Derived.Test.YtehhdhadmapplaaGreatProg
import Derived.Test.YtehhdhadmapplaaGreatRows
import Derived.WalkSmall
import Derived.Test.YtehhdhadmapplaaGreatENilA
section
set_option linter.unusedVariables false
set_option linter.unusedSimpArgs false
namespace Go.Av
section
variable {P : Program} {t : Tm} {o : Oper} {h h' : H} {x : AV} {en : Ent}
theorem isU8_eq {e : TypeId} (h : isU8 P e = true) : P.underlying e = some (.int .u8) := by
  unfold isU8 at h
  split at h
  · assumption
  · cases h
theorem opdO_none {mx : Option Operand} {m : Option Opd} (h : opdO P mx = some m) (hm : m.isNone = true) : mx = none ∧ m = none := by
  cases m with
  | some _ => cases hm
  | none =>
    cases mx with
    | none => exact ⟨rfl, rfl⟩
    | some q => simp [opdO] at h
theorem aop_loc {op : AOp} (hc : cOp P o = some op) (hx : aop (ev t) h op = some (x, h', en)) : Loc P o t h x h' en := by
  unfold cOp at hc
  split at hc
  · -- move
    simp only [Option.map_eq_some_iff] at hc
    obtain ⟨y, hy, rfl⟩ := hc
    simp only [aop, Option.some.injEq, Prod.mk.injEq] at hx
    obtain ⟨rfl, rfl, rfl⟩ := hx
    exact Loc.plain fun G w a ht => mov_plain (.inl ‹_›) hy ht
  · -- assign
    simp only [Option.map_eq_some_iff] at hc
    obtain ⟨y, hy, rfl⟩ := hc
    simp only [aop, Option.some.injEq, Prod.mk.injEq] at hx
    obtain ⟨rfl, rfl, rfl⟩ := hx
    exact Loc.plain fun G w a ht => mov_plain (.inr ‹_›) hy ht
  · -- pick
    split at hc <;> cases hc
    simp only [aop] at hx
    split at hx <;> cases hx
    exact Loc.plain fun G w a ht => pick_plain ‹_› ‹_› ‹_› ‹_› ht ‹_›
  · -- alloc
    split at hc
    · simp only [Option.map_eq_some_iff] at hc
      obtain ⟨b, hb, rfl⟩ := hc
      simp only [aop] at hx
      split at hx <;> cases hx
      exact alloc_loc ‹_› ‹_› hb ‹_›
    · cases hc
  · -- box
    simp only [Option.map_eq_some_iff] at hc
    obtain ⟨y, hy, rfl⟩ := hc
    simp only [aop] at hx
    split at hx
    · split at hx <;> cases hx
      exact box_loc ‹_› hy (.inl ‹_›) ‹_›
    · split at hx
      · rename_i hcell
        cases hx
        exact box_loc ‹_› hy (.inr ⟨hcell, rfl⟩) (by simp [hcell])
      · cases hx
  · -- build
    split at hc
    · split at hc
      · split at hc <;> cases hc
        simp only [aop, Option.map_eq_some_iff, Prod.mk.injEq] at hx
        obtain ⟨cs, hcs, rfl, rfl, rfl⟩ := hx
        exact Loc.plain fun G w a ht => build_loc ‹_› ‹_› ‹_› ‹_› ‹_› ‹_› hcs ht
      · cases hc
    · cases hc
  · -- buildSlice
    split at hc
    · rename_i e hu
      split at hc
      · rename_i hcond
        obtain ⟨c1, c2, c3, c4⟩ := hcond
        simp only [Option.map_eq_some_iff] at hc
        obtain ⟨ys, hys, rfl⟩ := hc
        simp only [aop] at hx
        split at hx
        · rename_i hp
          obtain ⟨p1, p2⟩ := hp
          cases hx
          obtain ⟨z, hz1, hz2⟩ : ∃ z, (P.info? e).bind (·.zero) = some z ∧ z.cells.size = P.cellsOf e := by
            cases hz : (P.info? e).bind (·.zero) with
            | none => rw [hz] at c4; simp at c4
            | some z => rw [hz] at c4; exact ⟨z, rfl, by simpa using c4⟩
          refine buildSl_loc ‹_› ‹_› c2 c1 c3 hz1 hz2 hys (fun y hy => ?_) p2
          rw [List.all_eq_true] at p1
          simpa using p1 y hy
        · cases hx
      · cases hc
    · cases hc
  · -- load
    split at hc
    · rename_i hcond
      simp only [Option.map_eq_some_iff] at hc
      obtain ⟨y, hy, rfl⟩ := hc
      simp only [aop] at hx
      split at hx
      · rename_i cs hcs
        simp only [Option.map_eq_some_iff, Prod.mk.injEq] at hx
        obtain ⟨v, hv, rfl, rfl, rfl⟩ := hx
        refine Loc.plain fun G w a ht => ?_
        have r := opd_rel hy ht
        rw [hcs] at r
        simp only [VRel] at r
        obtain ⟨B, off, vs, e1, e2, e3⟩ := r
        exact load_plain ‹_› hcond.1 hcond.2 hy ht e1 e2 (fun j v hj => (e3 j v hj).1) hv
      · split at hx
        · simp only [Option.map_eq_some_iff, Prod.mk.injEq] at hx
          obtain ⟨v, hv, rfl, rfl, rfl⟩ := hx
          exact load_loc ‹_› hcond.1 hcond.2 hy ‹_› ‹_› hv
        · cases hx
      · cases hx
    · cases hc
  · -- store
    split at hc
    · rename_i hcond
      split at hc <;> cases hc
      simp only [aop] at hx
      split at hx
      · split at hx
        · split at hx
          · rename_i hq
            obtain ⟨q1, q2, q3⟩ := hq
            cases hx
            exact store_loc ‹_› hcond.1 hcond.2 ‹_› ‹_› ‹_› ‹_› q1 q2 q3
          · cases hx
        · cases hx
      · cases hx
    · cases hc
  · -- binOp
    split at hc
    · split at hc
      · split at hc <;> cases hc <;>
        · simp only [aop, Option.map_eq_some_iff, Prod.mk.injEq] at hx
          obtain ⟨v, hv, rfl, rfl, rfl⟩ := hx
          exact Loc.plain fun G w a ht => eqB_plain ‹_› ‹_› (by simp) ‹_› ‹_› ht hv
      · split at hc
        · split at hc <;> cases hc <;>
          · simp only [aop] at hx
            split at hx
            · split at hx
              · simp only [Option.some.injEq, Prod.mk.injEq] at hx
                obtain ⟨rfl, rfl, rfl⟩ := hx
                first
                  | exact eqQ_loc (neg := false) ‹_› ‹_› ‹_› (.inl ⟨rfl, rfl⟩) ‹_› ‹_› ‹_› ‹_› ‹_› ‹_›
                  | exact eqQ_loc (neg := true) ‹_› ‹_› ‹_› (.inr ⟨rfl, rfl⟩) ‹_› ‹_› ‹_› ‹_› ‹_› ‹_›
              · cases hx
            · simp only [Option.some.injEq, Prod.mk.injEq] at hx
              obtain ⟨rfl, rfl, rfl⟩ := hx
              first
                | exact Loc.plain fun G w a ht => eqP_plain (neg := false) ‹_› ‹_› (.inl ⟨rfl, rfl⟩) ‹_› ‹_› ht (by simp only [eqP, *]; try rfl)
                | exact Loc.plain fun G w a ht => eqP_plain (neg := true) ‹_› ‹_› (.inr ⟨rfl, rfl⟩) ‹_› ‹_› ht (by simp only [eqP, *]; try rfl)
            · simp only [Option.some.injEq, Prod.mk.injEq] at hx
              obtain ⟨rfl, rfl, rfl⟩ := hx
              first
                | exact Loc.plain fun G w a ht => eqP_plain (neg := false) ‹_› ‹_› (.inl ⟨rfl, rfl⟩) ‹_› ‹_› ht (by simp only [eqP, *]; try rfl)
                | exact Loc.plain fun G w a ht => eqP_plain (neg := true) ‹_› ‹_› (.inr ⟨rfl, rfl⟩) ‹_› ‹_› ht (by simp only [eqP, *]; try rfl)
            · cases hx
        · split at hc <;> cases hc <;>
          · simp only [aop, Option.map_eq_some_iff, Prod.mk.injEq] at hx
            obtain ⟨v, hv, rfl, rfl, rfl⟩ := hx
            exact Loc.plain fun G w a ht => eqP_plain ‹_› ‹_› (by simp) ‹_› ‹_› ht hv
      · split at hc
        · split at hc
          · rename_i hcond
            split at hc <;> cases hc <;>
            · simp only [aop, Option.map_eq_some_iff, Prod.mk.injEq] at hx
              obtain ⟨v, hv, rfl, rfl, rfl⟩ := hx
              exact Loc.plain fun G w a ht => eqA_plain ‹_› ‹_› ‹_› hcond.1 hcond.2 (by simp) ‹_› ‹_› ht hv
          · cases hc
        · cases hc
      · split at hc <;> cases hc <;>
        · simp only [aop, Option.map_eq_some_iff, Prod.mk.injEq] at hx
          obtain ⟨v, hv, rfl, rfl, rfl⟩ := hx
          exact Loc.plain fun G w a ht => eqM_plain ‹_› ‹_› rfl (by simp) ‹_› ht hv
      · split at hc <;> cases hc <;>
        · simp only [aop, Option.map_eq_some_iff, Prod.mk.injEq] at hx
          obtain ⟨v, hv, rfl, rfl, rfl⟩ := hx
          exact Loc.plain fun G w a ht => eqN_plain ‹_› ‹_› rfl (by simp) ‹_› ht hv
      · cases hc
      · cases hc
        simp only [aop, Option.map_eq_some_iff, Prod.mk.injEq] at hx
        obtain ⟨v, hv, rfl, rfl, rfl⟩ := hx
        exact Loc.plain fun G w a ht => bin_plain ‹_› ‹_› ‹_› ht hv
    · cases hc
  · -- unOp
    simp only [Option.map_eq_some_iff] at hc
    obtain ⟨y, hy, rfl⟩ := hc
    simp only [aop, Option.map_eq_some_iff, Prod.mk.injEq] at hx
    obtain ⟨v, hv, rfl, rfl, rfl⟩ := hx
    exact Loc.plain fun G w a ht => un_plain ‹_› hy ht hv
  · -- convert
    split at hc
    · cases hc
      simp only [aop] at hx
      split at hx
      · rename_i e1 e2
        cases e1
        cases hx
        exact Loc.plain fun G w a ht => conv_int_plain ‹_› ‹_› ‹_› ‹_› e2 ht
      · rename_i e1 e2; cases e1
      · rename_i e1 e2; cases e1
      · rename_i e1 e2; cases e1
      · rename_i e1 e2; cases e1
      · cases hx
    · split at hc <;> cases hc
      rename_i hcond
      have he := isU8_eq hcond.1
      simp only [aop] at hx
      split at hx
      · rename_i e1 e2; cases e1
      · rename_i e1 e2
        split at hx
        · simp only [Option.map_eq_some_iff, Prod.mk.injEq] at hx
          obtain ⟨v, hv, rfl, rfl, rfl⟩ := hx
          exact Loc.plain fun G w a ht => b2s_plain ‹_› ‹_› he ‹_› ‹_› e2 ‹_› hv ht
        · cases hx
      · rename_i e1 e2; cases e1
      · rename_i e1 e2; cases e1
      · rename_i e1 e2; cases e1
      · cases hx
    · split at hc <;> cases hc
      rename_i hcond
      have he := isU8_eq hcond.1
      simp only [aop] at hx
      split at hx
      · rename_i e1 e2; cases e1
      · rename_i e1 e2; cases e1
      · rename_i e1 e2
        cases hx
        exact s2b_loc ‹_› ‹_› ‹_› he ‹_› e2
      · rename_i e1 e2
        cases hx
        exact s2b_locS ‹_› ‹_› ‹_› he ‹_› e2
      · rename_i e1 e2; cases e1
      · cases hx
    · cases hc
      simp only [aop] at hx
      split at hx
      · rename_i e1 e2; cases e1
      · rename_i e1 e2; cases e1
      · rename_i e1 e2; cases e1
      · rename_i e1 e2; cases e1
      · rename_i e1 e2
        cases hx
        exact Loc.plain fun G w a ht => conv_str_plain ‹_› ‹_› ‹_› ‹_› e2 ht
      · cases hx
    · split at hc <;> cases hc
      simp [aop] at hx
    · cases hc
  · -- makeFunc
    split at hc <;> cases hc
    simp only [aop, Option.some.injEq, Prod.mk.injEq] at hx
    obtain ⟨rfl, rfl, rfl⟩ := hx
    exact Loc.plain fun G w a ht => mkfn_plain ‹_› ‹_› ‹_› ht
  · -- makeSlice
    split at hc
    · split at hc
      · split at hc
        · split at hc
          · split at hc <;> cases hc
            rename_i hcond
            simp only [aop] at hx
            split at hx
            · split at hx
              · rename_i hq
                obtain ⟨q1, q2, q3, q4, q5⟩ := hq
                cases hx
                exact mksl_loc ‹_› ‹_› ‹_› ‹_› hcond.1 hcond.2 ‹_› ‹_› ‹_› ‹_› ‹_› q1 q2 q3 q4 q5
              · cases hx
            · cases hx
          · cases hc
        · cases hc
      · cases hc
    · cases hc
  · -- slice
    split at hc
    · split at hc <;> cases hc
      rename_i hm
      simp only [aop, Option.map_eq_some_iff, Prod.mk.injEq] at hx
      obtain ⟨v, hv, rfl, rfl, rfl⟩ := hx
      obtain ⟨hmx0, rfl⟩ := opdO_none ‹_› hm
      exact Loc.plain fun G w a ht => slc_plain (e := 0) ‹_› (.inl ⟨rfl, ‹_›, hmx0, rfl⟩) ‹_› ‹_› ‹_› ‹_› ht (fun h => absurd rfl h) hv
    · split at hc <;> cases hc
      rename_i hcond
      simp only [aop, Option.map_eq_some_iff, Prod.mk.injEq] at hx
      obtain ⟨v, hv, rfl, rfl, rfl⟩ := hx
      refine Loc.plain fun G w a ht => slc_plain (e := ‹_›) ‹_› (.inr ⟨rfl, ‹_›, hcond.1, rfl⟩) ‹_› ‹_› ‹_› ‹_› ht ?_ hv
      intro hm hh
      rcases hcond.2 with h | h
      · exact hm (by simpa using h)
      · rw [hh] at h; cases h
    · cases hc
  · -- fieldAddr
    split at hc
    · split at hc
      · split at hc <;> cases hc
        rename_i hcond
        simp only [aop] at hx
        split at hx
        · cases hx
          exact Loc.plain fun G w a ht => faddr_plain ‹_› ‹_› ‹_› hcond.1 hcond.2 ‹_› ht (.inl ⟨_, ‹_›, rfl⟩)
        · cases hx
          exact Loc.plain fun G w a ht => faddr_plain ‹_› ‹_› ‹_› hcond.1 hcond.2 ‹_› ht (.inr ⟨_, _, ‹_›, rfl⟩)
        · cases hx
      · cases hc
    · cases hc
  · -- field
    split at hc
    · split at hc
      · split at hc <;> cases hc
        rename_i hcond
        simp only [aop] at hx
        split at hx
        · simp only [Option.map_eq_some_iff, Prod.mk.injEq] at hx
          obtain ⟨v, hv, rfl, rfl, rfl⟩ := hx
          exact Loc.plain fun G w a ht => fld_plain ‹_› ‹_› ‹_› hcond.1 hcond.2 ‹_› ht ‹_› hv
        · cases hx
      · cases hc
    · cases hc
  · -- indexAddr
    split at hc
    · split at hc <;> cases hc
      rename_i hcond
      simp only [aop] at hx
      split at hx
      · split at hx
        · rename_i hq
          obtain ⟨rfl, q2, q3⟩ := hq
          split at hx
          · rename_i hsh
            cases hx
            refine Loc.plain fun G w a ht => iaddr_plain ‹_› ‹_› hcond ‹_› ‹_› ht ‹_› q2 (.inl ⟨_, _, ‹_›, q3, rfl, ?_⟩)
            unfold shaped at hsh
            generalize List.getD _ _ _ = X at hsh
            cases hcx : isCell X
            · rw [hcx, Bool.false_or] at hsh
              right
              cases X <;> simp only [Bool.false_eq_true] at hsh
              exact ⟨_, rfl⟩
            · exact .inl rfl
          · cases hx
        · cases hx
      · split at hx
        · rename_i hq
          cases hx
          obtain ⟨rfl, q2, q3⟩ := hq
          exact Loc.plain fun G w a ht => iaddr_plain ‹_› ‹_› hcond ‹_› ‹_› ht ‹_› q2 (.inr ⟨_, _, _, _, ‹_›, q3, rfl⟩)
        · cases hx
      · cases hx
    · cases hc
  · -- index
    split at hc <;> cases hc
    simp only [aop] at hx
    split at hx
    · split at hx
      · rename_i hq
        cases hx
        exact Loc.plain fun G w a ht => idx_plain ‹_› ‹_› ‹_› ‹_› ht ‹_› ‹_› hq
      · cases hx
    · cases hx
  · -- makeMap
    split at hc <;> cases hc
    · simp only [aop, Option.some.injEq, Prod.mk.injEq] at hx
      obtain ⟨rfl, rfl, rfl⟩ := hx
      exact mkmap_loc ‹_› ‹_› (.inl rfl)
    · simp only [aop, Option.some.injEq, Prod.mk.injEq] at hx
      obtain ⟨rfl, rfl, rfl⟩ := hx
      exact mkmap_loc ‹_› ‹_› (.inr ⟨_, _, rfl⟩)
  · -- lookup
    split at hc
    · split at hc
      · simp only [Option.map_eq_some_iff] at hc
        obtain ⟨zz, hzz, rfl⟩ := hc
        simp only [aop] at hx
        split at hx
        · split at hx
          · simp only [Option.map_eq_some_iff, Prod.mk.injEq] at hx
            obtain ⟨r, hr, rfl, rfl, rfl⟩ := hx
            exact mlook_loc ‹_› ‹_› ‹_› ‹_› hzz ‹_› ‹_› ‹_› ‹_› ‹_› hr
          · cases hx
        · cases hx
          exact Loc.plain fun G w a ht => mlookn_plain ‹_› ‹_› ‹_› ‹_› hzz ‹_› ‹_› ht ‹_› ‹_›
        · cases hx
      · split at hc
        · split at hc
          · simp only [Option.map_eq_some_iff] at hc
            obtain ⟨zz, hzz, rfl⟩ := hc
            simp only [aop] at hx
            split at hx
            · split at hx
              · simp only [Option.map_eq_some_iff, Prod.mk.injEq] at hx
                obtain ⟨r, hr, rfl, rfl, rfl⟩ := hx
                exact mlookK_loc ‹_› ‹_› ‹_› ‹_› ‹_› ‹_› hzz ‹_› ‹_› ‹_› ‹_› ‹_› hr
              · cases hx
            · cases hx
          · cases hc
        · cases hc
      · cases hc
    · cases hc
  · -- mapUpdate
    split at hc
    · split at hc
      · cases hc
        simp only [aop] at hx
        split at hx
        · split at hx
          · simp only [Option.map_eq_some_iff, Prod.mk.injEq] at hx
            obtain ⟨r, hr, rfl, rfl, rfl⟩ := hx
            exact mput_loc (.inl ‹_›) ‹_› ‹_› ‹_› ‹_› ‹_› ‹_› ‹_› ‹_› hr
          · cases hx
        · cases hx
      · split at hc
        · split at hc
          · cases hc
            simp only [aop] at hx
            split at hx
            · split at hx
              · simp only [Option.map_eq_some_iff, Prod.mk.injEq] at hx
                obtain ⟨r, hr, rfl, rfl, rfl⟩ := hx
                exact mputK_loc (.inl ‹_›) ‹_› ‹_› ‹_› ‹_› ‹_› ‹_› ‹_› ‹_› ‹_› ‹_› hr
              · cases hx
            · cases hx
          · cases hc
        · cases hc
      · cases hc
    · cases hc
  · -- insert
    split at hc
    · split at hc
      · cases hc
        simp only [aop] at hx
        split at hx
        · split at hx
          · simp only [Option.map_eq_some_iff, Prod.mk.injEq] at hx
            obtain ⟨r, hr, rfl, rfl, rfl⟩ := hx
            exact mput_loc (.inr ‹_›) ‹_› ‹_› ‹_› ‹_› ‹_› ‹_› ‹_› ‹_› hr
          · cases hx
        · cases hx
      · split at hc
        · split at hc
          · cases hc
            simp only [aop] at hx
            split at hx
            · split at hx
              · simp only [Option.map_eq_some_iff, Prod.mk.injEq] at hx
                obtain ⟨r, hr, rfl, rfl, rfl⟩ := hx
                exact mputK_loc (.inr ‹_›) ‹_› ‹_› ‹_› ‹_› ‹_› ‹_› ‹_› ‹_› ‹_› ‹_› hr
              · cases hx
            · cases hx
          · cases hc
        · cases hc
      · cases hc
    · cases hc
  · -- extract
    simp only [Option.map_eq_some_iff] at hc
    obtain ⟨y, hy, rfl⟩ := hc
    simp only [aop] at hx
    split at hx
    · simp only [Option.map_eq_some_iff, Prod.mk.injEq] at hx
      obtain ⟨v, hv, rfl, rfl, rfl⟩ := hx
      exact Loc.plain fun G w a ht => ext_plain ‹_› hy ht ‹_› hv
    · cases hx
  · -- nilCheck
    simp only [Option.map_eq_some_iff] at hc
    obtain ⟨y, hy, rfl⟩ := hc
    simp only [aop] at hx
    split at hx
    · rename_i e1
      cases hx
      rw [← e1]
      exact Loc.plain fun G w a ht => nilck_plain ‹_› hy ht (.inl ⟨_, _, e1⟩)
    · rename_i e1
      cases hx
      rw [← e1]
      exact Loc.plain fun G w a ht => nilck_plain ‹_› hy ht (.inr ⟨_, e1⟩)
    · cases hx
  · -- makeInterface
    split at hc
    · cases hc
    · rename_i hnot _
      simp only [Option.map_eq_some_iff] at hc
      obtain ⟨y, hy, rfl⟩ := hc
      simp only [aop, Option.some.injEq, Prod.mk.injEq] at hx
      obtain ⟨rfl, rfl, rfl⟩ := hx
      exact Loc.plain fun G w a ht => ifc_plain ‹_› ‹_› (fun q e => hnot q (by rw [← e])) hy ht
    · cases hc
  · -- panic
    simp only [Option.map_eq_some_iff] at hc
    obtain ⟨y, hy, rfl⟩ := hc
    simp [aop] at hx
  · -- call
    rename_i c hop
    split at hc
    · -- len
      split at hc
      · rename_i x0 t0 ha hta
        split at hc <;> cases hc
        · simp only [aop] at hx
          split at hx <;> cases hx
          · exact Loc.plain fun G w a ht => len_plain hop ‹_› ha hta ‹_› ht (.inl ⟨‹_›, _, ‹_›, rfl⟩)
          · exact Loc.plain fun G w a ht => len_plainS hop ‹_› ha hta ‹_› ht ‹_› ‹_›
          all_goals (rename_i e1 _; cases e1)
        · simp only [aop] at hx
          split at hx <;> cases hx
          · rename_i e1 _; cases e1
          · rename_i e1 _; cases e1
          · exact Loc.plain fun G w a ht => len_plain hop ‹_› ha hta ‹_› ht (.inr ⟨⟨_, ‹_›⟩, .inl ⟨_, _, _, ‹_›, rfl⟩⟩)
          · exact Loc.plain fun G w a ht => len_plain hop ‹_› ha hta ‹_› ht (.inr ⟨⟨_, ‹_›⟩, .inr ⟨_, _, _, _, ‹_›⟩⟩)
        · simp only [aop] at hx
          split at hx
          · split at hx
            · simp only [Option.some.injEq, Prod.mk.injEq] at hx
              obtain ⟨rfl, rfl, rfl⟩ := hx
              exact mlen_loc hop ‹_› ha hta ‹_› ‹_› ‹_› ‹_›
            · cases hx
          · simp only [Option.some.injEq, Prod.mk.injEq] at hx
            obtain ⟨rfl, rfl, rfl⟩ := hx
            exact Loc.plain fun G w a ht => mlenn_plain hop ‹_› ha hta ‹_› ‹_› ht ‹_›
          · cases hx
      · cases hc
    · -- cap
      split at hc
      · rename_i x0 t0 ha hta
        split at hc <;> cases hc
        simp only [aop] at hx
        split at hx <;> cases hx
        · exact Loc.plain fun G w a ht => cap_plain hop ‹_› ha hta ‹_› ht ‹_› (.inl ⟨_, _, ‹_›⟩)
        · exact Loc.plain fun G w a ht => cap_plain hop ‹_› ha hta ‹_› ht ‹_› (.inr ⟨_, _, _, _, ‹_›⟩)
      · cases hc
    · -- delete
      rename_i hcal
      split at hc
      · rename_i z1 z2 T0 ts0 ha hta
        split at hc
        · split at hc
          · cases hc
            simp only [aop] at hx
            split at hx
            · split at hx
              · simp only [Option.map_eq_some_iff, Prod.mk.injEq] at hx
                obtain ⟨r, hr, rfl, rfl, rfl⟩ := hx
                exact mdel_loc hop hcal ha hta ‹_› ‹_› ‹_› ‹_› ‹_› ‹_› ‹_› hr
              · cases hx
            · cases hx
          · split at hc
            · split at hc
              · cases hc
                simp only [aop] at hx
                split at hx
                · split at hx
                  · simp only [Option.map_eq_some_iff, Prod.mk.injEq] at hx
                    obtain ⟨r, hr, rfl, rfl, rfl⟩ := hx
                    exact mdelK_loc hop hcal ha hta ‹_› ‹_› ‹_› ‹_› ‹_› ‹_› ‹_› ‹_› ‹_› hr
                  · cases hx
                · cases hx
              · cases hc
            · cases hc
          · cases hc
        · cases hc
      · cases hc
    · -- min
      rename_i hcal
      split at hc
      · rename_i z1 z2 ha
        split at hc <;> cases hc
        simp only [aop, Option.map_eq_some_iff, Prod.mk.injEq] at hx
        obtain ⟨v, hv, rfl, rfl, rfl⟩ := hx
        exact Loc.plain fun G w a ht => mm_plain (mx := false) hop hcal ha ‹_› ‹_› ht hv
      · cases hc
    · -- max
      rename_i hcal
      split at hc
      · rename_i z1 z2 ha
        split at hc <;> cases hc
        simp only [aop, Option.map_eq_some_iff, Prod.mk.injEq] at hx
        obtain ⟨v, hv, rfl, rfl, rfl⟩ := hx
        exact Loc.plain fun G w a ht => mm_plain (mx := true) hop hcal ha ‹_› ‹_› ht hv
      · cases hc
    · -- clear
      rename_i hcal
      split at hc
      · rename_i z0 T0 ha hta
        split at hc
        · split at hc
          · rename_i i hi
            split at hc
            · split at hc
              · split at hc <;> cases hc
                rename_i hcond
                simp only [aop] at hx
                split at hx
                · split at hx
                  · rename_i hv hl0
                    cases hx
                    subst hl0
                    exact Loc.plain fun G w a ht => clr0_plain hop hcal ha hta ‹_› ht hv ⟨_, ‹_›⟩
                  · split at hx
                    · split at hx
                      · rename_i hq
                        obtain ⟨rfl, q2, q3, q4⟩ := hq
                        cases hx
                        exact clr_loc hop hcal ha hta ‹_› hi ‹_› hcond.1 ‹_› hcond.2 ‹_› ‹_› ‹_› ‹_› q2 q3 q4
                      · cases hx
                    · cases hx
                · cases hx
              · cases hc
            · cases hc
          · cases hc
        · cases hc
      · cases hc
    · -- append
      rename_i hcal
      split at hc
      · rename_i zs zx T U ha hta
        split at hc
        · split at hc
          · rename_i i hi
            split at hc <;> cases hc
            rename_i hcond
            simp only [aop] at hx
            split at hx
            · split at hx
              · rename_i hq
                obtain ⟨q1, q2, q3, q4⟩ := hq
                split at hx
                · split at hx
                  · rename_i hk
                    cases hx
                    exact app_loc hop hcal ha hta ‹_› ‹_› (.inl ⟨_, rfl⟩) hi hcond.2 hcond.1 ‹_› ‹_› ‹_› (.inl ⟨_, _, ‹_›, q2⟩) q3 q4 (.inr ⟨_, rfl, hk.1, hk.2, rfl, rfl⟩)
                  · cases hx
                · split at hx
                  · rename_i hk
                    cases hx
                    exact app_loc hop hcal ha hta ‹_› ‹_› (.inl ⟨_, rfl⟩) hi hcond.2 hcond.1 ‹_› ‹_› ‹_› (.inl ⟨_, _, ‹_›, q2⟩) q3 q4 (.inl ⟨⟨_, rfl, hk⟩, q1, rfl, rfl⟩)
                  · cases hx
                · cases hx
              · cases hx
            · rename_i e1 _ _; cases e1
            · cases hx
          · cases hc
        · split at hc
          · rename_i i hi
            split at hc <;> cases hc
            rename_i hcond
            simp only [aop] at hx
            split at hx
            · rename_i e1 _ _; cases e1
            · split at hx
              · rename_i hq
                obtain ⟨q1, q2, q3, q4⟩ := hq
                have hbl : ∀ l : List UInt8, (bytesAV l).length = l.length := fun l => by simp [bytesAV]
                rw [← hbl] at q3 q4
                split at hx
                · split at hx
                  · rename_i hk
                    cases hx
                    exact app_loc hop hcal ha hta ‹_› ‹_› (.inr rfl) hi hcond.2 (by omega) ‹_› ‹_› ‹_› (.inr ⟨_, ‹_›, rfl, q2⟩) q3 q4 (.inr ⟨_, rfl, hk.1, hk.2, rfl, rfl⟩)
                  · cases hx
                · split at hx
                  · rename_i hk
                    cases hx
                    exact app_loc hop hcal ha hta ‹_› ‹_› (.inr rfl) hi hcond.2 (by omega) ‹_› ‹_› ‹_› (.inr ⟨_, ‹_›, rfl, q2⟩) q3 q4 (.inl ⟨⟨_, rfl, hk⟩, q1, rfl, rfl⟩)
                  · cases hx
                · cases hx
              · cases hx
            · cases hx
          · cases hc
        · split at hc
          · rename_i i hi
            split at hc
            · rename_i b hbz
              split at hc <;> cases hc
              rename_i hcond
              obtain ⟨z, hz1, hz2⟩ := Option.bind_eq_some_iff.1 hbz
              have hz3 : z.cells.size = i.size := by
                have := hcond.2
                rw [hz1] at this
                simpa using this
              simp only [aop] at hx
              split at hx
              · split at hx
                · rename_i hq
                  obtain ⟨q1, q2, q3, q4, q5, q6⟩ := hq
                  split at hx
                  · split at hx
                    · rename_i hk
                      cases hx
                      exact appz_loc hop hcal ha hta ‹_› ‹_› hi hz1 hz3 hz2 hcond.1 ‹_› ‹_› ‹_› ‹_› q2 q5 q6 q3 q4 (.inr ⟨_, rfl, hk.1, hk.2, rfl, rfl⟩)
                    · cases hx
                  · split at hx
                    · rename_i hk
                      cases hx
                      exact appz_loc hop hcal ha hta ‹_› ‹_› hi hz1 hz3 hz2 hcond.1 ‹_› ‹_› ‹_› ‹_› q2 q5 q6 q3 q4 (.inl ⟨⟨_, rfl, hk⟩, q1, rfl, rfl⟩)
                    · cases hx
                  · cases hx
                · cases hx
              · cases hx
            · cases hc
          · cases hc
        · cases hc
      · cases hc
    · -- a function
      split at hc
      · split at hc
        · simp only [Option.map_eq_some_iff] at hc
          obtain ⟨l, hl, rfl⟩ := hc
          simp [aop] at hx
        · cases hc
      · cases hc
    · split at hc <;> cases hc
      simp [aop] at hx
    · cases hc
  · cases hc
end
end Go.Av
end
section
set_option linter.unusedVariables false
set_option linter.unusedSimpArgs false
namespace Go.Av
section
variable {P : Program} {ops : Array Oper}
def rd (ro : Option Nat) : Fence := { Fence.wide with round := ro }
def names (ops : Array Oper) (o : Oper) : List Nat :=
  o.dst.toList ++ (o.op.operands.toList.filterMap fun | .tmp t => some t | _ => none) ++ (match o.guard with | some (j, _) => ((ops[j]?).bind (·.dst)).toList | none => [])
def TOn (l : List Nat) (G : Ghost) (w : World) (t : Tm) (a : Act) : Prop := ∀ i ∈ l, VRel G w (t i) (a.tmps.getD i undef)
def putT (t : Tm) (d : Option Nat) (x : AV) : Tm :=
  match d with
  | some d => upd t d x
  | none => t
structure Rec where
  t : Tm
  h : H
  h1 : H
  h1' : H
  h' : H
  x : AV
  en : Ent
def ItRun (P : Program) (ops : Array Oper) (i : Nat) (o : Oper) (t : Tm) (h1 : H) (x : AV) (h1' : H) : Prop :=
  ∀ G w a, TOn (names ops o) G w t a → RepH G h1 w → Fresh G h1 h1' → ∀ (K : Act → World → Prop) Q,
    (∀ G' w' v, Trans G w h1 G' w' h1' → RepH G' h1' w' → VRel G' w' x v → K (a.put o.dst v) w') → ∀ ro, wpOpIn (rd ro) 0 P ops Q i K a w
def PanRun (P : Program) (ops : Array Oper) (i : Nat) (o : Oper) (t : Tm) (h1 : H) (v : Value) (h1' : H) : Prop :=
  ∀ G w a, TOn (names ops o) G w t a → RepH G h1 w → Fresh G h1 h1' → ∀ (K : Act → World → Prop) Q,
    (∀ G' w', Trans G w h1 G' w' h1' → RepH G' h1' w' → Q (.panic [{ v := v, recovered := false }]) a w') → ∀ ro, wpOpIn (rd ro) 0 P ops Q i K a w
inductive ChainD (P : Program) (ops : Array Oper) (D : Nat → Bool) : Nat → List Rec → Tm → H → Tm → H → Prop where
  | nil {i : Nat} {t : Tm} {h : H} (hi : i = ops.size) : ChainD P ops D i [] t h t h
  | cons {i : Nat} {o : Oper} {r : Rec} {rs : List Rec} {t t' : Tm} {h h' : H} (ho : ops[i]? = some o) (e1 : r.t = t) (e2 : r.h = h) (tc : Touch h r.h1 r.h1' r.h' r.en) (run : D i = false → ItRun P ops i o t r.h1 r.x r.h1')
      (rest : ChainD P ops D (i + 1) rs (putT t o.dst r.x) r.h' t' h') : ChainD P ops D i (r :: rs) t h t' h'
abbrev Chain (P : Program) (ops : Array Oper) : Nat → List Rec → Tm → H → Tm → H → Prop := ChainD P ops fun _ => false
theorem put_size (a : Act) (d : Option Nat) (v : Value) : (a.put d v).tmps.size = a.tmps.size := by
  cases d <;> simp [Act.put]
theorem put_defers (a : Act) (d : Option Nat) (v : Value) : (a.put d v).defers = a.defers := by
  cases d <;> simp [Act.put]
theorem put_rel {G : Ghost} {w : World} {t : Tm} {a : Act} {d : Option Nat} {x : AV} {v : Value} (ht : TRel G w t a) (hv : VRel G w x v) (hd : ∀ k, d = some k → k < a.tmps.size) : TRel G w (putT t d x) (a.put d v) := by
  intro i
  cases d with
  | none => exact ht i
  | some k =>
    have hk := hd k rfl
    simp only [putT, upd, Act.put]
    by_cases e : i = k
    · subst e
      simp [Array.getElem?_setIfInBounds, hk]
      exact hv
    · have := ht i
      simp only [if_neg e]
      have e2 : (a.tmps.setIfInBounds k v).getD i undef = a.tmps.getD i undef := by
        simp [Array.getElem?_setIfInBounds, Ne.symm e]
      rw [e2]; exact this
theorem TRel.mono {G G' : Ghost} {w w' : World} {h h' : H} {t : Tm} {a : Act} (R : RepH G h w) (T : Trans G w h G' w' h') (ht : TRel G w t a) : TRel G' w' t a := fun i => VRel.mono R T _ _ (ht i)
theorem chain_nm {D : Nat → Bool} : ∀ {i : Nat} {recs : List Rec} {t t' : Tm} {h h' : H}, ChainD P ops D i recs t h t' h' → (h.n ≤ h'.n ∧ h.m ≤ h'.m) ∧
    (∀ (k : Nat) (r : Rec), recs[k]? = some r → (h.n ≤ r.h1.n ∧ r.h1'.n ≤ h'.n) ∧ (h.m ≤ r.h1.m ∧ r.h1'.m ≤ h'.m)) ∧
    (∀ (k l : Nat) (r s : Rec), k < l → recs[k]? = some r → recs[l]? = some s → r.h1'.n ≤ s.h1.n ∧ r.h1'.m ≤ s.h1.m) := by
  intro i recs t t' h h' hc
  induction hc with
  | nil hi => exact ⟨⟨Nat.le_refl _, Nat.le_refl _⟩, by simp, by simp⟩
  | @cons i o r rs t t' h h' ho e1 e2 tc run rest ih =>
    obtain ⟨⟨a1, a2⟩, a3, a4⟩ := ih
    have n1 := tc.n
    have m1 := tc.m
    have n2 : r.h'.n = r.h1'.n := by rw [tc.eq]; rfl
    have m2 : r.h'.m = r.h1'.m := by rw [tc.eq]; rfl
    have n3 := tc.le
    have m3 := tc.lem
    refine ⟨⟨by omega, by omega⟩, ?_, ?_⟩
    · intro k q hq
      cases k with
      | zero => simp at hq; subst hq; exact ⟨⟨by omega, by omega⟩, ⟨by omega, by omega⟩⟩
      | succ k =>
        simp at hq
        obtain ⟨⟨b1, b2⟩, b3, b4⟩ := a3 k q hq
        exact ⟨⟨by omega, by omega⟩, ⟨by omega, by omega⟩⟩
    · intro k l q s hkl hq hs
      cases l with
      | zero => omega
      | succ l =>
        simp at hs
        cases k with
        | zero =>
          simp at hq; subst hq
          obtain ⟨⟨b1, b2⟩, b3, b4⟩ := a3 l s hs
          exact ⟨by omega, by omega⟩
        | succ k =>
          simp at hq
          exact a4 k l q s (by omega) hq hs
theorem Fresh.sub {G : Ghost} {h h' k k' : H} (F : Fresh G h h') (a : h.n ≤ k.n) (b : k'.n ≤ h'.n) (c : h.m ≤ k.m) (d : k'.m ≤ h'.m) : Fresh G k k' :=
  ⟨fun id x y => F.1 id (by omega) (by omega), fun t x y => F.2 t (by omega) (by omega)⟩
theorem Fresh.step {G G' : Ghost} {w w' : World} {h h1 h' : H} (F : Fresh G h h') (T : Trans G w h G' w' h1) : Fresh G' h1 h' := by
  constructor
  · intro id x y hd
    rcases T.dom_new id hd with z | ⟨z1, z2⟩
    · exact F.1 id (Nat.le_trans T.n_le x) y z
    · omega
  · intro id x y hd
    rcases T.tdom_new id hd with z | ⟨z1, z2⟩
    · exact F.2 id (Nat.le_trans T.m_le x) y z
    · omega
theorem chain_seq (ro : Option Nat) {N : Nat} {Q : Exit → Act → World → Prop} (hN : ∀ (i : Nat) o d, ops[i]? = some o → o.dst = some d → d < N) : ∀ {i : Nat} {recs : List Rec} {t t' : Tm} {h h' : H}, Chain P ops i recs t h t' h' →
    ∀ (G : Ghost) (w : World) (a : Act), a.tmps.size = N → TRel G w t a → RepH G h w → Fresh G h h' →
      (∀ G' w' a', Trans G w h G' w' h' → TRel G' w' t' a' → RepH G' h' w' → a'.tmps.size = N → a'.defers = a.defers → Q .normal a' w') → wpOpsIn (rd ro) 0 P ops Q (List.range' i (ops.size - i)) a w := by
  intro i recs t t' h h' hc
  induction hc with
  | nil hi =>
    intro G w a hs ht R U hq
    subst hi
    simp only [Nat.sub_self, List.range'_zero, wpOpsIn]
    exact hq G w a (Trans.refl _ _ _) ht R hs rfl
  | @cons i o r rs t t' h h' ho e1 e2 tc run rest ih =>
    intro G w a hs ht R U hq
    have hi : i < ops.size := (Array.getElem?_eq_some_iff.1 ho).1
    have : ops.size - i = (ops.size - (i + 1)) + 1 := by omega
    rw [this, List.range'_succ, wpOpsIn_cons]
    have nm := (chain_nm rest).1
    have e3 : r.h'.n = r.h1'.n := by rw [tc.eq]; rfl
    have e4 : r.h'.m = r.h1'.m := by rw [tc.eq]; rfl
    have F : Fresh G r.h1 r.h1' := U.sub (by rw [tc.n]; exact Nat.le_refl _) (by omega) (by rw [tc.m]; exact Nat.le_refl _) (by omega)
    refine run rfl G w a (fun k _ => ht k) (R.sub tc.sub) F _ Q (fun G' w' v T1 R1 V => ?_) ro
    obtain ⟨R2, T2⟩ := frame R tc.sub tc.n tc.m R1 T1 F
    rw [← tc.eq] at R2 T2
    refine ih G' w' _ (by rw [put_size]; exact hs) (put_rel (ht.mono R T2) V fun k hk => by rw [hs]; exact hN i o k ho hk) R2 (U.step T2) fun G'' w'' a'' T3 h1 h2 h3 h4 => ?_
    exact hq G'' w'' a'' (T2.trans R R2 T3) h1 h2 h3 (h4.trans (put_defers _ _ _))
def val {β : Type} (u : Nat → Option β) (S : Nat → Bool) : Nat → β → β
  | 0, v => v
  | k + 1, v => if S k then (u k).getD (val u S k v) else val u S k v
theorem val_congr {β : Type} {u : Nat → Option β} {S S' : Nat → Bool} {v : β} : ∀ {n : Nat}, (∀ k, k < n → S k = S' k) → val u S n v = val u S' n v
  | 0, _ => rfl
  | n + 1, h => by simp only [val, h n (by omega), val_congr (n := n) fun k hk => h k (by omega)]
theorem val_insert {β : Type} {u : Nat → Option β} {S S' : Nat → Bool} {v : β} {i : Nat} (hS : S i = false) (hS' : ∀ k, S' k = (S k || k == i)) :
    ∀ {n : Nat}, i < n → (∀ j, i < j → j < n → S j = true → u i ≠ none → u j = none) → val u S' n v = (u i).getD (val u S n v)
  | 0, h, _ => by omega
  | n + 1, h, hu => by
    by_cases e : n = i
    · subst e
      simp only [val, hS, hS']
      simp only [Bool.false_or, BEq.rfl, if_true, Bool.false_eq_true, if_false]
      rw [val_congr (S := S') (S' := S)]
      intro k hk
      rw [hS']
      have : (k == n) = false := by simp; omega
      simp [this]
    · have ih := val_insert (u := u) (v := v) hS hS' (n := n) (by omega) fun j a b => hu j a (by omega)
      have en : (n == i) = false := by simp; exact e
      simp only [val, hS', en, Bool.or_false, ih]
      by_cases hSn : S n = true
      · simp only [hSn, if_true]
        have := hu n (by omega) (by omega) hSn
        cases hui : u i with
        | none => rfl
        | some y => rw [this (by simp [hui])]; rfl
      · simp only [hSn, if_false, Bool.false_eq_true]
theorem val_prefix {β : Type} {u : Nat → Option β} {S : Nat → Bool} {v : β} {j : Nat} (h1 : ∀ k, k < j → S k = false → u k = none) : ∀ {n : Nat}, j ≤ n → (∀ k, j ≤ k → k < n → S k = true → u k = none) → val u S n v = val u (fun _ => true) j v
  | 0, h, _ => by
    have : j = 0 := by omega
    subst this; rfl
  | n + 1, h, h2 => by
    by_cases e : j = n + 1
    · subst e
      have key : ∀ m, m ≤ n + 1 → val u S m v = val u (fun _ => true) m v := by
        intro m
        induction m with
        | zero => intro _; rfl
        | succ m ih =>
          intro hm
          simp only [val, ih (by omega), if_true]
          by_cases hs : S m = true
          · simp [hs]
          · simp only [hs, if_false, Bool.false_eq_true]
            rw [h1 m (by omega) (by simpa using hs)]; rfl
      exact key _ (Nat.le_refl _)
    · have ih := val_prefix (u := u) (v := v) h1 (n := n) (by omega) fun k a b => h2 k a (by omega)
      simp only [val, ih]
      by_cases hs : S n = true
      · simp only [hs, if_true]
        rw [h2 n (by omega) (by omega) hs]; rfl
      · simp only [hs, if_false, Bool.false_eq_true]
def apart (e f : Ent) : Prop := (∀ id, id ∈ e.wr → id ∉ f.rd ∧ id ∉ f.wr) ∧ (∀ id, id ∈ f.wr → id ∉ e.rd ∧ id ∉ e.wr) ∧ (∀ t, t ∈ e.tk → t ∉ f.tk)
theorem apart.symm {e f : Ent} (h : apart e f) : apart f e := ⟨h.2.1, h.1, fun t a b => h.2.2 t b a⟩
def rec0 : Rec := ⟨fun _ => .any, ⟨fun _ => none, 0, [], 0⟩, ⟨fun _ => none, 0, [], 0⟩, ⟨fun _ => none, 0, [], 0⟩, ⟨fun _ => none, 0, [], 0⟩, .any, ent0⟩
def tU (ops : Array Oper) (recs : List Rec) (d : Nat) (i : Nat) : Option AV := if ((ops[i]?).bind (·.dst)) = some d then some (recs.getD i rec0).x else none
def oU (recs : List Rec) (id : Nat) (i : Nat) : Option (Option Obj) :=
  let r := recs.getD i rec0
  if ((r.h1.objs id).isSome ∨ (r.h1.n ≤ id ∧ id < r.h1'.n)) ∧ id ∈ r.en.wr then some (r.h1'.objs id) else none
def kU (recs : List Rec) (t : Nat) (i : Nat) : Option Bool :=
  let r := recs.getD i rec0
  if t ∈ r.h1.toks ∨ t ∈ r.h1'.toks then some (decide (t ∈ r.h1'.toks)) else none
theorem Touch.objs {h h1 h1' h' : H} {en : Ent} (tc : Touch h h1 h1' h' en) (id : Nat) : h'.objs id = if ((h1.objs id).isSome ∨ (h1.n ≤ id ∧ id < h1'.n)) ∧ id ∈ en.wr then h1'.objs id else h.objs id := by
  rw [tc.eq]
  simp only [H.patch]
  by_cases c : ((h1.objs id).isSome ∨ (h1.n ≤ id ∧ id < h1'.n))
  · by_cases hw : id ∈ en.wr
    · simp [c, hw]
    · simp only [c, hw, and_false, if_true, if_false]
      have hs : (h1.objs id).isSome := by
        rcases c with c | c
        · exact c
        · exact absurd (tc.wr id c.1 c.2) hw
      rw [tc.chg id hs hw]
      obtain ⟨o, ho⟩ := Option.isSome_iff_exists.1 hs
      rw [ho, tc.sub.1 id o ho]
  · simp [c]
theorem Touch.toks {h h1 h1' h' : H} {en : Ent} (tc : Touch h h1 h1' h' en) (t : Nat) : t ∈ h'.toks ↔ (t ∈ h1'.toks ∨ (t ∈ h.toks ∧ t ∉ h1.toks)) := by
  rw [tc.eq]
  simp [H.patch, List.mem_append, List.mem_filter]
theorem chain_facts {D : Nat → Bool} : ∀ {i : Nat} {recs : List Rec} {t t' : Tm} {h h' : H}, ChainD P ops D i recs t h t' h' → i + recs.length = ops.size ∧ (∀ k r, recs[k]? = some r → ∃ o, ops[i + k]? = some o ∧ Touch r.h r.h1 r.h1' r.h' r.en ∧ (D (i + k) = false → ItRun P ops (i + k) o r.t r.h1 r.x r.h1')) ∧
    (∀ r, recs[0]? = some r → r.t = t ∧ r.h = h) ∧ (∀ k r r', recs[k]? = some r → recs[k + 1]? = some r' → r'.t = putT r.t ((ops[i + k]?).bind (·.dst)) r.x ∧ r'.h = r.h') ∧
    (∀ r, recs.getLast? = some r → t' = putT r.t ((ops[i + (recs.length - 1)]?).bind (·.dst)) r.x ∧ h' = r.h') ∧ (recs = [] → t' = t ∧ h' = h) := by
  intro i recs t t' h h' hc
  induction hc with
  | nil hi => exact ⟨by simpa using hi, by simp, by simp, by simp, by simp, by simp⟩
  | @cons i o r rs t t' h h' ho e1 e2 tc run rest ih =>
    obtain ⟨a1, a2, a3, a4, a5, a6⟩ := ih
    subst e1 e2
    refine ⟨by simp; omega, ?_, by simp, ?_, ?_, by simp⟩
    · intro k q hq
      cases k with
      | zero => simp at hq; subst hq; exact ⟨o, by simpa using ho, tc, by simpa using run⟩
      | succ k =>
        simp at hq
        have := a2 k q hq
        rwa [show i + 1 + k = i + (k + 1) by omega] at this
    · intro k q q' hq hq'
      cases k with
      | zero =>
        simp at hq hq'; subst hq
        obtain ⟨b1, b2⟩ := a3 q' (by simpa using hq')
        exact ⟨by simp [ho, b1], b2⟩
      | succ k =>
        simp at hq hq'
        have := a4 k q q' hq hq'
        rwa [show i + 1 + k = i + (k + 1) by omega] at this
    · intro q hq
      cases rs with
      | nil =>
        simp at hq; subst hq
        obtain ⟨b1, b2⟩ := a6 rfl
        exact ⟨by simp [ho, b1], b2⟩
      | cons r2 rs2 =>
        rw [List.getLast?_cons_cons] at hq
        have := a5 q hq
        simp only [List.length_cons, Nat.add_sub_cancel] at this ⊢
        rwa [show i + 1 + rs2.length = i + (rs2.length + 1) by omega] at this
end
end Go.Av
end
section
set_option linter.unusedVariables false
set_option linter.unusedSimpArgs false
namespace Go.Av
section
variable {P : Program} {ops : Array Oper}
def isAnc (ops : Array Oper) (i j : Nat) : Bool := ((Region.before ops).getD j 0).testBit i
structure Prefixes (ops : Array Oper) (recs : List Rec) (t0 : Tm) (h0 : H) (i : Nat) (t : Tm) (h : H) : Prop where
  t : ∀ d, t d = val (tU ops recs d) (fun _ => true) i (t0 d)
  o : ∀ id, h.objs id = val (oU recs id) (fun _ => true) i (h0.objs id)
  k : ∀ tk, decide (tk ∈ h.toks) = val (kU recs tk) (fun _ => true) i (decide (tk ∈ h0.toks))
theorem prefix_step {recs : List Rec} {t0 : Tm} {h0 : H} {i : Nat} {r : Rec} (hr : recs[i]? = some r) (tc : Touch r.h r.h1 r.h1' r.h' r.en) (p : Prefixes ops recs t0 h0 i r.t r.h) :
    Prefixes ops recs t0 h0 (i + 1) (putT r.t ((ops[i]?).bind (·.dst)) r.x) r.h' := by
  have hg : recs.getD i rec0 = r := by simp [List.getD, hr]
  constructor
  · intro d
    simp only [val, if_true, tU, hg, ← p.t]
    cases e : (ops[i]?).bind (·.dst) with
    | none => simp [putT]
    | some k =>
      simp only [putT, upd]
      by_cases hd : d = k
      · subst hd; simp
      · rw [if_neg hd, if_neg (by simpa using Ne.symm hd)]; rfl
  · intro id
    simp only [val, if_true, oU, hg, ← p.o, tc.objs id]
    split <;> rfl
  · intro tk
    simp only [val, if_true, kU, hg, ← p.k]
    have := tc.toks tk
    by_cases c : tk ∈ r.h1.toks ∨ tk ∈ r.h1'.toks
    · rw [if_pos c]
      simp only [Option.getD_some, decide_eq_decide, this]
      constructor
      · rintro (h | ⟨h1, h2⟩)
        · exact h
        · exact c.resolve_left h2
      · exact .inl
    · rw [if_neg c]
      simp only [Option.getD_none, decide_eq_decide, this]
      simp only [not_or] at c
      constructor
      · rintro (h | h)
        · exact absurd h c.2
        · exact h.1
      · intro h; exact .inr ⟨h, c.1⟩
theorem prefixes {D : Nat → Bool} {recs : List Rec} {t0 t' : Tm} {h0 h' : H} (hc : ChainD P ops D 0 recs t0 h0 t' h') : (∀ i r, recs[i]? = some r → Prefixes ops recs t0 h0 i r.t r.h) ∧ Prefixes ops recs t0 h0 ops.size t' h' := by
  obtain ⟨a1, a2, a3, a4, a5, a6⟩ := chain_facts hc
  have base : Prefixes ops recs t0 h0 0 t0 h0 := ⟨fun _ => rfl, fun _ => rfl, fun _ => rfl⟩
  have key : ∀ i r, recs[i]? = some r → Prefixes ops recs t0 h0 i r.t r.h := by
    intro i
    induction i with
    | zero => intro r hr; obtain ⟨e1, e2⟩ := a3 r hr; rw [e1, e2]; exact base
    | succ i ih =>
      intro r' hr'
      have hlt : i < recs.length := by
        have : i + 1 < recs.length := by
          rcases Nat.lt_or_ge (i + 1) recs.length with h | h
          · exact h
          · rw [List.getElem?_eq_none h] at hr'; cases hr'
        omega
      obtain ⟨o, _, tc, _⟩ := a2 i recs[i] (List.getElem?_eq_getElem hlt)
      obtain ⟨e1, e2⟩ := a4 i recs[i] r' (List.getElem?_eq_getElem hlt) hr'
      rw [e1, e2]
      simpa using prefix_step (List.getElem?_eq_getElem hlt) tc (ih _ (List.getElem?_eq_getElem hlt))
  refine ⟨key, ?_⟩
  by_cases he : recs = []
  · obtain ⟨e1, e2⟩ := a6 he
    subst he
    simp at a1
    rw [e1, e2, ← a1]; exact base
  · have hpos : 0 < recs.length := List.length_pos_iff.2 he
    have hlt : recs.length - 1 < recs.length := by omega
    have hl : recs.getLast? = some recs[recs.length - 1] := by
      rw [List.getLast?_eq_getElem?]; exact List.getElem?_eq_getElem hlt
    obtain ⟨e1, e2⟩ := a5 _ hl
    obtain ⟨o, _, tc, _⟩ := a2 _ _ (List.getElem?_eq_getElem hlt)
    have := prefix_step (List.getElem?_eq_getElem hlt) tc (key _ _ (List.getElem?_eq_getElem hlt))
    rw [e1, e2]
    simp only [Nat.zero_add] at this a1 ⊢
    have hn : recs.length - 1 + 1 = ops.size := by omega
    rwa [hn] at this
structure Tidy (ops : Array Oper) : Prop where
  back : ∀ (i : Nat) o, ops[i]? = some o → ∀ e ∈ o.after, Region.binds .any e = true → e.on < i
  anc : ∀ (i : Nat) o, ops[i]? = some o → ∀ j, isAnc ops j i = true → ∃ e ∈ o.after, Region.binds .any e = true ∧ (j = e.on ∨ isAnc ops j e.on = true)
  tmp : ∀ (i j : Nat) o o', ops[i]? = some o → ops[j]? = some o' → i ≠ j → ∀ d, o.dst = some d → d ∈ names ops o' → isAnc ops i j = true ∨ isAnc ops j i = true
def Closed (ops : Array Oper) (S : Nat → Bool) : Prop := ∀ (i : Nat) o, ops[i]? = some o → S i = true → ∀ e ∈ o.after, Region.binds .any e = true → S e.on = true
theorem anc_in {S : Nat → Bool} (T : Tidy ops) (hS : Closed ops S) : ∀ (i : Nat) o, ops[i]? = some o → (∀ e ∈ o.after, Region.binds .any e = true → S e.on = true) → ∀ j, isAnc ops j i = true → S j = true := by
  intro i
  induction i using Nat.strongRecOn with
  | _ i ih =>
    intro o ho he j hj
    obtain ⟨e, hm, hbd, h⟩ := T.anc i o ho j hj
    rcases h with rfl | h
    · exact he e hm hbd
    · have hlt := T.back i o ho e hm hbd
      have hsz : e.on < ops.size := Nat.lt_trans hlt (Array.getElem?_eq_some_iff.1 ho).1
      exact ih e.on hlt ops[e.on] (Array.getElem?_eq_getElem hsz) (fun e' he' => hS e.on _ (Array.getElem?_eq_getElem hsz) (he e hm hbd) e' he') j h
def HS (recs : List Rec) (h0 : H) (n : Nat) (ne me : Nat) (S : Nat → Bool) : H where
  objs id := val (oU recs id) S n (h0.objs id)
  n := ne
  toks := (h0.toks ++ recs.flatMap (fun r => r.h1'.toks)).filter fun t => val (kU recs t) S n (decide (t ∈ h0.toks))
  m := me
theorem val_true_some {u : Nat → Option Bool} {S : Nat → Bool} : ∀ {n : Nat}, val u S n false = true → ∃ i, i < n ∧ u i = some true
  | 0, h => by simp [val] at h
  | n + 1, h => by
    simp only [val] at h
    by_cases hs : S n = true
    · simp only [hs, if_true] at h
      cases hu : u n with
      | none => rw [hu] at h; obtain ⟨i, a, b⟩ := val_true_some (n := n) h; exact ⟨i, by omega, b⟩
      | some y => rw [hu] at h; simp at h; subst h; exact ⟨n, by omega, hu⟩
    · simp only [hs, if_false, Bool.false_eq_true] at h
      obtain ⟨i, a, b⟩ := val_true_some (n := n) h; exact ⟨i, by omega, b⟩
theorem mem_HS {recs : List Rec} {h0 : H} {n ne me : Nat} {S : Nat → Bool} (hn : n = recs.length) (t : Nat) : t ∈ (HS recs h0 n ne me S).toks ↔ val (kU recs t) S n (decide (t ∈ h0.toks)) = true := by
  simp only [HS, List.mem_filter, List.mem_append, List.mem_flatMap]
  refine ⟨fun h => h.2, fun h => ⟨?_, h⟩⟩
  by_cases h0t : t ∈ h0.toks
  · exact .inl h0t
  · rw [decide_eq_false h0t] at h
    obtain ⟨i, hi, hu⟩ := val_true_some h
    rw [hn] at hi
    refine .inr ⟨recs[i], List.getElem_mem hi, ?_⟩
    simp only [kU, List.getD, List.getElem?_eq_getElem hi, Option.getD_some] at hu
    split at hu
    · simpa using hu
    · cases hu
def count (n : Nat) (S : Nat → Bool) : Nat := ((List.range n).filter fun k => !S k).length
theorem count_insert {n i : Nat} {S S' : Nat → Bool} (hS : S i = false) (hS' : ∀ k, S' k = (S k || k == i)) (hi : i < n) : count n S' + 1 = count n S := by
  unfold count
  induction n with
  | zero => omega
  | succ n ih =>
    simp only [List.range_succ, List.filter_append, List.length_append]
    by_cases e : n = i
    · subst e
      have : (List.range n).filter (fun k => !S' k) = (List.range n).filter (fun k => !S k) := by
        apply List.filter_congr
        intro k hk
        have : (k == n) = false := by simp at hk ⊢; omega
        simp [hS', this]
      rw [this]
      simp [hS', hS]
    · have := ih (by omega)
      have en : (n == i) = false := by simp; exact e
      have e2 : ([n].filter fun k => !S' k) = [n].filter fun k => !S k := by simp [List.filter_cons, hS', en]
      rw [e2]
      omega
theorem count_zero {n : Nat} {S : Nat → Bool} (h : count n S = 0) : ∀ k, k < n → S k = true := by
  intro k hk
  unfold count at h
  rw [List.length_eq_zero_iff, List.filter_eq_nil_iff] at h
  simpa using h k (by simpa using hk)
theorem ready_iff (ops : Array Oper) (listed : Array Bool) (T : Tidy ops) {i : Nat} {o : Oper} (ho : ops[i]? = some o) : i ∈ Region.ready .any ops listed ↔ listed.getD i true = false ∧ ∀ e ∈ o.after, Region.binds .any e = true → listed.getD e.on false = true := by
  have hi : i < ops.size := (Array.getElem?_eq_some_iff.1 ho).1
  simp only [Region.ready, List.mem_filter, List.mem_range, hi, true_and, ho, Option.map_some, Option.getD_some, Bool.and_eq_true, Bool.not_eq_true']
  refine and_congr_right fun _ => ?_
  rw [Array.all_eq_true_iff_forall_mem]
  constructor
  · intro h e he hb
    have := h e he
    simpa [hb] using this
  · intro h e he
    cases hb : Region.binds .any e with
    | false => rfl
    | true => simp [h e he hb]
theorem anc_lt (T : Tidy ops) {k : Nat} : ∀ (q : Nat) oq, ops[q]? = some oq → isAnc ops k q = true → k < q := by
  intro q
  induction q using Nat.strongRecOn with
  | _ q ihq =>
    intro oq hoq hq'
    obtain ⟨e, hm, hbd, hh⟩ := T.anc q oq hoq k hq'
    have hb := T.back q oq hoq e hm hbd
    rcases hh with rfl | hh
    · exact hb
    · have hsz : e.on < ops.size := Nat.lt_trans hb (Array.getElem?_eq_some_iff.1 hoq).1
      exact Nat.lt_trans (ihq e.on hb _ (Array.getElem?_eq_getElem hsz) hh) hb
theorem Trans.toSub {G G' : Ghost} {w w' : World} {h h' h2 : H} (T : Trans G w h G' w' h') (hs : h2.sub h') (hn : h2.n = h'.n) (hm : h2.m = h'.m) : Trans G w h G' w' h2 :=
  { T with
    O_new := fun B hB x => T.O_new B hB (by obtain ⟨id, o, ho, e⟩ := x; exact ⟨id, o, hs.1 _ _ ho, e⟩)
    T_new := fun B hB x => T.T_new B hB (by obtain ⟨t, ht, e⟩ := x; exact ⟨t, hs.2 t ht, e⟩)
    objs_new := fun j o hj => by rw [hn]; exact T.objs_new j o (hs.1 _ _ hj)
    toks_new := fun t ht => by rw [hm]; exact T.toks_new t (hs.2 t ht)
    n_le := by rw [hn]; exact T.n_le
    m_le := by rw [hm]; exact T.m_le
    dom_new := by rw [hn]; exact T.dom_new
    tdom_new := by rw [hm]; exact T.tdom_new }
theorem chain_any (ro : Option Nat) {D : Nat → Bool} {pj : Nat} {pv : Value} {N : Nat} {Q : Exit → Act → World → Prop} (hN : ∀ (i : Nat) o d, ops[i]? = some o → o.dst = some d → d < N) (T : Tidy ops) {recs : List Rec} {t0 t' : Tm} {h0 h' : H} (hc : ChainD P ops D 0 recs t0 h0 t' h')
    (ap : ∀ i j, i < j → j < ops.size → isAnc ops i j = false → apart (recs.getD i rec0).en (recs.getD j rec0).en)
    {G0 : Ghost} {w0 : World} {a0 : Act} (R0 : RepH G0 h0 w0) (F0 : Fresh G0 h0 h')
    (hq : (∀ i, D i = false) → ∀ G' w' a', Trans G0 w0 h0 G' w' h' → TRel G' w' t' a' → RepH G' h' w' → a'.tmps.size = N → a'.defers = a0.defers → Q .normal a' w')
    (hD : ∀ i, D i = true → (D pj = true ∧ pj < ops.size) ∧ (i = pj ∨ ∃ k, D k = true ∧ isAnc ops k i = true))
    (hP : D pj = true → ∀ o r, ops[pj]? = some o → recs[pj]? = some r → PanRun P ops pj o r.t r.h1 pv r.h1' ∧ (∀ k, k < ops.size → k ≠ pj → isAnc ops k pj = false → isAnc ops pj k = false → (recs.getD k rec0).en.tk = [] ∧ (k < pj → (recs.getD k rec0).en.wr = []) ∧ ∀ id ∈ (recs.getD k rec0).en.wr, r.h'.objs id = none) ∧
      ∀ G' w' a', Trans G0 w0 h0 G' w' { r.h' with n := h'.n, m := h'.m } → RepH G' { r.h' with n := h'.n, m := h'.m } w' → a'.tmps.size = N → a'.defers = a0.defers → Q (.panic [{ v := pv, recovered := false }]) a' w') :
    ∀ (fuel : Nat) (listed : Array Bool) (G : Ghost) (w : World) (a : Act), listed.size = ops.size → count ops.size (fun k => listed.getD k false) ≤ fuel → Closed ops (fun k => listed.getD k false) → (∀ k, D k = true → listed.getD k false = false) →
      a.tmps.size = N → a.defers = a0.defers → (∀ d, VRel G w (val (tU ops recs d) (fun k => listed.getD k false) ops.size (t0 d)) (a.tmps.getD d undef)) →
      RepH G (HS recs h0 ops.size h'.n h'.m (fun k => listed.getD k false)) w → Trans G0 w0 h0 G w (HS recs h0 ops.size h'.n h'.m (fun k => listed.getD k false)) →
      (∀ id, G.dom id → G0.dom id ∨ ∃ k, k < ops.size ∧ listed.getD k false = true ∧ (recs.getD k rec0).h1.n ≤ id ∧ id < (recs.getD k rec0).h1'.n) →
      (∀ id, G.tdom id → G0.tdom id ∨ ∃ k, k < ops.size ∧ listed.getD k false = true ∧ (recs.getD k rec0).h1.m ≤ id ∧ id < (recs.getD k rec0).h1'.m) →
      wpAnyIn (rd ro) 0 P .any ops Q fuel listed a w := by
  obtain ⟨a1, a2, a3, a4, a5, a6⟩ := chain_facts hc
  obtain ⟨pre, preEnd⟩ := prefixes hc
  rw [Nat.zero_add] at a1
  -- everything has run
  have full : ∀ (listed : Array Bool) (G : Ghost) (w : World) (a : Act), (∀ k, k < ops.size → listed.getD k false = true) → (∀ k, D k = true → listed.getD k false = false) → a.tmps.size = N → a.defers = a0.defers → (∀ d, VRel G w (val (tU ops recs d) (fun k => listed.getD k false) ops.size (t0 d)) (a.tmps.getD d undef)) →
      RepH G (HS recs h0 ops.size h'.n h'.m (fun k => listed.getD k false)) w → Trans G0 w0 h0 G w (HS recs h0 ops.size h'.n h'.m (fun k => listed.getD k false)) → Q .normal a w := by
    intro listed G w a hall hlj hs hd ht R Tr
    have hDf : ∀ i, D i = false := by
      intro i
      cases hi : D i with
      | false => rfl
      | true =>
        obtain ⟨⟨d1, d2⟩, -⟩ := hD i hi
        have := hlj pj d1
        rw [hall pj d2] at this; cases this
    have ho : (HS recs h0 ops.size h'.n h'.m (fun k => listed.getD k false)).objs = h'.objs := by
      funext id
      simp only [HS]
      rw [val_congr (S' := fun _ => true) hall, ← preEnd.o]
    have hk : ∀ t, t ∈ (HS recs h0 ops.size h'.n h'.m (fun k => listed.getD k false)).toks ↔ t ∈ h'.toks := by
      intro t
      rw [mem_HS a1.symm, val_congr (S' := fun _ => true) hall, ← preEnd.k]
      simp
    refine hq hDf G w a (Tr.same rfl (fun _ => Iff.rfl) ho.symm (fun t => (hk t).symm) (Nat.le_refl _) (Nat.le_refl _) Tr.n_le (Nat.le_refl _) (Nat.le_refl _) Tr.m_le) ?_ (R.same ho.symm fun t x => (hk t).2 x) hs hd
    intro d
    have := ht d
    rwa [val_congr (S' := fun _ => true) hall, ← preEnd.t] at this
  have noready : ∀ (listed : Array Bool), listed.size = ops.size → Region.ready .any ops listed = [] → ∀ k, k < ops.size → listed.getD k false = true := by
    intro listed hls hr k
    induction k using Nat.strongRecOn with
    | _ k ih =>
      intro hk
      cases hl : listed.getD k false with
      | true => rfl
      | false =>
        exfalso
        have ho := Array.getElem?_eq_getElem hk
        have : k ∈ Region.ready .any ops listed := by
          rw [ready_iff ops listed T ho]
          refine ⟨?_, fun e he hbd => ?_⟩
          · have hk' : k < listed.size := by omega
            simp [hk'] at hl ⊢; exact hl
          · have := T.back k _ ho e he hbd
            exact ih e.on this (by omega)
        rw [hr] at this; cases this
  intro fuel
  induction fuel with
  | zero =>
    intro listed G w a hls hcnt hcl hlj hs hd ht R Tr _ _
    have hall := count_zero (Nat.le_zero.1 hcnt)
    refine ⟨?_, full listed G w a hall hlj hs hd ht R Tr⟩
    rw [List.eq_nil_iff_forall_not_mem]
    intro i hi
    have hlt : i < ops.size := by simp [Region.ready] at hi; exact hi.1
    rw [ready_iff ops listed T (Array.getElem?_eq_getElem hlt)] at hi
    have h1 := hall i hlt
    have h2 := hi.1
    have hk' : i < listed.size := by omega
    simp [hk'] at h1 h2
    rw [h1] at h2; cases h2
  | succ fuel ih =>
    intro listed G w a hls hcnt hcl hlj hs hd ht R Tr hdom htdom
    refine ⟨fun hr => full listed G w a (noready listed hls hr) hlj hs hd ht R Tr, fun i hi => ?_⟩
    have hlt : i < ops.size := by simp [Region.ready] at hi; exact hi.1
    have ho := Array.getElem?_eq_getElem hlt
    have hltr : i < recs.length := by omega
    have hr := List.getElem?_eq_getElem hltr
    obtain ⟨o', ho', tc, run⟩ := a2 i _ hr
    rw [Nat.zero_add] at ho' run
    obtain rfl : ops[i] = o' := Option.some.inj (ho.symm.trans ho')
    rw [ready_iff ops listed T ho] at hi
    obtain ⟨hli, hedges⟩ := hi
    have hil : i < listed.size := by omega
    have hSi : listed.getD i false = false := by simp [hil] at hli ⊢; exact hli
    have hgr : recs.getD i rec0 = recs[i] := by simp [List.getD, hr]
    generalize hrr : recs[i] = r at *
    have p := pre i r hr
    -- who runs before though the text has it behind, or has not run though the text has it ahead, is not ordered
    have ancS := anc_in T hcl i _ ho hedges
    have late : ∀ k, i < k → k < ops.size → listed.getD k false = true → isAnc ops i k = false := by
      intro k h1 h2 h3
      cases hb : isAnc ops i k with
      | false => rfl
      | true =>
        have := anc_in T hcl k _ (Array.getElem?_eq_getElem h2) (hcl k _ (Array.getElem?_eq_getElem h2) h3) i hb
        rw [hSi] at this; cases this
    have early : ∀ k, k < i → listed.getD k false = false → isAnc ops k i = false := by
      intro k h1 h3
      cases hb : isAnc ops k i with
      | false => rfl
      | true => rw [ancS k hb] at h3; cases h3
    have apI : ∀ k, k < ops.size → ((k < i ∧ listed.getD k false = false) ∨ (i < k ∧ listed.getD k false = true)) → apart (recs.getD k rec0).en r.en := by
      intro k hk h
      rcases h with ⟨h1, h2⟩ | ⟨h1, h2⟩
      · have := ap k i h1 hlt (early k h1 h2); rwa [hgr] at this
      · have := (ap i k h1 hk (late k h1 hk h2)).symm; rwa [hgr] at this
    -- objects
    have hobj : ∀ id, id ∈ r.en.rd ∨ id ∈ r.en.wr → (HS recs h0 ops.size h'.n h'.m (fun k => listed.getD k false)).objs id = r.h.objs id := by
      intro id hid
      simp only [HS]
      rw [p.o]
      have none_of : ∀ k, k < ops.size → ((k < i ∧ listed.getD k false = false) ∨ (i < k ∧ listed.getD k false = true)) → oU recs id k = none := by
        intro k hk h
        have hap := apI k hk h
        simp only [oU]
        rw [if_neg]
        rintro ⟨_, hw⟩
        have := hap.1 id hw
        rcases hid with h | h
        · exact this.1 h
        · exact this.2 h
      refine val_prefix (fun k h1 h2 => none_of k (by omega) (.inl ⟨h1, h2⟩)) (Nat.le_of_lt hlt) fun k h1 h2 h3 => ?_
      rcases Nat.lt_or_ge i k with h | h
      · exact none_of k h2 (.inr ⟨h, h3⟩)
      · have : k = i := by omega
        subst this
        rw [hSi] at h3; cases h3
    have htok : ∀ t, t ∈ r.en.tk → (t ∈ (HS recs h0 ops.size h'.n h'.m (fun k => listed.getD k false)).toks ↔ t ∈ r.h.toks) := by
      intro t hid
      rw [mem_HS a1.symm]
      have none_of : ∀ k, k < ops.size → ((k < i ∧ listed.getD k false = false) ∨ (i < k ∧ listed.getD k false = true)) → kU recs t k = none := by
        intro k hk h
        have hap := apI k hk h
        have hkr : k < recs.length := by omega
        obtain ⟨ok, _, tck, _⟩ := a2 k _ (List.getElem?_eq_getElem hkr)
        have hgk : recs.getD k rec0 = recs[k] := by simp [List.getD, List.getElem?_eq_getElem hkr]
        rw [hgk] at hap
        simp only [kU, hgk]
        rw [if_neg]
        rintro (hw | hw)
        · exact hap.2.2 t (tck.tk t hw) hid
        · exact hap.2.2 t (tck.tn t hw) hid
      have := val_prefix (u := kU recs t) (S := fun k => listed.getD k false) (v := decide (t ∈ h0.toks)) (fun k h1 h2 => none_of k (by omega) (.inl ⟨h1, h2⟩)) (Nat.le_of_lt hlt) fun k h1 h2 h3 => by
        rcases Nat.lt_or_ge i k with h | h
        · exact none_of k h2 (.inr ⟨h, h3⟩)
        · have : k = i := by omega
          subst this
          rw [hSi] at h3; cases h3
      rw [this, ← p.k]; simp
    have htmp : ∀ d, d ∈ names ops ops[i] → val (tU ops recs d) (fun k => listed.getD k false) ops.size (t0 d) = r.t d := by
      intro d hdn
      rw [p.t]
      have none_of : ∀ k, k < ops.size → ((k < i ∧ listed.getD k false = false) ∨ (i < k ∧ listed.getD k false = true)) → tU ops recs d k = none := by
        intro k hk h
        simp only [tU]
        rw [if_neg]
        intro hdst
        rw [Array.getElem?_eq_getElem hk] at hdst
        have hne : k ≠ i := by omega
        rcases T.tmp k i _ _ (Array.getElem?_eq_getElem hk) ho hne d hdst hdn with hx | hx
        · rcases h with ⟨h1, h2⟩ | ⟨h1, h2⟩
          · rw [early k h1 h2] at hx; cases hx
          · -- k stands before i through the edges, and yet behind it in the text
            have := ancS k hx
            have := anc_lt T i _ ho hx
            omega
        · rcases h with ⟨h1, h2⟩ | ⟨h1, h2⟩
          · have := anc_lt T k _ (Array.getElem?_eq_getElem hk) hx
            omega
          · rw [late k h1 hk h2] at hx; cases hx
      refine val_prefix (fun k h1 h2 => none_of k (by omega) (.inl ⟨h1, h2⟩)) (Nat.le_of_lt hlt) fun k h1 h2 h3 => ?_
      rcases Nat.lt_or_ge i k with h | h
      · exact none_of k h2 (.inr ⟨h, h3⟩)
      · have : k = i := by omega
        subst this
        rw [hSi] at h3; cases h3
    obtain ⟨-, nm2, nm3⟩ := chain_nm hc
    have F : Fresh G r.h1 r.h1' := by
      obtain ⟨⟨b1, b2⟩, b3, b4⟩ := nm2 i r hr
      constructor
      · intro id c1 c2 hd'
        rcases hdom id hd' with hd' | ⟨k, hk, hSk, d1, d2⟩
        · exact F0.1 id (by omega) (by omega) hd'
        · have hkr : k < recs.length := by omega
          have hgk : recs.getD k rec0 = recs[k] := by simp [List.getD, List.getElem?_eq_getElem hkr]
          rw [hgk] at d1 d2
          rcases Nat.lt_trichotomy k i with h | h | h
          · have := (nm3 k i _ _ h (List.getElem?_eq_getElem hkr) hr).1; omega
          · subst h; rw [hSi] at hSk; cases hSk
          · have := (nm3 i k _ _ h hr (List.getElem?_eq_getElem hkr)).1; omega
      · intro id c1 c2 hd'
        rcases htdom id hd' with hd' | ⟨k, hk, hSk, d1, d2⟩
        · exact F0.2 id (by omega) (by omega) hd'
        · have hkr : k < recs.length := by omega
          have hgk : recs.getD k rec0 = recs[k] := by simp [List.getD, List.getElem?_eq_getElem hkr]
          rw [hgk] at d1 d2
          rcases Nat.lt_trichotomy k i with h | h | h
          · have := (nm3 k i _ _ h (List.getElem?_eq_getElem hkr) hr).2; omega
          · subst h; rw [hSi] at hSk; cases hSk
          · have := (nm3 i k _ _ h hr (List.getElem?_eq_getElem hkr)).2; omega
    generalize hSdef : (fun k => listed.getD k false) = S at *
    have hSk : ∀ k, listed.getD k false = S k := fun k => by rw [← hSdef]
    let HSi : H := { HS recs h0 ops.size h'.n h'.m S with n := r.h.n, m := r.h.m }
    have Ri : RepH G HSi w := R.same rfl fun _ x => x
    have hsub : r.h1.sub HSi := by
      refine ⟨fun j o hj => ?_, fun t ht' => ?_⟩
      · show (HS recs h0 ops.size h'.n h'.m S).objs j = some o
        rw [hobj j (tc.rd j (by rw [hj]; rfl))]
        exact tc.sub.1 j o hj
      · show t ∈ (HS recs h0 ops.size h'.n h'.m S).toks
        rw [htok t (tc.tk t ht')]
        exact tc.sub.2 t ht'
    -- the set, with i
    have hS' : ∀ k, (listed.setIfInBounds i true).getD k false = (S k || k == i) := by
      intro k
      rw [← hSk]
      by_cases e : k = i
      · subst e; simp [hil]
      · simp [Array.getElem?_setIfInBounds, Ne.symm e, e]
    generalize hSdef' : (fun k => (listed.setIfInBounds i true).getD k false) = S'
    have hS2 : ∀ k, S' k = (S k || k == i) := fun k => by rw [← hSdef']; exact hS' k
    have hSi' : S i = false := by rw [← hSk]; exact hSi
    have apJ : ∀ j, i < j → j < ops.size → S j = true → apart (recs.getD j rec0).en r.en := fun j h1 h2 h3 => apI j h2 (.inr ⟨h1, (hSk j).trans h3⟩)
    have eobj : ∀ id, (HS recs h0 ops.size h'.n h'.m S').objs id = (HSi.patch r.h1 r.h1').objs id := by
      intro id
      have hv := val_insert (u := oU recs id) (v := h0.objs id) hSi' hS2 hlt (fun j h1 h2 h3 hne => by
        have hap := apJ j h1 h2 h3
        simp only [oU]
        rw [if_neg]
        rintro ⟨_, hw⟩
        apply hne
        simp only [oU, hgr]
        rw [if_neg]
        rintro ⟨_, hw'⟩
        exact (hap.1 id hw).2 hw')
      show val (oU recs id) S' ops.size (h0.objs id) = _
      rw [hv]
      simp only [oU, hgr, H.patch]
      by_cases c : ((r.h1.objs id).isSome ∨ (r.h1.n ≤ id ∧ id < r.h1'.n))
      · by_cases hw : id ∈ r.en.wr
        · simp [c, hw]
        · simp only [c, hw, and_false, if_false, if_true, Option.getD_none]
          have hs : (r.h1.objs id).isSome := by
            rcases c with c | c
            · exact c
            · exact absurd (tc.wr id c.1 c.2) hw
          rw [tc.chg id hs hw]
          show (HS recs h0 ops.size h'.n h'.m S).objs id = _
          rw [hobj id (tc.rd id hs)]
          obtain ⟨o, hoo⟩ := Option.isSome_iff_exists.1 hs
          rw [hoo]; exact tc.sub.1 id o hoo
      · simp only [c, false_and, if_false, Option.getD_none]
        rfl
    have etok : ∀ tk, tk ∈ (HS recs h0 ops.size h'.n h'.m S').toks ↔ tk ∈ (HSi.patch r.h1 r.h1').toks := by
      intro tk
      have hv := val_insert (u := kU recs tk) (v := decide (tk ∈ h0.toks)) hSi' hS2 hlt (fun j h1 h2 h3 hne => by
        have hap := apJ j h1 h2 h3
        have hjr : j < recs.length := by omega
        obtain ⟨ok, _, tck, _⟩ := a2 j _ (List.getElem?_eq_getElem hjr)
        have hgk : recs.getD j rec0 = recs[j] := by simp [List.getD, List.getElem?_eq_getElem hjr]
        rw [hgk] at hap
        simp only [kU, hgk]
        rw [if_neg]
        intro hw
        apply hne
        simp only [kU, hgr]
        rw [if_neg]
        intro hw'
        have h1 : tk ∈ recs[j].en.tk := hw.elim (tck.tk tk) (tck.tn tk)
        have h2 : tk ∈ r.en.tk := hw'.elim (tc.tk tk) (tc.tn tk)
        exact hap.2.2 tk h1 h2)
      rw [mem_HS a1.symm, hv]
      have hm := mem_HS (recs := recs) (h0 := h0) (ne := h'.n) (me := h'.m) (S := S) a1.symm tk
      simp only [H.patch, List.mem_append, List.mem_filter]
      simp only [kU, hgr]
      by_cases c : tk ∈ r.h1.toks ∨ tk ∈ r.h1'.toks
      · rw [if_pos c]
        simp only [Option.getD_some, decide_eq_true_eq]
        constructor
        · exact .inl
        · rintro (h | ⟨h1, h2⟩)
          · exact h
          · exact c.resolve_left (by simpa using h2)
      · rw [if_neg c]
        simp only [Option.getD_none]
        rw [← hm]
        simp only [not_or] at c
        constructor
        · intro h; exact .inr ⟨h, by simpa using c.1⟩
        · rintro (h | h)
          · exact absurd h c.2
          · exact h.1
    have nmi := nm2 i r hr
    have n0 := tc.n
    have m0 := tc.m
    have le0 := tc.le
    have lem0 := tc.lem
    have hle := Tr.n_le
    have hlem := Tr.m_le
    simp only [HS] at hle hlem
    have after : ∀ G' w', Trans G w r.h1 G' w' r.h1' → RepH G' r.h1' w' → Trans G w HSi G' w' (HSi.patch r.h1 r.h1') ∧ RepH G' (HS recs h0 ops.size h'.n h'.m S') w' ∧ Trans G0 w0 h0 G' w' (HS recs h0 ops.size h'.n h'.m S') := by
      intro G' w' T1 R1
      obtain ⟨R2, T2⟩ := frame Ri hsub tc.n tc.m R1 T1 F
      have T3 : Trans G w { HS recs h0 ops.size h'.n h'.m S with n := h0.n, m := h0.m } G' w' (HS recs h0 ops.size h'.n h'.m S') :=
        T2.same rfl (fun _ => Iff.rfl) (funext eobj) etok (by show h0.n ≤ r.h.n; omega) (by show r.h1'.n ≤ h'.n; omega) hle (by show h0.m ≤ r.h.m; omega) (by show r.h1'.m ≤ h'.m; omega) hlem
      have T4 := Tr.trans' (h'' := HS recs h0 ops.size h'.n h'.m S') (h2 := { HS recs h0 ops.size h'.n h'.m S with n := h0.n, m := h0.m }) R0 rfl (fun _ => Iff.rfl) (Nat.le_refl _) (Nat.le_refl _) hle (Nat.le_refl _) (Nat.le_refl _) hlem R T3
      exact ⟨T2, R2.same (funext eobj) fun t x => (etok t).1 x, T4⟩
    have tset : ∀ d, val (tU ops recs d) S' ops.size (t0 d) = putT (fun d => val (tU ops recs d) S ops.size (t0 d)) ops[i].dst r.x d := by
      intro d
      have hv := val_insert (u := tU ops recs d) (v := t0 d) hSi' hS2 hlt (fun j h1 h2 h3 hne => by
        simp only [tU]
        rw [if_neg]
        intro hdj
        apply hne
        simp only [tU]
        rw [if_neg]
        intro hdi
        rw [ho] at hdi
        rw [Array.getElem?_eq_getElem h2] at hdj
        rcases T.tmp i j _ _ ho (Array.getElem?_eq_getElem h2) (by omega) d hdi (by simp only [names, List.mem_append]; left; left; rw [show ops[j].dst = some d from hdj]; simp) with hx | hx
        · rw [late j h1 h2 ((hSk j).trans h3)] at hx; cases hx
        · have := anc_lt T i _ ho hx; omega)
      rw [hv]
      simp only [tU, ho, Option.bind_some, hgr]
      cases hd' : ops[i].dst with
      | none => simp [putT]
      | some k =>
        simp only [putT, upd]
        by_cases e : d = k
        · subst e; simp
        · rw [if_neg e, if_neg (by simpa using Ne.symm e)]; rfl
    cases hDi : D i with
    | true =>
      obtain ⟨⟨d1, d2⟩, d3⟩ := hD i hDi
      have eij : i = pj := by
        rcases d3 with e | ⟨k, dk, e⟩
        · exact e
        · exfalso
          have h1 : listed.getD k false = true := ancS k e
          have h2 := hlj k dk
          rw [h1] at h2; cases h2
      subst eij
      obtain ⟨pr, un, hqp⟩ := hP d1 _ r ho hr
      refine pr G w a (fun d hd' => by rw [← htmp d hd']; exact ht d) (Ri.sub hsub) F _ Q (fun G' w' T1 R1 => ?_) ro
      obtain ⟨-, R3, T3⟩ := after G' w' T1 R1
      have px := prefix_step hr tc p
      have unS : ∀ k, k < ops.size → ((k < i + 1 ∧ S' k = false) ∨ (i + 1 ≤ k ∧ S' k = true)) → (recs.getD k rec0).en.tk = [] ∧ ∀ id ∈ (recs.getD k rec0).en.wr, r.h'.objs id = none := by
        intro k hk h
        rw [hS2] at h
        have hne : k ≠ i := by
          rintro rfl
          rcases h with ⟨h1, h2⟩ | ⟨h1, h2⟩
          · simp at h2
          · omega
        have hbe : (k == i) = false := by simpa using hne
        rw [hbe, Bool.or_false] at h
        rcases h with ⟨h1, h2⟩ | ⟨h1, h2⟩
        · have := un k hk hne (early k (by omega) ((hSk k).trans h2)) (by
            cases hb : isAnc ops i k with
            | false => rfl
            | true => have := anc_lt T k _ (Array.getElem?_eq_getElem hk) hb; omega)
          exact ⟨this.1, this.2.2⟩
        · have := un k hk hne (by
            cases hb : isAnc ops k i with
            | false => rfl
            | true => have := anc_lt T i _ ho hb; omega) (late k (by omega) hk ((hSk k).trans h2))
          exact ⟨this.1, this.2.2⟩
      have eo : ∀ id o, r.h'.objs id = some o → (HS recs h0 ops.size h'.n h'.m S').objs id = some o := by
        intro id o hid
        have none_of : ∀ k, k < ops.size → ((k < i + 1 ∧ S' k = false) ∨ (i + 1 ≤ k ∧ S' k = true)) → oU recs id k = none := by
          intro k hk h
          simp only [oU]
          rw [if_neg]
          rintro ⟨_, hw⟩
          have := (unS k hk h).2 id hw
          rw [this] at hid; cases hid
        have e := val_prefix (v := h0.objs id) (fun k h1 h2 => none_of k (by omega) (.inl ⟨h1, h2⟩)) (by omega) fun k h1 h2 h3 => none_of k h2 (.inr ⟨h1, h3⟩)
        show val (oU recs id) S' ops.size (h0.objs id) = some o
        rw [e, ← px.o]; exact hid
      have et : ∀ tk, tk ∈ (HS recs h0 ops.size h'.n h'.m S').toks ↔ tk ∈ r.h'.toks := by
        intro tk
        rw [mem_HS a1.symm]
        have none_of : ∀ k, k < ops.size → ((k < i + 1 ∧ S' k = false) ∨ (i + 1 ≤ k ∧ S' k = true)) → kU recs tk k = none := by
          intro k hk h
          have hkr : k < recs.length := by omega
          obtain ⟨ok, _, tck, _⟩ := a2 k _ (List.getElem?_eq_getElem hkr)
          have hgk : recs.getD k rec0 = recs[k] := by simp [List.getD, List.getElem?_eq_getElem hkr]
          have hz := (unS k hk h).1
          rw [hgk] at hz
          simp only [kU, hgk]
          rw [if_neg]
          rintro (hw | hw)
          · have := tck.tk tk hw; rw [hz] at this; cases this
          · have := tck.tn tk hw; rw [hz] at this; cases this
        have e := val_prefix (v := decide (tk ∈ h0.toks)) (fun k h1 h2 => none_of k (by omega) (.inl ⟨h1, h2⟩)) (by omega) fun k h1 h2 h3 => none_of k h2 (.inr ⟨h1, h3⟩)
        rw [e, ← px.k]; simp
      have hsubX : H.sub { r.h' with n := h'.n, m := h'.m } (HS recs h0 ops.size h'.n h'.m S') := ⟨fun j o hj => eo j o hj, fun t x => (et t).2 x⟩
      refine hqp G' w' a (T3.toSub hsubX rfl rfl) (R3.sub hsubX) hs hd
    | false =>
    refine run hDi G w a (fun d hd' => by rw [← htmp d hd']; exact ht d) (Ri.sub hsub) F _ Q (fun G' w' v T1 R1 V => ?_) ro
    obtain ⟨T2, R2, T4⟩ := after G' w' T1 R1
    have hput : TRel G' w' (putT (fun d => val (tU ops recs d) S ops.size (t0 d)) ops[i].dst r.x) (a.put ops[i].dst v) :=
      put_rel (TRel.mono Ri T2 ht) V fun k hk => by rw [hs]; exact hN i _ k ho hk
    refine ih (listed.setIfInBounds i true) G' w' _ (by simpa using hls) ?_ ?_ ?_ (by rw [put_size]; exact hs) (by rw [put_defers]; exact hd) ?_ ?_ ?_ ?_ ?_
    · rw [hSdef']
      have := count_insert hSi' hS2 hlt
      omega
    · rw [hSdef']
      intro j oj hoj hj e he hbd
      rw [hS2] at hj ⊢
      by_cases ej : j = i
      · subst ej
        obtain rfl : ops[j] = oj := Option.some.inj (ho.symm.trans hoj)
        rw [← hSk, hedges e he hbd]; rfl
      · have : S j = true := by simpa [ej] using hj
        rw [hcl j oj hoj this e he hbd]; rfl
    · intro k d1
      rw [show (listed.setIfInBounds i true).getD k false = S' k from congrFun hSdef' k, hS2, ← hSk, hlj k d1]
      have : k ≠ i := by rintro rfl; rw [d1] at hDi; cases hDi
      simpa using this
    · rw [hSdef']
      intro d
      rw [tset d]; exact hput d
    · rw [hSdef']
      exact R2
    · rw [hSdef']; exact T4
    · intro id hd'
      rcases T1.dom_new id hd' with h | h
      · rcases hdom id h with h | ⟨k, h1, h2, h3⟩
        · exact .inl h
        · exact .inr ⟨k, h1, by rw [hS', ← hSk, h2]; rfl, h3⟩
      · exact .inr ⟨i, hlt, by rw [hS']; simp, by rw [hgr]; exact h⟩
    · intro id hd'
      rcases T1.tdom_new id hd' with h | h
      · rcases htdom id h with h | ⟨k, h1, h2, h3⟩
        · exact .inl h
        · exact .inr ⟨k, h1, by rw [hS', ← hSk, h2]; rfl, h3⟩
      · exact .inr ⟨i, hlt, by rw [hS']; simp, by rw [hgr]; exact h⟩
end
end Go.Av
end
section
set_option linter.unusedVariables false
set_option linter.unusedSimpArgs false
namespace Go.Av
open Go
theorem bget (s : List UInt8) (i : Nat) : (ByteArray.mk s.toArray)[i]! = s.getD i 0 := by
  by_cases h : i < s.length
  · have h2 : i < (ByteArray.mk s.toArray).size := by simpa [ByteArray.size] using h
    rw [getElem!_pos _ i h2]
    simp [ByteArray.getElem_eq_getElem_data, h]
  · have h2 : ¬ i < (ByteArray.mk s.toArray).size := by simpa [ByteArray.size] using h
    rw [getElem!_neg _ i h2]
    simp [h]
    rfl
theorem ib_run (P : Program) (w : World) (s : List UInt8) (n : Int) : (Extern.BytealgIndexByte.indexByte #[.string ⟨s.toArray⟩, .int .u8 n]).run P w = .ok (.int .i64 (match (List.range s.length).find? fun i => s.getD i 0 == UInt8.ofNat n.toNat with | some i => (i : Int) | none => -1)) w := by
  have hs : (ByteArray.mk s.toArray).size = s.length := by simp [ByteArray.size]
  have hf : (fun i => (ByteArray.mk s.toArray)[i]! == n.toNat.toUInt8) = fun i => s.getD i 0 == UInt8.ofNat n.toNat := by
    funext i; rw [bget]
  change Sem.run P (match (List.range (ByteArray.mk s.toArray).size).find? fun i => (ByteArray.mk s.toArray)[i]! == n.toNat.toUInt8 with | some i => pure (goInt i) | none => pure (goInt (-1))) w = _
  rw [hs, hf]
  cases (List.range s.length).find? fun i => s.getD i 0 == UInt8.ofNat n.toNat <;> rfl
open Classical in
section
variable {P : Program} {G : Ghost} {w : World} {t : Tm} {a : Act} {o : Oper} {h : H} {x : AV}
theorem cOpB_raw {op : AOp} (h : cOpB P o = some op) : ∃ k xs, op = .raw k xs := by
  unfold cOpB at h
  repeat' split at h
  all_goals first
    | (cases h; done)
    | (cases h; exact ⟨_, _, rfl⟩)
    | (simp only [Option.map_eq_some_iff] at h; obtain ⟨_, _, rfl⟩ := h; exact ⟨_, _, rfl⟩)
theorem cOp_noraw (k : RK) (xs : List Opd) : cOp P o ≠ some (.raw k xs) := by
  intro h
  unfold cOp at h
  repeat' split at h
  all_goals first
    | (cases h; done)
    | (simp at h; done)
    | skip
theorem cOpB_plain {op : AOp} (h : cOpB P o = some op) : ∀ c, o.op ≠ .defer c := by
  intro c e
  unfold cOpB at h
  rw [e] at h
  cases h
theorem fill_arr (ht : TRel G w t a) {e : TypeId} : ∀ {l : List (Nat × Operand)} {ps : List (Nat × Nat)} {xs : List Opd} {cs cs' : List AV} {vs : List Value}, partsArr P e l = some (ps, xs) → putVals ps (xs.map (ev t)) cs = some cs' → VRels G w cs vs →
      ∃ vs', Instr.fill (fun i => some (i * P.cellsOf e, P.cellsOf e)) vs.toArray (l.map fun p => (p.1, a.eval p.2)) = some vs'.toArray ∧ VRels G w cs' vs'
  | [], ps, xs, cs, cs', vs, h1, h2, h3 => by
    simp only [partsArr, Option.some.injEq, Prod.mk.injEq] at h1
    obtain ⟨rfl, rfl⟩ := h1
    simp [putVals] at h2; subst h2
    exact ⟨vs, by simp [Instr.fill], h3⟩
  | (i, x) :: l, ps, xs, cs, cs', vs, h1, h2, h3 => by
    simp only [partsArr] at h1
    split at h1
    · rename_i b r hb hr
      simp only [Option.some.injEq, Prod.mk.injEq] at h1
      obtain ⟨rfl, rfl⟩ := h1
      simp only [List.map_cons, putVals] at h2
      split at h2
      · rename_i hc
        obtain ⟨c1, c2, c3⟩ := hc
        have rx := opd_rel hb ht
        obtain ⟨s1, s2⟩ := shaped_cells rx c3
        have hsz : (a.eval x).cells.size = P.cellsOf e := by have := s1.length; simpa [c1] using this
        have hl := h3.length
        have hnew : VRels G w (setAt cs (i * P.cellsOf e) (cellsOf (ev t b))) (vs.take (i * P.cellsOf e) ++ (a.eval x).cells.toList ++ vs.drop (i * P.cellsOf e + P.cellsOf e)) := by
          unfold setAt
          rw [c1]
          exact ((h3.take _).append s1).append (h3.drop _)
        obtain ⟨vs', e1, e2⟩ := fill_arr ht (ps := r.1) (xs := r.2) hr h2 hnew
        refine ⟨vs', ?_, e2⟩
        rw [List.map_cons, fill_one (place := fun i => some (i * P.cellsOf e, P.cellsOf e)) (off := i * P.cellsOf e) rfl hsz (by simp; omega)]
        exact e1
      · cases h2
    · cases h1
theorem extern_find {name : String} {g : Array Value → Sem Value} (hg : Extern.allGenericRows.lookup name = none) (ht : Extern.allTypedRows.lookup name = none) (ha : Extern.allRows.lookup name = some g) (hn : Extern.allNextRows.lookup name = none)
    {fn : Func} (h : fn.name = name) (ho : Extern.allNextRows.lookup fn.origin = none) : Extern.find fn = some g ∧ Extern.findNext fn = none := by
  unfold Extern.find Extern.findNext
  simp [h, hg, ht, ha, hn, ho]
theorem inv_i2f {k : FloatKind} {xs : List Opd} (hc : cOpB P o = some (.raw (.i2f k) xs)) : ∃ src dst z b q, o.op = .convert src dst z ∧ opd P src z = some b ∧ P.underlying src = some (.int q) ∧ P.underlying dst = some (.float k) ∧ xs = [b] := by
  unfold cOpB at hc
  repeat' split at hc
  all_goals first
    | (cases hc; done)
    | (simp at hc; done)
    | (cases hc; exact ⟨_, _, _, _, _, ‹_›, ‹_›, ‹_›, ‹_›, rfl⟩)
theorem inv_f2i {k : IntKind} {xs : List Opd} (hc : cOpB P o = some (.raw (.f2i k) xs)) : ∃ src dst z b q, o.op = .convert src dst z ∧ opd P src z = some b ∧ P.underlying src = some (.float q) ∧ P.underlying dst = some (.int k) ∧ xs = [b] := by
  unfold cOpB at hc
  repeat' split at hc
  all_goals first
    | (cases hc; done)
    | (simp at hc; done)
    | (cases hc; exact ⟨_, _, _, _, _, ‹_›, ‹_›, ‹_›, ‹_›, rfl⟩)
theorem inv_aidx {sz len : Nat} {n : Option Nat} {xs : List Opd} (hc : cOpB P o = some (.raw (.aidx sz n len) xs)) : ∃ ty z i b c e, o.op = .index ty z i ∧ opd P ty z = some b ∧ opd P 0 i = some c ∧ P.underlying ty = some (.array len e) ∧ (P.info? e).isSome = true ∧ (P.underlying e).isSome = true ∧ sz = P.cellsOf e ∧ n = (if isAggT P e then some (P.cellsOf e) else none) ∧ xs = [b, c] := by
  unfold cOpB at hc
  repeat' split at hc
  all_goals first
    | (cases hc; done)
    | (simp at hc; done)
    | (rename_i hq hg; cases hc; exact ⟨_, _, _, _, _, _, ‹_›, ‹_›, ‹_›, ‹_›, hq.1, hq.2, rfl, by simp [hg], rfl⟩)
theorem inv_paddr {sz len : Nat} {xs : List Opd} (hc : cOpB P o = some (.raw (.paddr sz len) xs)) : ∃ ty z i b c e, o.op = .indexAddr ty z i ∧ opd P 0 z = some b ∧ opd P 0 i = some c ∧ P.underlying ty = some (.array len e) ∧ (P.info? e).isSome = true ∧ sz = P.cellsOf e ∧ xs = [b, c] := by
  unfold cOpB at hc
  repeat' split at hc
  all_goals first
    | (cases hc; done)
    | (simp at hc; done)
    | (rename_i hq; cases hc; exact ⟨_, _, _, _, _, _, ‹_›, ‹_›, ‹_›, ‹_›, hq, rfl, rfl⟩)
theorem inv_abuild {zero : List AV} {ps : List (Nat × Nat)} {xs : List Opd} (hc : cOpB P o = some (.raw (.abuild zero ps) xs)) : ∃ ty parts n e z, o.op = .build ty parts ∧ P.underlying ty = some (.array n e) ∧ (P.info? ty).bind (·.zero) = some z ∧ constAV P ty z = some (.agg zero) ∧ partsArr P e parts.toList = some (ps, xs) ∧ (P.info? e).isSome = true := by
  unfold cOpB at hc
  repeat' split at hc
  all_goals first
    | (cases hc; done)
    | (simp at hc; done)
    | (rename_i hq; cases hc; exact ⟨_, _, _, _, _, ‹_›, ‹_›, ‹_›, ‹_›, ‹_›, hq⟩)
theorem inv_cplx {xs : List Opd} (hc : cOpB P o = some (.raw .cplx xs)) : ∃ c z1 z2 b1 b2, o.op = .call c ∧ c.callee = .builtin .complex ∧ c.args.toList = [z1, z2] ∧ opd P 0 z1 = some b1 ∧ opd P 0 z2 = some b2 ∧ xs = [b1, b2] := by
  unfold cOpB at hc
  repeat' split at hc
  all_goals first
    | (cases hc; done)
    | (simp at hc; done)
    | (cases hc; exact ⟨_, _, _, _, _, ‹_›, ‹_›, ‹_›, ‹_›, ‹_›, rfl⟩)
theorem inv_cpart {re : Bool} {xs : List Opd} (hc : cOpB P o = some (.raw (.cpart re) xs)) : ∃ c z b, o.op = .call c ∧ c.callee = .builtin (if re then .real else .imag) ∧ c.args.toList = [z] ∧ opd P 0 z = some b ∧ xs = [b] := by
  unfold cOpB at hc
  repeat' split at hc
  all_goals first
    | (cases hc; done)
    | (simp at hc; done)
    | (simp only [Option.map_eq_some_iff, Option.some.injEq, AOp.raw.injEq, RK.cpart.injEq] at hc; obtain ⟨b, hb, rfl, rfl⟩ := hc; exact ⟨_, _, _, ‹_›, by simpa using ‹_›, ‹_›, hb, rfl⟩)
theorem inv_bits {k : RK} {xs : List Opd} (hk : k = .fbits ∨ k = .fofbits) (hc : cOpB P o = some (.raw k xs)) : ∃ c z b f fn, o.op = .call c ∧ c.callee = .value (.func f) ∧ c.args.toList = [z] ∧ opd P 0 z = some b ∧ xs = [b] ∧ P.funcs[f]? = some fn ∧ fn.body.isNone = true ∧ fn.origin = "" ∧ fn.name = (match k with | .fbits => "math.Float64bits" | _ => "math.Float64frombits") := by
  rcases hk with rfl | rfl
  all_goals
    unfold cOpB at hc
    repeat' split at hc
    all_goals first
      | (cases hc; done)
      | (simp at hc; done)
      | (rename_i hq; simp only [Option.map_eq_some_iff, Option.some.injEq, AOp.raw.injEq, true_and] at hc; obtain ⟨b, hb, rfl⟩ := hc; exact ⟨_, _, _, _, _, ‹_›, ‹_›, ‹_›, hb, rfl, ‹_›, hq.1, hq.2.2, hq.2.1⟩)
theorem inv_ibyte {xs : List Opd} (hc : cOpB P o = some (.raw .ibyte xs)) : ∃ c z1 z2 b1 b2 f fn, o.op = .call c ∧ c.callee = .value (.func f) ∧ c.args.toList = [z1, z2] ∧ opd P 0 z1 = some b1 ∧ opd P 0 z2 = some b2 ∧ xs = [b1, b2] ∧ P.funcs[f]? = some fn ∧ fn.body.isNone = true ∧ fn.origin = "" ∧ fn.name = "internal/bytealg.IndexByteString" := by
  unfold cOpB at hc
  repeat' split at hc
  all_goals first
    | (cases hc; done)
    | (simp at hc; done)
    | (cases hc; rename_i hq _ _ _ _ _ _; exact ⟨_, _, _, _, _, _, _, ‹_›, ‹_›, ‹_›, ‹_›, ‹_›, rfl, ‹_›, hq.1, hq.2.2, hq.2.1⟩)
    | (cases hc; rename_i hq _ _ _ _; exact ⟨_, _, _, _, _, _, _, ‹_›, ‹_›, ‹_›, ‹_›, ‹_›, rfl, ‹_›, hq.1, hq.2.2, hq.2.1⟩)
theorem inv_s2a {len : Nat} {xs : List Opd} (hc : cOpB P o = some (.raw (.s2a len) xs)) : ∃ arr z b e, o.op = .sliceToArrayPointer arr z ∧ opd P 0 z = some b ∧ P.underlying arr = some (.array len e) ∧ xs = [b] := by
  unfold cOpB at hc
  repeat' split at hc
  all_goals first
    | (cases hc; done)
    | (simp at hc; done)
    | (cases hc; exact ⟨_, _, _, _, ‹_›, ‹_›, ‹_›, rfl⟩)
theorem inv_eqarr {neg : Bool} {n : Nat} {k : EK} {xs : List Opd} (hc : cOpB P o = some (.raw (.eqarr neg n k) xs)) : ∃ op xT x y yT b c e, o.op = .binOp op xT x y yT ∧ opd P xT x = some b ∧ opd P yT y = some c ∧ P.underlying xT = some (.array n e) ∧ eqKind P e = some k ∧ P.eqGuardType P.depth xT = false ∧ (P.info? e).isSome = true ∧ P.cellsOf e = 1 ∧ (op = .eql ∧ neg = false ∨ op = .neq ∧ neg = true) ∧ xs = [b, c] := by
  unfold cOpB at hc
  repeat' split at hc
  all_goals first
    | (cases hc; done)
    | (simp at hc; done)
    | (cases hc; have hq := ‹P.eqGuardType P.depth _ = false ∧ (P.info? _).isSome = true ∧ P.cellsOf _ = 1›; exact ⟨_, _, _, _, _, _, _, _, ‹_›, ‹_›, ‹_›, ‹_›, ‹_›, hq.1, hq.2.1, hq.2.2, .inl ⟨rfl, rfl⟩, rfl⟩)
    | (cases hc; have hq := ‹P.eqGuardType P.depth _ = false ∧ (P.info? _).isSome = true ∧ P.cellsOf _ = 1›; exact ⟨_, _, _, _, _, _, _, _, ‹_›, ‹_›, ‹_›, ‹_›, ‹_›, hq.1, hq.2.1, hq.2.2, .inr ⟨rfl, rfl⟩, rfl⟩)
theorem eqArr_run {d n : Nat} {e : TypeId} {k : EK} {xT : TypeId} {X Y : Array Value} {xs ys : List AV} {b : Bool} (hu : P.underlying xT = some (.array n e)) (hi : (P.info? e).isSome = true) (hce : P.cellsOf e = 1) (hk : eqKind P e = some k)
    (r1 : VRels G w xs X.toList) (r2 : VRels G w ys Y.toList) (h : eqCells (List.replicate n k) xs ys = some b) : (Op.equalIn (d + 2) xT (.agg X) (.agg Y)).run P w = .ok b w := by
  have heq : ∀ {x y : AV} {v u : Value} {b : Bool}, VRel G w x v → VRel G w y u → eqCell k x y = some b → (Op.equalIn (d + 1) e v u).run P w = .ok b w := fun r1 r2 h => eqCell_run hk r1 r2 h
  rw [show d + 2 = (d + 1) + 1 from rfl]
  generalize d + 1 = q at heq
  simp only [Op.equalIn, Sem.run_bind, run_underlying hu, Result.andThen_ok, run_size P w e hi, hce]
  rw [Std.Legacy.Range.forIn_eq_forIn_range']
  simp only [Std.Legacy.Range.size, Nat.sub_zero, Nat.add_sub_cancel, Nat.div_one, Nat.mul_one]
  have hL : ∃ i m, List.range' 0 n 1 = List.range' i m ∧ VRels G w xs (X.toList.drop i) ∧ VRels G w ys (Y.toList.drop i) ∧ eqCells (List.replicate m k) xs ys = some b := ⟨0, n, rfl, by simpa using r1, by simpa using r2, h⟩
  clear r1 r2 h hu
  generalize List.range' 0 n 1 = L at *
  induction L generalizing xs ys b with
  | nil =>
    obtain ⟨i, m, hL, q1, q2, h⟩ := hL
    cases m with
    | succ m => simp [List.range'_succ] at hL
    | zero =>
      cases xs <;> cases ys <;> simp only [List.replicate_zero, eqCells] at h <;> first | (cases h; done) | skip
      cases h
      simp
  | cons j L ih =>
    obtain ⟨i, m, hL, q1, q2, h⟩ := hL
    cases m with
    | zero => simp at hL
    | succ m =>
      rw [List.range'_succ] at hL
      simp only [List.cons.injEq] at hL
      obtain ⟨rfl, hL⟩ := hL
      rw [List.replicate_succ] at h
      cases xs with
      | nil => simp [eqCells] at h
      | cons x xs =>
        cases ys with
        | nil => simp [eqCells] at h
        | cons y ys =>
          simp only [VRels] at q1 q2
          obtain ⟨v, vs, e1, r1, q1⟩ := q1
          obtain ⟨u, us, e2, r2, q2⟩ := q2
          have g1 : X[j]? = some v := by
            have := congrArg (fun l => l[0]?) e1
            simpa using this
          have g2 : Y[j]? = some u := by
            have := congrArg (fun l => l[0]?) e2
            simpa using this
          have t1 : X.toList.drop (j + 1) = vs := by
            have := congrArg (List.drop 1) e1
            simpa [List.drop_drop] using this
          have t2 : Y.toList.drop (j + 1) = us := by
            have := congrArg (List.drop 1) e2
            simpa [List.drop_drop] using this
          simp only [eqCells] at h
          split at h
          · rename_i p c hp hc
            cases h
            have rec' := ih ⟨j + 1, m, hL, t1 ▸ q1, t2 ▸ q2, hc⟩
            simp only [List.forIn_cons, Sem.run_bind, part_cell_run hk g1, part_cell_run hk g2, Result.andThen_ok, heq r1 r2 hp]
            cases p
            · simp
            · simpa using rec'
          · cases h
theorem elems1 : ∀ {xs : List AV} {vs : List Value}, VElems G w 1 xs vs → xs.all isCell = true → VRels G w xs vs
  | [], vs, h, _ => by simpa [VElems, VRels] using h
  | x :: xs, vs, h, hc => by
    simp only [List.all_cons, Bool.and_eq_true] at hc
    simp only [VElems] at h
    obtain ⟨v, us, rfl, hv, hx, hr⟩ := h
    have h1 := cells_of hx (.inl hc.1)
    have e : cellsOf x = [x] := by cases x <;> first | rfl | (simp [isCell] at hc)
    rw [e] at h1
    exact VRels.append h1 (elems1 hr hc.2)
theorem look_i : Extern.allGenericRows.lookup "internal/bytealg.IndexByteString" = none ∧ Extern.allTypedRows.lookup "internal/bytealg.IndexByteString" = none ∧ Extern.allNextRows.lookup "internal/bytealg.IndexByteString" = none := ⟨by kernel_rfl, by kernel_rfl, by kernel_rfl⟩
theorem row_i : Extern.allRows.lookup "internal/bytealg.IndexByteString" = some Extern.BytealgIndexByte.indexByte := by kernel_rfl
theorem call_run {c : Call} {z1 z2 : Operand} {f : FuncId} {fn : Func} {g : Array Value → Sem Value} {v : Value} {ty : TypeId} (hcal : c.callee = .value (.func f)) (ha : c.args = #[z1, z2]) (hf : P.funcs[f]? = some fn) (hb : fn.body.isNone = true) (hn : fn.name ≠ "runtime.NumGoroutine")
    (h1 : Extern.find fn = some g) (h2 : Extern.findNext fn = none) (hg : (g #[a.eval z1, a.eval z2]).run P w = .ok v w) : (do let d ← resolve a.eval c ty; invoke d.target d.args : Sem Next).run P w = .ok (.value v) w := by
  have hb' : fn.body = none := by simpa using hb
  have he : a.eval (.func f) = .func (.func f) #[] #[] := rfl
  simp [resolve, hcal, ha, he, Deferred.ofValue, invoke, callFunc, hf, hn, hb', h1, h2, hg]
theorem int_rel {k : IntKind} {n : Int} {v : Value} (h : VRel G w (.int k n) v) : v = .int k n := by simpa [VRel] using h
theorem sc_rel {u v : Value} (h : VRel G w (.sc u) v) : v = u := by simpa [VRel] using h
theorem look_e : Extern.allNextRows.lookup "" = none := by kernel_rfl
theorem look_b : Extern.allGenericRows.lookup "math.Float64bits" = none ∧ Extern.allTypedRows.lookup "math.Float64bits" = none ∧ Extern.allNextRows.lookup "math.Float64bits" = none := ⟨by kernel_rfl, by kernel_rfl, by kernel_rfl⟩
theorem look_f : Extern.allGenericRows.lookup "math.Float64frombits" = none ∧ Extern.allTypedRows.lookup "math.Float64frombits" = none ∧ Extern.allNextRows.lookup "math.Float64frombits" = none := ⟨by kernel_rfl, by kernel_rfl, by kernel_rfl⟩
theorem row_b : Extern.allRows.lookup "math.Float64bits" = some Extern.MathFloatBits.float64bits := by kernel_rfl
theorem row_f : Extern.allRows.lookup "math.Float64frombits" = some Extern.MathFloatBits.float64frombits := by kernel_rfl
theorem bits_run {c : Call} {z : Operand} {f : FuncId} {fn : Func} {g : Array Value → Sem Value} {v : Value} {ty : TypeId} (hcal : c.callee = .value (.func f)) (ha : c.args = #[z]) (hf : P.funcs[f]? = some fn) (hb : fn.body.isNone = true) (hn : fn.name ≠ "runtime.NumGoroutine")
    (h1 : Extern.find fn = some g) (h2 : Extern.findNext fn = none) (hg : (g #[a.eval z]).run P w = .ok v w) : (do let d ← resolve a.eval c ty; invoke d.target d.args : Sem Next).run P w = .ok (.value v) w := by
  have hb' : fn.body = none := by simpa using hb
  have he : a.eval (.func f) = .func (.func f) #[] #[] := rfl
  simp [resolve, hcal, ha, he, Deferred.ofValue, invoke, callFunc, hf, hn, hb', h1, h2, hg]
theorem int_of {k : IntKind} {n : Int} : VRel G w (.int k n) (.int k n) := by simp [VRel]
theorem sc_of {u : Value} : VRel G w (.sc u) u := by simp [VRel]
theorem raw_plain {k : RK} {xs : List Opd} (hc : cOpB P o = some (.raw k xs)) (hx : rawAV k (xs.map (ev t)) = some x) (ht : TRel G w t a) : Plain P G w a o x := by
  cases k with
  | i2f k =>
    obtain ⟨src, dst, z, b, q, hop, h1, h2, h3, rfl⟩ := inv_i2f hc
    have r1 := opd_rel h1 ht
    simp only [List.map_cons, List.map_nil, rawAV] at hx
    split at hx <;> try (cases hx; done)
    rename_i e
    simp only [List.cons.injEq, and_true] at e
    rw [e] at r1
    cases hx
    refine ⟨_, ?_, sc_of⟩
    simp only [execOp, hop, int_rel r1]
    simp [run_convert_int_float w src dst _ _ _ (by rw [h2]; rfl) h3]
  | f2i k =>
    obtain ⟨src, dst, z, b, q, hop, h1, h2, h3, rfl⟩ := inv_f2i hc
    have r1 := opd_rel h1 ht
    simp only [List.map_cons, List.map_nil, rawAV] at hx
    split at hx <;> try (cases hx; done)
    rename_i e
    simp only [List.cons.injEq, and_true] at e
    rw [e] at r1
    simp only [Option.map_eq_some_iff] at hx
    obtain ⟨n, hn, rfl⟩ := hx
    refine ⟨_, ?_, int_of⟩
    simp only [execOp, hop, sc_rel r1]
    simp [run_convert_float_int w src dst _ _ _ _ (by rw [h2]; rfl) h3 hn]
  | cplx =>
    obtain ⟨c, z1, z2, b1, b2, hop, hcal, ha, h1, h2, rfl⟩ := inv_cplx hc
    have r1 := opd_rel h1 ht
    have r2 := opd_rel h2 ht
    have ha' : c.args = #[z1, z2] := by rw [← Array.toArray_toList (xs := c.args), ha]
    simp only [List.map_cons, List.map_nil, rawAV] at hx
    split at hx <;> try (cases hx; done)
    rename_i e
    simp only [List.cons.injEq, and_true] at e
    rw [e.1] at r1
    rw [e.2] at r2
    split at hx <;> cases hx
    rename_i ek
    subst ek
    refine ⟨_, ?_, sc_of⟩
    simp [execOp, hop, resolve, hcal, ha', sc_rel r1, sc_rel r2, invoke, builtin, run_complex]
  | cpart re =>
    obtain ⟨c, z, b, hop, hcal, ha, h1, rfl⟩ := inv_cpart hc
    have r1 := opd_rel h1 ht
    have ha' : c.args = #[z] := by rw [← Array.toArray_toList (xs := c.args), ha]
    simp only [List.map_cons, List.map_nil, rawAV] at hx
    split at hx <;> try (cases hx; done)
    rename_i e
    simp only [List.cons.injEq, and_true] at e
    rw [e] at r1
    cases hx
    cases re
    · refine ⟨_, ?_, sc_of⟩
      simp at hcal
      simp [execOp, hop, resolve, hcal, ha', sc_rel r1, invoke, builtin, run_imag]
    · refine ⟨_, ?_, sc_of⟩
      simp at hcal
      simp [execOp, hop, resolve, hcal, ha', sc_rel r1, invoke, builtin, run_real]
  | fbits =>
    obtain ⟨c, z, b, f, fn, hop, hcal, ha, h1, rfl, hf, hb, ho, hn⟩ := inv_bits (.inl rfl) hc
    obtain ⟨e1, e2⟩ := extern_find look_b.1 look_b.2.1 row_b look_b.2.2 hn (by rw [ho]; exact look_e)
    have r1 := opd_rel h1 ht
    have ha' : c.args = #[z] := by rw [← Array.toArray_toList (xs := c.args), ha]
    simp only [List.map_cons, List.map_nil, rawAV] at hx
    split at hx <;> try (cases hx; done)
    rename_i e
    simp only [List.cons.injEq, and_true] at e
    rw [e] at r1
    cases hx
    refine ⟨_, ?_, int_of⟩
    simp only [execOp, hop]
    exact bits_run hcal ha' hf hb (by rw [hn]; simp) e1 e2 (by rw [sc_rel r1]; rfl)
  | fofbits =>
    obtain ⟨c, z, b, f, fn, hop, hcal, ha, h1, rfl, hf, hb, ho, hn⟩ := inv_bits (.inr rfl) hc
    obtain ⟨e1, e2⟩ := extern_find look_f.1 look_f.2.1 row_f look_f.2.2 hn (by rw [ho]; exact look_e)
    have r1 := opd_rel h1 ht
    have ha' : c.args = #[z] := by rw [← Array.toArray_toList (xs := c.args), ha]
    simp only [List.map_cons, List.map_nil, rawAV] at hx
    split at hx <;> try (cases hx; done)
    rename_i e
    simp only [List.cons.injEq, and_true] at e
    rw [e] at r1
    cases hx
    refine ⟨_, ?_, sc_of⟩
    simp only [execOp, hop]
    exact bits_run hcal ha' hf hb (by rw [hn]; simp) e1 e2 (by rw [int_rel r1]; rfl)
  | ibyte =>
    obtain ⟨c, z1, z2, b1, b2, f, fn, hop, hcal, ha, h1, h2, rfl, hf, hb, ho, hn⟩ := inv_ibyte hc
    obtain ⟨e1, e2⟩ := extern_find look_i.1 look_i.2.1 row_i look_i.2.2 hn (by rw [ho]; exact look_e)
    have r1 := opd_rel h1 ht
    have r2 := opd_rel h2 ht
    have ha' : c.args = #[z1, z2] := by rw [← Array.toArray_toList (xs := c.args), ha]
    simp only [List.map_cons, List.map_nil, rawAV] at hx
    split at hx <;> try (cases hx; done)
    rename_i s n q
    simp only [List.cons.injEq, and_true] at q
    rw [q.1] at r1
    rw [q.2] at r2
    split at hx <;> cases hx
    rename_i hq
    refine ⟨_, ?_, int_of⟩
    simp only [execOp, hop]
    refine call_run hcal ha' hf hb (by rw [hn]; simp) e1 e2 ?_
    have r1' : a.eval z1 = .string ⟨s.toArray⟩ := by simpa [VRel] using r1
    rw [r1', int_rel r2]
    exact ib_run P w s n
  | aidx sz n len =>
    obtain ⟨ty, z, i, b, c, e, hop, h1, h2, hu, hi, hui, rfl, rfl, rfl⟩ := inv_aidx hc
    have r1 := opd_rel h1 ht
    have r2 := opd_rel h2 ht
    simp only [List.map_cons, List.map_nil, rawAV] at hx
    split at hx <;> try (cases hx; done)
    rename_i q
    simp only [List.cons.injEq, and_true] at q
    rw [q.1] at r1
    rw [q.2] at r2
    split at hx <;> try (cases hx; done)
    rename_i hq
    simp only [VRel] at r1
    obtain ⟨vs, hv, hr⟩ := r1
    obtain ⟨v, e1, e2⟩ := run_part P w e _ _ vs hi hui hr hx
    exact ⟨v, by simp [execOp, hop, Instr.index, run_underlying hu, hv, int_rel r2, asIntOf, hq.1, hq.2, run_size P w e hi, e1], e2⟩
  | paddr sz len =>
    obtain ⟨ty, z, i, b, c, e, hop, h1, h2, hu, hi, rfl, rfl⟩ := inv_paddr hc
    have r1 := opd_rel h1 ht
    have r2 := opd_rel h2 ht
    simp only [List.map_cons, List.map_nil, rawAV] at hx
    split at hx <;> try (cases hx; done)
    · rename_i q
      simp only [List.cons.injEq, and_true] at q
      rw [q.1] at r1
      rw [q.2] at r2
      split at hx <;> cases hx
      rename_i hq
      simp only [VRel] at r1
      obtain ⟨hd, hv⟩ := r1
      refine .mk (v := .pointer (some ⟨G.ι _, _, none⟩)) ?_ (by simp only [VRel]; exact ⟨hd, rfl⟩)
      simp [execOp, hop, Instr.indexAt, run_underlying hu, hv, int_rel r2, asIntOf, Instr.sureAddr, hq.1, hq.2, run_size P w e hi, add_plain]
    · rename_i q
      simp only [List.cons.injEq, and_true] at q
      rw [q.1] at r1
      rw [q.2] at r2
      split at hx <;> cases hx
      rename_i hq
      simp only [VRel] at r1
      obtain ⟨B, off, vs, hv, hr, him⟩ := r1
      refine .mk (v := .pointer (some ⟨B, _, none⟩)) ?_ (by simp only [VRel]; exact ⟨B, _, _, rfl, hr.drop _, him.drop _⟩)
      simp [execOp, hop, Instr.indexAt, run_underlying hu, hv, int_rel r2, asIntOf, Instr.sureAddr, hq.1, hq.2, run_size P w e hi, add_plain]
  | abuild zero ps =>
    obtain ⟨ty, parts, n, e, z, hop, hu, hz, hzc, hps, hi⟩ := inv_abuild hc
    simp only [rawAV, Option.map_eq_some_iff] at hx
    obtain ⟨cs, hcs, rfl⟩ := hx
    have r := const_rel (G := G) (w := w) hzc
    simp only [VRel] at r
    obtain ⟨vs, rfl, hr⟩ := r
    obtain ⟨vs', e1, e2⟩ := fill_arr ht hps hcs hr
    refine ⟨.agg vs'.toArray, ?_, by simp only [VRel]; exact ⟨vs', rfl, e2⟩⟩
    obtain ⟨i, hi1, hi2⟩ := Option.bind_eq_some_iff.1 hz
    have hmap : (parts.map fun (i, x) => (i, a.eval x)).toList = parts.toList.map fun p => (p.1, a.eval p.2) := by simp
    simp only [execOp, hop, Instr.build, Sem.run_bind, zeroValue, typeInfo, run_program, hi1, hi2, Result.andThen_ok, Sem.run_pure, run_underlying hu, run_size P w e hi, Value.cells, hmap, e1]
  | slp sz n => simp [rawAV] at hx
  | cpy => simp [rawAV] at hx
  | s2a len =>
    obtain ⟨arr, z, b, e, hop, h1, hu, rfl⟩ := inv_s2a hc
    have r1 := opd_rel h1 ht
    simp only [List.map_cons, List.map_nil, rawAV] at hx
    split at hx <;> try (cases hx; done)
    rename_i q
    simp only [List.cons.injEq, and_true] at q
    rw [q] at r1
    split at hx <;> cases hx
    rename_i hq
    obtain ⟨rfl, q1, q2, q3⟩ := hq
    simp only [VRel] at r1
    rcases r1 with ⟨rfl, -, -⟩ | ⟨B, off, C, vs, hv, -, -, he, him, -⟩
    · simp at q2; omega
    · refine ⟨.pointer (some ⟨B, off, none⟩), ?_, by simp only [VRel]; exact ⟨B, off, vs, rfl, elems1 he q3, him⟩⟩
      simp [execOp, hop, Instr.arrayAt, run_underlying hu, hv, Nat.not_lt.2 q2]
  | eqarr neg n k =>
    obtain ⟨op, xT, x0, y0, yT, b, c, e, hop, h1, h2, hu, hk, hg, hi, hce, hn, rfl⟩ := inv_eqarr hc
    have r1 := opd_rel h1 ht
    have r2 := opd_rel h2 ht
    simp only [List.map_cons, List.map_nil, rawAV] at hx
    split at hx <;> try (cases hx; done)
    rename_i q
    simp only [List.cons.injEq, and_true] at q
    rw [q.1] at r1
    rw [q.2] at r2
    simp only [Option.map_eq_some_iff] at hx
    obtain ⟨r, hr, rfl⟩ := hx
    unfold Plain
    simp only [execOp, hop]
    generalize a.eval x0 = vx at *
    generalize a.eval y0 = vy at *
    simp only [VRel] at r1 r2
    obtain ⟨vs, rfl, r1⟩ := r1
    obtain ⟨us, rfl, r2⟩ := r2
    have key : (Op.equalIn 10000 xT (.agg vs.toArray) (.agg us.toArray)).run P w = .ok r w := eqArr_run (d := 9998) hu hi hce hk (by simpa using r1) (by simpa using r2) hr
    rcases hn with ⟨rfl, rfl⟩ | ⟨rfl, rfl⟩
    · exact ⟨.bool r, by simp [run_eqGuard_agg w _ _ _ _ _ _ hg, run_eql_struct, key], by simp [VRel]⟩
    · exact ⟨.bool (!r), by simp [run_eqGuard_agg w _ _ _ _ _ _ hg, run_neq_struct, key], by simp [VRel]⟩
end
end Go.Av
end
section
set_option linter.unusedVariables false
set_option linter.unusedSimpArgs false
namespace Go.Av
structure AItem where
  dst : Option Nat
  guard : Option (Nat × Bool)
  op : AOp
inductive AC where
  | skip
  | reg (items : List AItem) (pairs : Option (List (Nat × Nat)))
  | seq (a b : AC)
  | cond (c : Opd) (a b : AC)
  | block (id : Nat) (a : AC)
  | loop (a : AC)
  | exit (id : Nat)
  | ret
  | scope (a : AC)
  | label (l : Nat)
  | goto (l : Nat)
  | rfun (g : Opd) (ps : List Nat) (asg body : AC)
def opdsOf : AOp → List Opd
  | .mov x | .box x | .eqN _ x | .un _ x | .conv _ x | .load _ x | .faddr _ x | .fld _ _ x | .ext x _ | .nilck x | .len _ x | .clr _ _ x | .mlen x | .eqM _ x | .cap x | .ifc _ x | .pan x => [x]
  | .pick a b c | .mput a b c | .mputK _ a b c => [a, b, c]
  | .alloc _ | .mkmap | .dead => []
  | .build _ parts => parts.map fun p => p.2.2
  | .buildSl _ parts => parts
  | .store _ x y | .bin _ x y | .eqB _ x y | .eqA _ _ x y | .mm _ x y | .mlook _ _ x y | .mdel x y | .mlookK _ _ _ x y | .mdelK _ x y | .eqP _ x y | .eqQ _ x y | .iaddr _ x y | .idx x y | .mksl _ _ _ x y | .app _ _ _ x y | .appz _ _ _ x y => [x, y]
  | .mkfn _ a b => a ++ b
  | .slc _ _ x a b c => x :: (a.toList ++ b.toList ++ c.toList)
  | .call _ l => l
  | .callv x l => x :: l
  | .raw _ l => l
def tmpsOf (l : List Opd) : List Nat := l.filterMap fun | .t i => some i | _ => none
def cGuard (ops : Array Oper) : Option (Nat × Bool) → Option (Option (Nat × Bool))
  | none => some none
  | some (j, w) => match (ops[j]?).bind (·.dst) with
    | some d => some (some (d, w))
    | none => none
def cOpD (P : Program) (o : Oper) : Option AOp := some (match cOp P o with
  | some q => q
  | none => (cOpB P o).getD .dead)
def isRaw : AOp → Bool
  | .raw _ _ => true
  | _ => false
theorem cOpD_raw {P : Program} {o : Oper} {k : RK} {xs : List Opd} (h : cOpD P o = some (.raw k xs)) : cOpB P o = some (.raw k xs) := by
  simp only [cOpD, Option.some.injEq] at h
  split at h
  · rename_i q hc
    subst h
    exact absurd hc (cOp_noraw _ _)
  · cases hb : cOpB P o with
    | none => rw [hb] at h; simp at h
    | some q => rw [hb] at h; simp at h; rw [h]
theorem cOpD_of {P : Program} {o : Oper} {op : AOp} (h : cOpD P o = some op) (hn : op ≠ .dead) (hr : isRaw op = false) : cOp P o = some op := by
  simp only [cOpD, Option.some.injEq] at h
  cases hc : cOp P o with
  | none =>
    rw [hc] at h
    simp only at h
    cases hb : cOpB P o with
    | none => rw [hb] at h; exact absurd h.symm hn
    | some q =>
      rw [hb] at h
      obtain ⟨k, xs, rfl⟩ := cOpB_raw hb
      simp at h
      subst h
      simp [isRaw] at hr
  | some q => rw [hc] at h; simp at h; rw [h]
def cItem (P : Program) (N : Nat) (ops : Array Oper) (o : Oper) : Option AItem :=
  match cOpD P o, cGuard ops o.guard with
  | some op, some g => if o.dst.all (fun d => decide (d < N)) && (tmpsOf (opdsOf op)).all (fun i => (names ops o).contains i) then some ⟨o.dst, g, op⟩ else none
  | _, _ => none
def cItems (P : Program) (N : Nat) (ops : Array Oper) : List Oper → Option (List AItem)
  | [] => some []
  | o :: l => match cItem P N ops o, cItems P N ops l with
    | some a, some r => some (a :: r)
    | _, _ => none
def touchy : AOp → Bool
  | .alloc _ | .box _ | .load _ _ | .store _ _ _ | .conv .s2b _ | .conv .s2s _ | .mksl _ _ _ _ _ | .app _ _ _ _ _ | .appz _ _ _ _ _ | .clr _ _ _ | .mkmap | .mlook _ _ _ _ | .mput _ _ _ | .mdel _ _ | .mlen _ | .mlookK _ _ _ _ _ | .mputK _ _ _ _ | .mdelK _ _ _ | .eqQ _ _ _ | .buildSl _ _ | .call _ _ | .callv _ _ | .pan _ | .raw (.slp _ _) _ | .raw .cpy _ => true
  | _ => false
def tidy (ops : Array Oper) : Bool :=
  let b := Region.before ops
  let l := ops.toList.zipIdx
  (l.all fun (o, i) => o.after.all fun e => !Region.binds .any e || decide (e.on < i)) &&
  l.all fun (o, i) => match o.dst with
    | none => true
    | some d => l.all fun (o', j) => i == j || !(names ops o').contains d || (b.getD j 0).testBit i || (b.getD i 0).testBit j
def pairsOf (ops : Array Oper) (items : List AItem) : List (Nat × Nat) :=
  let b := Region.before ops
  (List.range ops.size).flatMap fun j => (List.range j).filterMap fun i =>
    if (match items[i]?, items[j]? with | some x, some y => touchy x.op && touchy y.op | _, _ => false) && !(b.getD j 0).testBit i then some (i, j) else none
def noRF : Code → Bool
  | .rangeFunc _ _ _ _ => false
  | .seq a b => noRF a && noRF b
  | .cond _ a b => noRF a && noRF b
  | .block _ a => noRF a
  | .loop a => noRF a
  | .scope a => noRF a
  | _ => true
def okR (c : Code) (ro : Option Nat) : Prop := ro = none ∨ noRF c = true
def cCode (P : Program) (N : Nat) : Code → Option AC
  | .skip => some .skip
  | .region _ ops draw => match cItems P N ops ops.toList with
    | some items => if draw then (if P.follows .mixedOrders && tidy ops then some (.reg items (some (pairsOf ops items))) else none) else some (.reg items none)
    | none => none
  | .seq a b => match cCode P N a, cCode P N b with
    | some x, some y => some (.seq x y)
    | _, _ => none
  | .cond c a b => match opd P 0 c, cCode P N a, cCode P N b with
    | some c, some x, some y => some (.cond c x y)
    | _, _, _ => none
  | .block id a => (cCode P N a).map (.block id)
  | .loop a => (cCode P N a).map .loop
  | .exit id => some (.exit id)
  | .ret => some .ret
  | .scope a => (cCode P N a).map .scope
  | .label l => some (.label l)
  | .goto l => some (.goto l)
  | .rangeFunc g ps asg body => match opd P 0 g, cCode P N asg, cCode P N body with
    | some g, some x, some y => if noRF asg && noRF body then some (.rfun g ps.toList x y) else none
    | _, _, _ => none
  | .refuse _ => none
def VSub (x y : AV) : Prop := ∀ G w v, VRel G w x v → VRel G w y v
theorem VSub.refl (x : AV) : VSub x x := fun _ _ _ h => h
theorem VSub.trans {x y z : AV} (a : VSub x y) (b : VSub y z) : VSub x z := fun G w v h => b G w v (a G w v h)
theorem VSub.any (x : AV) : VSub x .any := fun _ _ _ _ => by simp [VRel]
def VSubs (l m : List AV) : Prop := ∀ G w vs, VRels G w l vs → VRels G w m vs
theorem VSubs.refl (l : List AV) : VSubs l l := fun _ _ _ h => h
theorem VSubs.nil : VSubs [] [] := VSubs.refl _
theorem VSubs.cons {x y : AV} {l m : List AV} (a : VSub x y) (b : VSubs l m) : VSubs (x :: l) (y :: m) := by
  intro G w vs h
  simp only [VRels] at h ⊢
  obtain ⟨v, us, e, h1, h2⟩ := h
  exact ⟨v, us, e, a G w v h1, b G w us h2⟩
theorem VSub.cap {sz : Nat} {xs : List AV} {c : Cap} : VSub (.sl sz xs c) (.sl sz xs .any) := by
  intro G w v h
  simp only [VRel] at h ⊢
  rcases h with ⟨a, b, _⟩ | ⟨B, off, C, vs, h1, h2, h3, h4, h5, h6⟩
  · exact .inl ⟨a, b, by simp [CapNil]⟩
  · exact .inr ⟨B, off, C, vs, h1, h2, h3, h4, h5, by simp [CapOk]⟩
theorem VSub.nil {sz sz' : Nat} {c : Cap} : VSub (.sl sz [] c) (.sl sz' [] .any) := by
  intro G w v h
  simp only [VRel] at h ⊢
  rcases h with ⟨a, b, _⟩ | ⟨B, off, C, vs, h1, h2, h3, h4, h5, h6⟩
  · exact .inl ⟨a, b, by simp [CapNil]⟩
  · have hv : vs = [] := by simpa using h3
    subst hv
    exact .inr ⟨B, off, C, [], h1, h2, by simp, by simp [VElems], Imm.nil, by simp [CapOk]⟩
theorem VSub.agg {l m : List AV} (a : VSubs l m) : VSub (.agg l) (.agg m) := by
  intro G w v h
  simp only [VRel] at h ⊢
  obtain ⟨vs, e, h⟩ := h
  exact ⟨vs, e, a G w vs h⟩
theorem VSub.tup {l m : List AV} (a : VSubs l m) : VSub (.tup l) (.tup m) := by
  intro G w v h
  simp only [VRel] at h ⊢
  obtain ⟨vs, e, h⟩ := h
  exact ⟨vs, e, a G w vs h⟩
section
variable {P : Program}
def ACalls (P : Program) (f : FuncId) (args : List AV) (h : H) (r : AV) (h' : H) : Prop :=
  ∀ G w vs, VRels G w args vs → RepH G h w → Fresh G h h' → Calls P f vs.toArray w fun e w' => ∃ v G', e = .returned v ∧ Trans G w h G' w' h' ∧ RepH G' h' w' ∧ VRel G' w' r v
def H0 (n m : Nat) : H := .only none' [] n m
def PCalls (P : Program) (f : FuncId) (args : List AV) (r : AV) : Prop := ∀ n m, ACalls P f args (H0 n m) r (H0 n m)
structure St where
  t : Tm
  h : H
inductive AExit where
  | normal
  | exit (id : Nat)
  | goto (l : Nat)
  | ret
  | panic (v : Value)
def AExit.says : AExit → Exit → Prop
  | .normal, .normal => True
  | .exit i, .exit j => i = j
  | .goto i, .goto j => i = j
  | .ret, .ret => True
  | .panic v, .panic l => l = [{ v := v, recovered := false }]
  | _, _ => False
def Marks (G : Ghost) (w : World) (h : H) (l : List Deferred) : Prop := l.Nodup ∧ ∀ d ∈ l, ∃ D, d = { target := .collected D, args := #[] } ∧ w.heap[D]? = some (.deferred (some [])) ∧ ¬ h.O G D ∧ ¬ h.T G D
theorem heap_lt {w : World} {B : Nat} {o : Go.Obj} (h : w.heap[B]? = some o) : B < w.heap.size := by
  rcases Nat.lt_or_ge B w.heap.size with hb | hb
  · exact hb
  · have : w.heap[B]? = none := by simp; omega
    rw [this] at h; cases h
theorem Marks.mono {G G' : Ghost} {w w' : World} {h h' : H} {l : List Deferred} (m : Marks G w h l) (T : Trans G w h G' w' h') : Marks G' w' h' l := by
  refine ⟨m.1, fun d hd => ?_⟩
  obtain ⟨D, e, h1, h2, h3⟩ := m.2 d hd
  have hB := heap_lt h1
  exact ⟨D, e, (T.keep D hB h2 h3).trans h1, fun x => h2 (T.O_new D hB x), fun x => h3 (T.T_new D hB x)⟩
structure Rel (N : Nat) (s : St) (G : Ghost) (w : World) (a : Act) : Prop where
  size : a.tmps.size = N
  t : TRel G w s.t a
  h : RepH G s.h w
  df : Marks G w s.h a.defers
def NewM (w : World) (l l' : List Deferred) : Prop := ∀ d ∈ l', d ∈ l ∨ ∃ D, w.heap.size ≤ D ∧ d = { target := .collected D, args := #[] }
theorem NewM.refl {w : World} {l : List Deferred} : NewM w l l := fun d h => .inl h
theorem NewM.trans {w w' : World} {l l' l'' : List Deferred} (a : NewM w l l') (hs : w.heap.size ≤ w'.heap.size) (b : NewM w' l' l'') : NewM w l l'' := by
  intro d h
  rcases b d h with h | ⟨D, h1, h2⟩
  · exact a d h
  · exact .inr ⟨D, by omega, h2⟩
def Run (P : Program) (N : Nat) (c : Code) (s : St) (e : AExit) (s' : St) : Prop :=
  (s.h.n ≤ s'.h.n ∧ s.h.m ≤ s'.h.m) ∧ ∀ ro, okR c ro → ∀ G w a, Rel N s G w a → Fresh G s.h s'.h → c.wpIn (rd ro) 0 P (fun e' a' w' => e.says e' ∧ NewM w a.defers a'.defers ∧ ∃ G', Trans G w s.h G' w' s'.h ∧ Rel N s' G' w' a') a w
def Wp (P : Program) (N : Nat) (c : AC) (s : St) (Q : AExit → St → Prop) : Prop :=
  ∀ code, cCode P N code = some c → ∃ e s', Run P N code s e s' ∧ Q e s'
variable {N : Nat} {s : St} {Q : AExit → St → Prop}
theorem okR.seq {a b : Code} {ro : Option Nat} (h : okR (.seq a b) ro) : okR a ro ∧ okR b ro := by
  rcases h with h | h
  · exact ⟨.inl h, .inl h⟩
  · simp only [noRF, Bool.and_eq_true] at h
    exact ⟨.inr h.1, .inr h.2⟩
theorem okR.cond {z : Operand} {a b : Code} {ro : Option Nat} (h : okR (.cond z a b) ro) (c : Bool) : okR (if c then a else b) ro := by
  rcases h with h | h
  · exact .inl h
  · simp only [noRF, Bool.and_eq_true] at h
    cases c
    · exact .inr h.2
    · exact .inr h.1
theorem okR.block {id : Nat} {a : Code} {ro : Option Nat} (h : okR (.block id a) ro) : okR a ro := h
theorem okR.loop {a : Code} {ro : Option Nat} (h : okR (.loop a) ro) : okR a ro := h
theorem okR.scope {a : Code} {ro : Option Nat} (h : okR (.scope a) ro) : okR a ro := h
theorem okR.find {l : Nat} {ro : Option Nat} : ∀ {c rest : Code}, okR c ro → findLabel c l = some rest → okR rest ro := by
  intro c rest h hf
  rcases h with h | h
  · exact .inl h
  · right
    induction c generalizing rest with
    | seq a b iha ihb =>
      simp only [noRF, Bool.and_eq_true] at h
      simp only [findLabel] at hf
      split at hf
      · rename_i r hr
        cases hf
        simp only [noRF, Bool.and_eq_true]
        exact ⟨iha hr h.1, h.2⟩
      · exact ihb hf h.2
    | label l' =>
      simp only [findLabel] at hf
      split at hf
      · cases hf; rfl
      · cases hf
    | _ => simp [findLabel] at hf
theorem Wp.mono {c : AC} {Q' : AExit → St → Prop} (h : Wp P N c s Q) (hq : ∀ e s', Q e s' → Q' e s') : Wp P N c s Q' :=
  fun code hc => let ⟨e, s', r, q⟩ := h code hc; ⟨e, s', r, hq e s' q⟩
theorem code_skip {code : Code} (h : cCode P N code = some .skip) : code = .skip := by
  unfold cCode at h
  split at h <;> (try rfl) <;> (try cases h)
  all_goals (repeat' split at h) <;> (try cases h) <;> simp at h
theorem Wp.skip (h : Q .normal s) : Wp P N .skip s Q := by
  intro code hc
  obtain rfl := code_skip hc
  exact ⟨.normal, s, ⟨⟨Nat.le_refl _, Nat.le_refl _⟩, fun ro okc G w a r _ => wpIn_skip ⟨trivial, .refl, G, Trans.refl _ _ _, r⟩⟩, h⟩
theorem code_exit {code : Code} {id : Nat} (h : cCode P N code = some (.exit id)) : code = .exit id := by
  unfold cCode at h
  split at h <;> (try rfl) <;> (try cases h)
  all_goals (repeat' split at h) <;> (try cases h) <;> (try rfl) <;> simp at h
theorem Wp.exit {id : Nat} (h : Q (.exit id) s) : Wp P N (.exit id) s Q := by
  intro code hc
  obtain rfl := code_exit hc
  exact ⟨.exit id, s, ⟨⟨Nat.le_refl _, Nat.le_refl _⟩, fun ro okc G w a r _ => wpIn_exit ⟨rfl, .refl, G, Trans.refl _ _ _, r⟩⟩, h⟩
theorem code_ret {code : Code} (h : cCode P N code = some .ret) : code = .ret := by
  unfold cCode at h
  split at h <;> (try rfl) <;> (try cases h)
  all_goals (repeat' split at h) <;> (try cases h) <;> (try rfl) <;> simp at h
theorem Wp.ret (h : Q .ret s) : Wp P N .ret s Q := by
  intro code hc
  obtain rfl := code_ret hc
  exact ⟨.ret, s, ⟨⟨Nat.le_refl _, Nat.le_refl _⟩, fun ro okc G w a r _ => wpIn_ret ⟨trivial, .refl, G, Trans.refl _ _ _, r⟩⟩, h⟩
theorem code_seq {code : Code} {x y : AC} (h : cCode P N code = some (.seq x y)) : ∃ a b, code = .seq a b ∧ cCode P N a = some x ∧ cCode P N b = some y := by
  cases code <;> simp only [cCode] at h <;> (try cases h)
  · (repeat' split at h) <;> cases h
  · split at h
    · cases h; exact ⟨_, _, rfl, ‹_›, ‹_›⟩
    · cases h
  · (repeat' split at h) <;> cases h
  all_goals first | (simp at h; done) | ((repeat' split at h) <;> cases h; done)
def AExit.andThen (K : St → Prop) (Q : AExit → St → Prop) : AExit → St → Prop
  | .normal, s => K s
  | e, s => Q e s
theorem Wp.seq {x y : AC} (h : Wp P N x s (AExit.andThen (fun s' => Wp P N y s' Q) Q)) : Wp P N (.seq x y) s Q := by
  intro code hc
  obtain ⟨a, b, rfl, ha, hb⟩ := code_seq hc
  obtain ⟨e, s1, r1, q1⟩ := h a ha
  cases e with
  | normal =>
    obtain ⟨e2, s2, r2, q2⟩ := q1 b hb
    obtain ⟨⟨l1, l2⟩, r1⟩ := r1
    obtain ⟨⟨l3, l4⟩, r2⟩ := r2
    refine ⟨e2, s2, ⟨⟨by omega, by omega⟩, fun ro okc G w ac r F => wpIn_seq (wpIn_mono (r1 ro okc.seq.1 G w ac r (F.sub (Nat.le_refl _) l3 (Nat.le_refl _) l4)) ?_)⟩, q2⟩
    rintro e' a' w' ⟨h1, h2, G', T1, r'⟩
    cases e' <;> simp only [AExit.says] at h1
    refine wpIn_mono (r2 ro okc.seq.2 G' w' a' r' (F.step T1)) ?_
    rintro e'' a'' w'' ⟨k1, k2, G'', T2, r''⟩
    exact ⟨k1, h2.trans T1.size_le k2, G'', T1.trans r.h r'.h T2, r''⟩
  | exit id =>
    refine ⟨.exit id, s1, ⟨r1.1, fun ro okc G w ac r F => wpIn_seq (wpIn_mono (r1.2 ro okc.seq.1 G w ac r F) ?_)⟩, q1⟩
    rintro e' a' w' ⟨h1, h2⟩
    cases e' <;> simp only [AExit.says] at h1
    exact ⟨h1, h2⟩
  | goto l =>
    refine ⟨.goto l, s1, ⟨r1.1, fun ro okc G w ac r F => wpIn_seq (wpIn_mono (r1.2 ro okc.seq.1 G w ac r F) ?_)⟩, q1⟩
    rintro e' a' w' ⟨h1, h2⟩
    cases e' <;> simp only [AExit.says] at h1
    exact ⟨h1, h2⟩
  | ret =>
    refine ⟨.ret, s1, ⟨r1.1, fun ro okc G w ac r F => wpIn_seq (wpIn_mono (r1.2 ro okc.seq.1 G w ac r F) ?_)⟩, q1⟩
    rintro e' a' w' ⟨h1, h2⟩
    cases e' <;> simp only [AExit.says] at h1
    exact ⟨trivial, h2⟩
  | panic v =>
    refine ⟨.panic v, s1, ⟨r1.1, fun ro okc G w ac r F => wpIn_seq (wpIn_mono (r1.2 ro okc.seq.1 G w ac r F) ?_)⟩, q1⟩
    rintro e' a' w' ⟨h1, h2⟩
    cases e' <;> simp only [AExit.says] at h1
    exact ⟨h1, h2⟩
theorem code_cond {code : Code} {c : Opd} {x y : AC} (h : cCode P N code = some (.cond c x y)) : ∃ z a b, code = .cond z a b ∧ opd P 0 z = some c ∧ cCode P N a = some x ∧ cCode P N b = some y := by
  cases code <;> simp only [cCode] at h <;> (try cases h)
  · (repeat' split at h) <;> cases h
  · (repeat' split at h) <;> cases h
  · split at h
    · cases h; exact ⟨_, _, _, rfl, ‹_›, ‹_›, ‹_›⟩
    · cases h
  all_goals first | (simp at h; done) | ((repeat' split at h) <;> cases h; done)
theorem Wp.cond {c : Opd} {x y : AC} {b : Bool} (hb : ev s.t c = .bool b) (h : Wp P N (if b then x else y) s Q) : Wp P N (.cond c x y) s Q := by
  intro code hc
  obtain ⟨z, p, q, rfl, h1, h2, h3⟩ := code_cond hc
  obtain ⟨e, s', r, q⟩ := h (if b then p else q) (by cases b <;> simpa)
  refine ⟨e, s', ⟨r.1, fun ro okc G w a rel F => ?_⟩, q⟩
  have hz : a.eval z = .bool b := by
    have := opd_rel h1 rel.t
    rw [hb] at this
    simpa only [VRel] using this
  exact wpIn_cond hz (by have := r.2 ro (okc.cond b) G w a rel F; cases b <;> exact this)
theorem Wp.cond_true {c : Opd} {x y : AC} (hb : ev s.t c = .bool true) (h : Wp P N x s Q) : Wp P N (.cond c x y) s Q := Wp.cond hb h
theorem Wp.cond_false {c : Opd} {x y : AC} (hb : ev s.t c = .bool false) (h : Wp P N y s Q) : Wp P N (.cond c x y) s Q := Wp.cond hb h
theorem Wp.cond_split {c : Opd} {x y : AC} {b : Bool} (hb : ev s.t c = .bool b) (ht : b = true → Wp P N x s Q) (hf : b = false → Wp P N y s Q) : Wp P N (.cond c x y) s Q := by
  cases b
  · exact Wp.cond hb (hf rfl)
  · exact Wp.cond hb (ht rfl)
def AExit.inBlock (id : Nat) (Q : AExit → St → Prop) : AExit → St → Prop
  | .exit i, s => if i = id then Q .normal s else Q (.exit i) s
  | e, s => Q e s
theorem code_block {code : Code} {id : Nat} {x : AC} (h : cCode P N code = some (.block id x)) : ∃ a, code = .block id a ∧ cCode P N a = some x := by
  cases code <;> simp only [cCode] at h <;> (try cases h)
  · (repeat' split at h) <;> cases h
  · (repeat' split at h) <;> cases h
  · (repeat' split at h) <;> cases h
  · simp only [Option.map_eq_some_iff] at h
    obtain ⟨a, h1, h2⟩ := h
    cases h2
    exact ⟨_, rfl, h1⟩
  all_goals first | (simp at h; done) | ((repeat' split at h) <;> cases h; done)
theorem Wp.block {id : Nat} {x : AC} (h : Wp P N x s (AExit.inBlock id Q)) : Wp P N (.block id x) s Q := by
  intro code hc
  obtain ⟨a, rfl, ha⟩ := code_block hc
  obtain ⟨e, s1, r1, q1⟩ := h a ha
  cases e with
  | normal =>
    refine ⟨.normal, s1, ⟨r1.1, fun ro okc G w ac r F => wpIn_block (wpIn_mono (r1.2 ro okc.block G w ac r F) ?_)⟩, q1⟩
    rintro e' a' w' ⟨h1, h2⟩
    cases e' <;> simp only [AExit.says] at h1
    exact ⟨trivial, h2⟩
  | goto l =>
    refine ⟨.goto l, s1, ⟨r1.1, fun ro okc G w ac r F => wpIn_block (wpIn_mono (r1.2 ro okc.block G w ac r F) ?_)⟩, q1⟩
    rintro e' a' w' ⟨h1, h2⟩
    cases e' <;> simp only [AExit.says] at h1
    exact ⟨h1, h2⟩
  | ret =>
    refine ⟨.ret, s1, ⟨r1.1, fun ro okc G w ac r F => wpIn_block (wpIn_mono (r1.2 ro okc.block G w ac r F) ?_)⟩, q1⟩
    rintro e' a' w' ⟨h1, h2⟩
    cases e' <;> simp only [AExit.says] at h1
    exact ⟨trivial, h2⟩
  | panic v =>
    refine ⟨.panic v, s1, ⟨r1.1, fun ro okc G w ac r F => wpIn_block (wpIn_mono (r1.2 ro okc.block G w ac r F) ?_)⟩, q1⟩
    rintro e' a' w' ⟨h1, h2⟩
    cases e' <;> simp only [AExit.says] at h1
    exact ⟨h1, h2⟩
  | exit i =>
    simp only [AExit.inBlock] at q1
    by_cases hi : i = id
    · rw [if_pos hi] at q1
      refine ⟨.normal, s1, ⟨r1.1, fun ro okc G w ac r F => wpIn_block (wpIn_mono (r1.2 ro okc.block G w ac r F) ?_)⟩, q1⟩
      rintro e' a' w' ⟨h1, h2⟩
      cases e' <;> simp only [AExit.says] at h1
      subst h1
      simp only [Exit.inBlock, hi, if_true]
      exact ⟨trivial, h2⟩
    · rw [if_neg hi] at q1
      refine ⟨.exit i, s1, ⟨r1.1, fun ro okc G w ac r F => wpIn_block (wpIn_mono (r1.2 ro okc.block G w ac r F) ?_)⟩, q1⟩
      rintro e' a' w' ⟨h1, h2⟩
      cases e' <;> simp only [AExit.says] at h1
      subst h1
      simp only [Exit.inBlock, hi, if_false]
      exact ⟨rfl, h2⟩
structure StLe (s s' : St) : Prop where
  n : s.h.n ≤ s'.h.n
  m : s.h.m ≤ s'.h.m
  go : ∀ N G w a, Rel N s G w a → Fresh G s.h s'.h → ∃ G', Trans G w s.h G' w s'.h ∧ Rel N s' G' w a
theorem StLe.refl (s : St) : StLe s s := ⟨Nat.le_refl _, Nat.le_refl _, fun N G w a r _ => ⟨G, Trans.refl _ _ _, r⟩⟩
theorem StLe.trans {s s' s'' : St} (a : StLe s s') (b : StLe s' s'') : StLe s s'' := by
  refine ⟨Nat.le_trans a.n b.n, Nat.le_trans a.m b.m, fun N G w ac r F => ?_⟩
  obtain ⟨G1, T1, r1⟩ := a.go N G w ac r (F.sub (Nat.le_refl _) b.n (Nat.le_refl _) b.m)
  obtain ⟨G2, T2, r2⟩ := b.go N G1 w ac r1 (F.step T1)
  exact ⟨G2, T1.trans r.h r1.h T2, r2⟩
def OSub : Obj → Obj → Prop
  | .cells cs, .cells cs' => VSubs cs cs'
  | .map es, .map es' => es = es'
  | .loop N t ps a b st p, o' => o' = .loop N t ps a b st p
  | .raw c, o' => o' = .raw c
  | .bk b, .bk b' => b' = b
  | .bk b, .cells cs => cs = bkCells b
  | .cells cs, .bk b => cs = bkCells b ∧ BkOk b
  | _, _ => False
theorem OSub.refl (o : Obj) : OSub o o := by cases o <;> simp [OSub, VSubs.refl]
def HLe (h h' : H) : Prop := (∀ j o', h'.objs j = some o' → ∃ o, h.objs j = some o ∧ OSub o o') ∧ ∀ t ∈ h'.toks, t ∈ h.toks
theorem H.sub.le {h h' : H} (s : h'.sub h) : HLe h h' := ⟨fun j o x => ⟨o, s.1 j o x, OSub.refl o⟩, s.2⟩
theorem ints_rel {G : Ghost} {w : World} : ∀ {l : List (IntKind × Int)} {vs : List Value}, VRels G w (intAs l) vs ↔ vs = intVs l
  | [], vs => by simp [intAs, intVs, VRels]
  | p :: l, vs => by
    have ih := @ints_rel G w l
    simp only [intAs, intVs, List.map_cons, VRels, VRel] at ih ⊢
    constructor
    · rintro ⟨v, us, rfl, rfl, h⟩
      rw [ih.1 h]
    · rintro rfl
      exact ⟨_, _, rfl, rfl, ih.2 rfl⟩
theorem ints_one {l : List (IntKind × Int)} : ∀ v ∈ intVs l, One v := by
  intro v hv
  simp only [intVs, List.mem_map] at hv
  obtain ⟨p, -, rfl⟩ := hv
  exact ⟨fun a h => (by cases h), fun a h => (by cases h)⟩
theorem ORel.sub {G : Ghost} {w : World} {o o' : Obj} {x : Option Go.Obj} (h : ORel G w o x) (s : OSub o o') : ORel G w o' x := by
  cases o <;> cases o' <;> simp only [OSub] at s
  · simp only [ORel] at h ⊢
    obtain ⟨vs, rest, T, fr, h1, h2, h3⟩ := h
    exact ⟨vs, rest, T, fr, h1, s G w vs h2, h3⟩
  · obtain ⟨rfl, ok⟩ := s
    simp only [ORel] at h ⊢
    obtain ⟨vs, rest, T, fr, h1, h2, h3⟩ := h
    exact ⟨ok, rest, T, fr, by rw [h1, ints_rel.1 h2], h3.1⟩
  · subst s; exact h
  any_goals (rw [s]; exact h; done)
  · subst s
    simp only [ORel] at h ⊢
    obtain ⟨ok, rest, T, fr, h1, h2⟩ := h
    exact ⟨_, rest, T, fr, h1, ints_rel.2 rfl, h2, ints_one⟩
theorem RepH.le {G : Ghost} {w : World} {h h' : H} (R : RepH G h w) (s : HLe h h') : RepH G h' w where
  obj id o' ho' := by
    obtain ⟨o, ho, hs⟩ := s.1 id o' ho'
    obtain ⟨a, b, c, d⟩ := R.obj id o ho
    exact ⟨a, b, c, d.sub hs⟩
  inj id id' o o' ho ho' := by
    obtain ⟨p, hp, -⟩ := s.1 id o ho
    obtain ⟨p', hp', -⟩ := s.1 id' o' ho'
    exact R.inj id id' p p' hp hp'
  tok t ht := R.tok t (s.2 t ht)
  tinj t ht t' ht' := R.tinj t (s.2 t ht) t' (s.2 t' ht')
theorem Trans.le {G : Ghost} {w : World} {h h' : H} (s : HLe h h') (n : h.n ≤ h'.n) (m : h.m ≤ h'.m) : Trans G w h G w h' where
  dom_le _ x := x
  dom_new _ := .inl
  ι_eq _ _ := rfl
  tdom_le _ x := x
  tdom_new _ := .inl
  τ_eq _ _ := rfl
  n_le := n
  m_le := m
  size_le := Nat.le_refl _
  os := rfl
  output := rfl
  form _ _ := SameForm.refl _
  keep _ _ _ _ := rfl
  own_keep _ _ _ := Iff.rfl
  lim_keep _ _ _ _ := rfl
  tok_keep _ _ _ _ e he := ⟨fun _ _ => rfl, fun e' he' => by rw [he] at he'; cases he'; exact Nat.le_refl _⟩
  O_new _ _ := fun ⟨id, o, ho, e⟩ => let ⟨o', ho', _⟩ := s.1 id o ho; ⟨id, o', ho', e⟩
  T_new _ _ := fun ⟨t, ht, e⟩ => ⟨t, s.2 t ht, e⟩
  objs_new j o x := let ⟨o', ho', _⟩ := s.1 j o x; .inl ⟨o', ho'⟩
  toks_new t x := .inl (s.2 t x)
theorem StLe.mk' {t t' : Tm} {h h' : H} (ht : ∀ i, VSub (t i) (t' i)) (hh : HLe h h') (n : h.n ≤ h'.n) (m : h.m ≤ h'.m) : StLe ⟨t, h⟩ ⟨t', h'⟩ :=
  ⟨n, m, fun N G w a r _ => ⟨G, Trans.le hh n m, ⟨r.size, fun i => ht i G w _ (r.t i), r.h.le hh, r.df.mono (Trans.le hh n m)⟩⟩⟩
theorem StLe.tok (t : Tm) (h : H) : StLe ⟨t, h⟩ ⟨t, { h with toks := h.m :: h.toks, m := h.m + 1 }⟩ := by
  refine ⟨Nat.le_refl _, Nat.le_succ _, fun N G w a r F => ?_⟩
  have hm : ¬ G.tdom h.m := F.2 h.m (Nat.le_refl _) (Nat.lt_succ_self _)
  let G' : Ghost := { G with tdom := fun x => G.tdom x ∨ x = h.m, τ := upd G.τ h.m none }
  have hτ : G'.τ h.m = none := by simp [G', upd]
  have hne : ∀ x, G.tdom x → G'.τ x = G.τ x := fun x hx => by
    simp only [G', upd]
    rw [if_neg]
    rintro rfl; exact hm hx
  have T : Trans G w h G' w { h with toks := h.m :: h.toks, m := h.m + 1 } := by
    constructor
    · exact fun _ x => x
    · exact fun _ => .inl
    · exact fun _ _ => rfl
    · exact fun _ => .inl
    · rintro x (hx | rfl)
      · exact .inl hx
      · exact .inr ⟨Nat.le_refl _, Nat.lt_succ_self _⟩
    · exact hne
    · exact Nat.le_refl _
    · exact Nat.le_succ _
    · exact Nat.le_refl _
    · rfl
    · rfl
    · exact fun _ _ => SameForm.refl _
    · exact fun _ _ _ _ => rfl
    · exact fun _ _ _ => Iff.rfl
    · exact fun _ _ _ _ => rfl
    · exact fun _ _ _ _ e he => ⟨fun _ _ => rfl, fun e' he' => by
        have : G.lim _ = some e' := he'
        rw [he] at this; cases this; exact Nat.le_refl _⟩
    · exact fun _ _ x => x
    · rintro B _ ⟨x, hx, e, hte⟩
      rcases List.mem_cons.1 hx with rfl | hx
      · rw [hτ] at hte; cases hte
      · exact ⟨x, hx, e, by rw [← hte]; exact (hne x (r.h.tok x hx).1).symm⟩
    · exact fun j o x => .inl ⟨o, x⟩
    · intro x hx
      rcases List.mem_cons.1 hx with rfl | hx
      · exact .inr ⟨Nat.le_refl _, Nat.lt_succ_self _⟩
      · exact .inl hx
  refine ⟨G', T, r.size, fun i => VRel.mono r.h T _ _ (r.t i), ⟨?_, r.h.inj, ?_, ?_⟩, r.df.mono T⟩
  · intro id o ho
    obtain ⟨q1, q2, q3, q4⟩ := r.h.obj id o ho
    exact ⟨q1, q2, q3, q4.mono r.h T⟩
  · intro x hx
    rcases List.mem_cons.1 hx with rfl | hx
    · exact ⟨.inr rfl, fun B e hte => by rw [hτ] at hte; cases hte⟩
    · obtain ⟨q1, q2⟩ := r.h.tok x hx
      exact ⟨.inl q1, fun B e hte => q2 B e (by rw [← hne x q1]; exact hte)⟩
  · intro x hx x' hx' B e e' h1 h2
    rcases List.mem_cons.1 hx with rfl | hx
    · rw [hτ] at h1; cases h1
    · rcases List.mem_cons.1 hx' with rfl | hx'
      · rw [hτ] at h2; cases h2
      · exact r.h.tinj x hx x' hx' B e e' (by rw [← hne x (r.h.tok x hx).1]; exact h1) (by rw [← hne x' (r.h.tok x' hx').1]; exact h2)
theorem Run.le {c : Code} {s' s'' : St} {e : AExit} (h : StLe s s') (r : Run P N c s' e s'') : Run P N c s e s'' := by
  obtain ⟨⟨rn, rm⟩, rr⟩ := r
  refine ⟨⟨Nat.le_trans h.n rn, Nat.le_trans h.m rm⟩, fun ro okc G w a rel F => ?_⟩
  obtain ⟨G1, T1, rel1⟩ := h.go N G w a rel (F.sub (Nat.le_refl _) rn (Nat.le_refl _) rm)
  refine wpIn_mono (rr ro okc G1 w a rel1 (F.step T1)) ?_
  rintro e' a' w' ⟨h1, h2, G', T, r'⟩
  exact ⟨h1, h2, G', T1.trans rel.h rel1.h T, r'⟩
theorem Wp.le {c : AC} {s' : St} (h : StLe s s') (hw : Wp P N c s' Q) : Wp P N c s Q :=
  fun code hc => let ⟨e, s'', r, q⟩ := hw code hc; ⟨e, s'', r.le h, q⟩
theorem code_loop {code : Code} {x : AC} (h : cCode P N code = some (.loop x)) : ∃ a, code = .loop a ∧ cCode P N a = some x := by
  cases code <;> simp only [cCode] at h <;> (try cases h)
  · (repeat' split at h) <;> cases h
  · (repeat' split at h) <;> cases h
  · (repeat' split at h) <;> cases h
  · simp at h
  · simp only [Option.map_eq_some_iff] at h
    obtain ⟨a, h1, h2⟩ := h
    cases h2
    exact ⟨_, rfl, h1⟩
  all_goals first | (simp at h; done) | ((repeat' split at h) <;> cases h; done)
theorem wp_loop_ix {F : Fence} {n : Nat} {β : Type} {c : Code} {Q : Exit → Act → World → Prop} (I : β → Act → World → Prop) (μ : β → Nat)
    (round : ∀ b a w, I b a w → c.wpIn F n P (Exit.then (fun a' w' => ∃ b', I b' a' w' ∧ μ b' < μ b) Q) a w) {b : β} {a : Act} {w : World} (h₀ : I b a w) : (Code.loop c).wpIn F n P Q a w := by
  intro fr k cs hro hb hr
  have key : ∀ j b a w, μ b = j → I b a w → ∃ e a' w', Q e a' w' ∧ ArrivesIn (Machine.fenced P F) P (lone (fr.atR a (.code c :: .inLoop c :: k)) cs w) fr k cs e a' w' := by
    intro j
    induction j using Nat.strongRecOn with
    | _ j ih =>
      intro b a w hn hI
      obtain ⟨e, a₁, w₁, hq, harr⟩ := round b a w hI fr (.inLoop c :: k) cs hro hb hr
      cases e with
      | normal =>
        obtain ⟨b₁, hI₁, hlt⟩ := hq
        obtain ⟨e₂, a₂, w₂, hq₂, harr₂⟩ := ih (μ b₁) (hn ▸ hlt) b₁ a₁ w₁ rfl hI₁
        exact ⟨e₂, a₂, w₂, hq₂, .of_steps (StepsIn.trans harr (.one (fenced_calm hb hr rfl) stepR_inLoop)) harr₂⟩
      | exit id => exact ⟨_, a₁, w₁, hq, .pass (x := .inLoop c) rfl (fun _ _ => .inl (by simp)) harr⟩
      | goto l => exact ⟨_, a₁, w₁, hq, .pass (x := .inLoop c) rfl (fun _ _ => .inl (by simp)) harr⟩
      | ret => exact ⟨_, a₁, w₁, hq, .pass (x := .inLoop c) rfl (fun _ _ => .inl (by simp)) harr⟩
      | panic ch => exact ⟨_, a₁, w₁, hq, .pass (x := .inLoop c) rfl (fun _ _ => .inl (by simp)) harr⟩
      | outgrown => exact ⟨_, a₁, w₁, hq, .pass (x := .inLoop c) rfl (fun _ _ => .inl (by simp)) harr⟩
  obtain ⟨e, a', w', hq, harr⟩ := key _ b a w rfl h₀
  exact ⟨e, a', w', hq, .of_steps (.one (fenced_calm hb hr rfl) stepR_loop) harr⟩
inductive Comes' {β : Type} (P : Program) (N : Nat) (c : Code) (S : β → St) (μ : β → Nat) : β → AExit → St → Prop where
  | last {b : β} {e : AExit} {s' : St} (r : Run P N c (S b) e s') (hne : e ≠ .normal) : Comes' P N c S μ b e s'
  | more {b b' : β} {e : AExit} {s1 s' : St} (r : Run P N c (S b) .normal s1) (hle : StLe s1 (S b')) (hlt : μ b' < μ b) (rest : Comes' P N c S μ b' e s') : Comes' P N c S μ b e s'
theorem Comes'.nm {β : Type} {c : Code} {S : β → St} {μ : β → Nat} {b : β} {e : AExit} {s' : St} (h : Comes' P N c S μ b e s') : (S b).h.n ≤ s'.h.n ∧ (S b).h.m ≤ s'.h.m := by
  induction h with
  | last r _ => exact r.1
  | more r hle _ _ ih => have := r.1; have := hle.n; have := hle.m; omega
theorem Wp.loop {β : Type} (S : β → St) (I : β → Prop) (μ : β → Nat) {c : AC} (b0 : β) (h0 : I b0) (hs : StLe s (S b0))
    (round : ∀ b, I b → Wp P N c (S b) (AExit.andThen (fun s' => ∃ b', I b' ∧ μ b' < μ b ∧ StLe s' (S b')) Q)) : Wp P N (.loop c) s Q := by
  intro code hc
  obtain ⟨x, rfl, hx⟩ := code_loop hc
  have ex : ∀ n b, μ b = n → I b → ∃ e s', Comes' P N x S μ b e s' ∧ Q e s' := by
    intro n
    induction n using Nat.strongRecOn with
    | _ n ih =>
      intro b hn hb
      obtain ⟨e, s1, r1, q1⟩ := round b hb x hx
      cases e with
      | normal =>
        obtain ⟨b', i1, i2, i3⟩ := q1
        obtain ⟨e, s', r', q'⟩ := ih (μ b') (hn ▸ i2) b' rfl i1
        exact ⟨e, s', .more r1 i3 i2 r', q'⟩
      | exit id => exact ⟨_, s1, .last r1 (by simp), q1⟩
      | goto l => exact ⟨_, s1, .last r1 (by simp), q1⟩
      | ret => exact ⟨_, s1, .last r1 (by simp), q1⟩
      | panic v => exact ⟨_, s1, .last r1 (by simp), q1⟩
  obtain ⟨e, s', hcm, q⟩ := ex _ b0 rfl h0
  refine ⟨e, s', Run.le hs ⟨hcm.nm, fun ro okc G0 w0 a0 rel0 F0 => ?_⟩, q⟩
  refine wp_loop_ix (fun b a w => Comes' P N x S μ b e s' ∧ NewM w0 a0.defers a.defers ∧ ∃ G, Trans G0 w0 (S b0).h G w (S b).h ∧ Rel N (S b) G w a ∧ Fresh G (S b).h s'.h) μ ?_ ⟨hcm, .refl, G0, Trans.refl _ _ _, rel0, F0⟩
  rintro b a w ⟨hcm, hd, G, T, rel, F⟩
  cases hcm with
  | last r hne =>
    refine wpIn_mono (r.2 ro okc.loop G w a rel F) ?_
    rintro e' a' w' ⟨h1, h2, G', T', r'⟩
    have : e' ≠ .normal := by
      rintro rfl
      cases e <;> simp [AExit.says] at h1 hne
    have hgoal : e.says e' ∧ NewM w0 a0.defers a'.defers ∧ ∃ G', Trans G0 w0 (S b0).h G' w' s'.h ∧ Rel N s' G' w' a' := ⟨h1, hd.trans T.size_le h2, G', T.trans rel0.h rel.h T', r'⟩
    cases e' <;> first | exact hgoal | exact absurd rfl this
  | more r hle hlt rest =>
    have nm := rest.nm
    refine wpIn_mono (r.2 ro okc.loop G w a rel (F.sub (Nat.le_refl _) (Nat.le_trans hle.n nm.1) (Nat.le_refl _) (Nat.le_trans hle.m nm.2))) ?_
    rintro e' a' w' ⟨h1, h2, G', T', r'⟩
    cases e' <;> simp only [AExit.says] at h1
    rename_i b' s1
    have F1 := F.step T'
    obtain ⟨G2, T2, r2⟩ := hle.go N G' w' a' r' (F1.sub (Nat.le_refl _) nm.1 (Nat.le_refl _) nm.2)
    have T3 := (T.trans rel0.h rel.h T').trans rel0.h r'.h T2
    exact ⟨b', ⟨rest, hd.trans T.size_le h2, G2, T3, r2, F1.step T2⟩, hlt⟩
def findL : AC → Nat → Option AC
  | .seq a b, l => match findL a l with
    | some r => some (.seq r b)
    | none => findL b l
  | .label l', l => if l' = l then some .skip else none
  | _, _ => none
theorem find_label {l : Nat} : ∀ {c : Code} {x : AC}, cCode P N c = some x → match findLabel c l with | some rest => ∃ y, cCode P N rest = some y ∧ findL x l = some y | none => findL x l = none := by
  intro c
  induction c with
  | seq a b iha ihb =>
    intro x h
    obtain ⟨a', b', he, h1, h2⟩ : ∃ a' b', x = .seq a' b' ∧ cCode P N a = some a' ∧ cCode P N b = some b' := by
      simp only [cCode] at h
      split at h
      · cases h; exact ⟨_, _, rfl, ‹_›, ‹_›⟩
      · cases h
    subst he
    have ga := iha h1
    have gb := ihb h2
    simp only [findLabel, findL]
    cases hf : findLabel a l with
    | some rest =>
      rw [hf] at ga
      obtain ⟨y, y1, y2⟩ := ga
      simp only [y2]
      exact ⟨_, by simp only [cCode, y1, h2], rfl⟩
    | none =>
      rw [hf] at ga
      simp only at ga
      simp only [ga]
      exact gb
  | label l' =>
    intro x h
    simp only [cCode, Option.some.injEq] at h
    subst h
    simp only [findLabel, findL]
    by_cases e : l' = l
    · simp only [e, beq_self_eq_true, if_true]
      exact ⟨.skip, rfl, rfl⟩
    · have : (l' == l) = false := by simpa using e
      simp only [this, if_neg e, Bool.false_eq_true, if_false]
  | skip => intro x h; simp only [cCode, Option.some.injEq] at h; subst h; simp [findLabel, findL]
  | region id ops draw =>
    intro x h
    simp only [cCode] at h
    (repeat' split at h) <;> cases h <;> simp [findLabel, findL]
  | cond z a b _ _ =>
    intro x h
    simp only [cCode] at h
    split at h <;> cases h
    simp [findLabel, findL]
  | block id a _ => intro x h; simp only [cCode, Option.map_eq_some_iff] at h; obtain ⟨_, _, rfl⟩ := h; simp [findLabel, findL]
  | loop a _ => intro x h; simp only [cCode, Option.map_eq_some_iff] at h; obtain ⟨_, _, rfl⟩ := h; simp [findLabel, findL]
  | rangeFunc g ps a b _ _ =>
    intro x h
    simp only [cCode] at h
    (repeat' split at h) <;> cases h <;> simp [findLabel, findL]
  | exit id => intro x h; simp only [cCode, Option.some.injEq] at h; subst h; simp [findLabel, findL]
  | scope a _ => intro x h; simp only [cCode, Option.map_eq_some_iff] at h; obtain ⟨_, _, rfl⟩ := h; simp [findLabel, findL]
  | goto l' => intro x h; simp only [cCode, Option.some.injEq] at h; subst h; simp [findLabel, findL]
  | ret => intro x h; simp only [cCode, Option.some.injEq] at h; subst h; simp [findLabel, findL]
  | refuse => intro x h; simp [cCode] at h
def ScopeWp (F : Fence) (n : Nat) (P : Program) (c cur : Code) (Q : Exit → Act → World → Prop) (a : Act) (w : World) : Prop :=
  ∀ (b : Frame) (k : List Item) (cs : List Frame), b.roundOf = F.round → F.fn b.fn → F.room (cs.length + 1 + n) →
    ∃ e a' w', Q e a' w' ∧ ArrivesIn (Machine.fenced P F) P (lone (b.atR a (.code cur :: .inScope c :: k)) cs w) b k cs e a' w'
theorem stepR_scope {b : Frame} {a : Act} {k : List Item} {cs : List Frame} {w : World} {c : Code} : step P (lone (b.atR a (.code (.scope c) :: k)) cs w) = .next (lone (b.atR a (.code c :: .inScope c :: k)) cs w) :=
  step_lone_go (by simp [stepG, stepG.exec, Frame.atR])
theorem stepR_inScope {b : Frame} {a : Act} {k : List Item} {cs : List Frame} {w : World} {c : Code} : step P (lone (b.atR a (.inScope c :: k)) cs w) = .next (lone (b.atR a k) cs w) :=
  step_lone_go (by simp [stepG, stepG.exec, Frame.atR])
theorem ScopeWp.start {F : Fence} {n : Nat} {c : Code} {Q : Exit → Act → World → Prop} {a : Act} {w : World} (h : ScopeWp F n P c c Q a w) : (Code.scope c).wpIn F n P Q a w := by
  intro b k cs hro hb hr
  obtain ⟨e, a₁, w₁, hq, harr⟩ := h b k cs hro hb hr
  exact ⟨e, a₁, w₁, hq, .of_steps (.one (fenced_calm hb hr rfl) stepR_scope) harr⟩
def Exit.within (F : Fence) (n : Nat) (P : Program) (c : Code) (Q : Exit → Act → World → Prop) : Exit → Act → World → Prop
  | .goto l, a, w => match findLabel c l with
    | some rest => ScopeWp F n P c rest Q a w
    | none => Q (.goto l) a w
  | e, a, w => Q e a w
theorem ScopeWp.step {F : Fence} {n : Nat} {c cur : Code} {Q : Exit → Act → World → Prop} {a : Act} {w : World} (h : cur.wpIn F n P (Exit.within F n P c Q) a w) : ScopeWp F n P c cur Q a w := by
  intro b k cs hro hb hr
  obtain ⟨e, a₁, w₁, hq, harr⟩ := h b (.inScope c :: k) cs hro hb hr
  cases e with
  | normal => exact ⟨.normal, a₁, w₁, hq, StepsIn.trans harr (.one (fenced_calm hb hr rfl) stepR_inScope)⟩
  | exit id => exact ⟨.exit id, a₁, w₁, hq, fun k' hk => harr.1 k' (by simp [exitTo, hk]), fun h1 h2 => harr.2 h1 (by simp [exitTo, h2])⟩
  | goto l =>
    simp only [Exit.within] at hq
    cases hf : findLabel c l with
    | some rest =>
      rw [hf] at hq
      obtain ⟨e₂, a₂, w₂, hq₂, harr₂⟩ := hq b k cs hro hb hr
      exact ⟨e₂, a₂, w₂, hq₂, .of_steps (harr.1 _ (by simp [gotoIn, hf])) harr₂⟩
    | none =>
      rw [hf] at hq
      exact ⟨.goto l, a₁, w₁, hq, fun k' hk => harr.1 k' (by simp [gotoIn, hf, hk]), fun h1 h2 => harr.2 h1 (by simp [gotoIn, hf, h2])⟩
  | ret => exact ⟨_, a₁, w₁, hq, harr⟩
  | panic ch => exact ⟨_, a₁, w₁, hq, harr⟩
  | outgrown => exact ⟨_, a₁, w₁, hq, harr⟩
def RunS (P : Program) (N : Nat) (c cur : Code) (s : St) (e : AExit) (s' : St) : Prop :=
  (s.h.n ≤ s'.h.n ∧ s.h.m ≤ s'.h.m) ∧ ∀ ro, okR c ro → okR cur ro → ∀ G w a, Rel N s G w a → Fresh G s.h s'.h → ScopeWp (rd ro) 0 P c cur (fun e' a' w' => e.says e' ∧ NewM w a.defers a'.defers ∧ ∃ G', Trans G w s.h G' w' s'.h ∧ Rel N s' G' w' a') a w
def WpS (P : Program) (N : Nat) (c cur : AC) (s : St) (Q : AExit → St → Prop) : Prop :=
  ∀ code ccur, cCode P N code = some c → cCode P N ccur = some cur → ∃ e s', RunS P N code ccur s e s' ∧ Q e s'
theorem code_scope {code : Code} {x : AC} (h : cCode P N code = some (.scope x)) : ∃ a, code = .scope a ∧ cCode P N a = some x := by
  cases code <;> simp only [cCode] at h <;> (try cases h)
  all_goals first
    | (simp only [Option.map_eq_some_iff] at h
       obtain ⟨a, h1, h2⟩ := h
       cases h2
       exact ⟨_, rfl, h1⟩)
    | (simp at h; done)
    | ((repeat' split at h) <;> cases h; done)
theorem code_label {code : Code} {l : Nat} (h : cCode P N code = some (.label l)) : code = .label l := by
  cases code <;> simp only [cCode] at h <;> (try cases h) <;> (try rfl)
  all_goals first | ((repeat' split at h) <;> cases h; done) | (simp at h; done)
theorem code_goto {code : Code} {l : Nat} (h : cCode P N code = some (.goto l)) : code = .goto l := by
  cases code <;> simp only [cCode] at h <;> (try cases h) <;> (try rfl)
  all_goals first | ((repeat' split at h) <;> cases h; done) | (simp at h; done)
theorem Wp.label {l : Nat} (h : Q .normal s) : Wp P N (.label l) s Q := by
  intro code hc
  obtain rfl := code_label hc
  exact ⟨.normal, s, ⟨⟨Nat.le_refl _, Nat.le_refl _⟩, fun ro okc G w a r _ => wpIn_label ⟨trivial, .refl, G, Trans.refl _ _ _, r⟩⟩, h⟩
theorem Wp.goto {l : Nat} (h : Q (.goto l) s) : Wp P N (.goto l) s Q := by
  intro code hc
  obtain rfl := code_goto hc
  exact ⟨.goto l, s, ⟨⟨Nat.le_refl _, Nat.le_refl _⟩, fun ro okc G w a r _ => wpIn_goto ⟨rfl, .refl, G, Trans.refl _ _ _, r⟩⟩, h⟩
theorem Wp.scope {c : AC} (h : WpS P N c c s Q) : Wp P N (.scope c) s Q := by
  intro code hc
  obtain ⟨x, rfl, hx⟩ := code_scope hc
  obtain ⟨e, s', r, q⟩ := h x x hx hx
  exact ⟨e, s', ⟨r.1, fun ro okc G w a rel F => (r.2 ro okc.scope okc.scope G w a rel F).start⟩, q⟩
theorem RunS.le {c cur : Code} {s' s'' : St} {e : AExit} (h : StLe s s') (r : RunS P N c cur s' e s'') : RunS P N c cur s e s'' := by
  obtain ⟨⟨rn, rm⟩, rr⟩ := r
  refine ⟨⟨Nat.le_trans h.n rn, Nat.le_trans h.m rm⟩, fun ro okc okd G w a rel F => ?_⟩
  obtain ⟨G1, T1, rel1⟩ := h.go N G w a rel (F.sub (Nat.le_refl _) rn (Nat.le_refl _) rm)
  intro b k cs hro hb hr
  obtain ⟨e', a', w', ⟨h1, h2, G', T, r'⟩, harr⟩ := rr ro okc okd G1 w a rel1 (F.step T1) b k cs hro hb hr
  exact ⟨e', a', w', ⟨h1, h2, G', T1.trans rel.h rel1.h T, r'⟩, harr⟩
theorem WpS.le {c cur : AC} {s' : St} (h : StLe s s') (hw : WpS P N c cur s' Q) : WpS P N c cur s Q :=
  fun code ccur h1 h2 => let ⟨e, s'', r, q⟩ := hw code ccur h1 h2; ⟨e, s'', r.le h, q⟩
def AExit.within (P : Program) (N : Nat) (c : AC) (Q : AExit → St → Prop) : AExit → St → Prop
  | .goto l, s => match findL c l with
    | some rest => WpS P N c rest s Q
    | none => Q (.goto l) s
  | e, s => Q e s
theorem WpS.step {c cur : AC} (h : Wp P N cur s (AExit.within P N c Q)) : WpS P N c cur s Q := by
  intro code ccur hc hcur
  obtain ⟨e, s1, r1, q1⟩ := h ccur hcur
  cases e with
  | normal =>
    refine ⟨.normal, s1, ⟨r1.1, fun ro okc okd G w ac r F => .step (wpIn_mono (r1.2 ro okd G w ac r F) ?_)⟩, q1⟩
    rintro e' a' w' ⟨h1, h2⟩
    cases e' <;> simp only [AExit.says] at h1
    exact ⟨trivial, h2⟩
  | ret =>
    refine ⟨.ret, s1, ⟨r1.1, fun ro okc okd G w ac r F => .step (wpIn_mono (r1.2 ro okd G w ac r F) ?_)⟩, q1⟩
    rintro e' a' w' ⟨h1, h2⟩
    cases e' <;> simp only [AExit.says] at h1
    exact ⟨trivial, h2⟩
  | panic v =>
    refine ⟨.panic v, s1, ⟨r1.1, fun ro okc okd G w ac r F => .step (wpIn_mono (r1.2 ro okd G w ac r F) ?_)⟩, q1⟩
    rintro e' a' w' ⟨h1, h2⟩
    cases e' <;> simp only [AExit.says] at h1
    exact ⟨h1, h2⟩
  | exit i =>
    refine ⟨.exit i, s1, ⟨r1.1, fun ro okc okd G w ac r F => .step (wpIn_mono (r1.2 ro okd G w ac r F) ?_)⟩, q1⟩
    rintro e' a' w' ⟨h1, h2⟩
    cases e' <;> simp only [AExit.says] at h1
    exact ⟨h1, h2⟩
  | goto l =>
    simp only [AExit.within] at q1
    have hfl := find_label (l := l) hc
    cases hf : findLabel code l with
    | none =>
      rw [hf] at hfl
      simp only at hfl
      rw [hfl] at q1
      refine ⟨.goto l, s1, ⟨r1.1, fun ro okc okd G w ac r F => .step (wpIn_mono (r1.2 ro okd G w ac r F) ?_)⟩, q1⟩
      rintro e' a' w' ⟨h1, h2⟩
      cases e' <;> simp only [AExit.says] at h1
      subst h1
      simp only [Exit.within, hf]
      exact ⟨rfl, h2⟩
    | some rest =>
      rw [hf] at hfl
      obtain ⟨y, y1, y2⟩ := hfl
      rw [y2] at q1
      obtain ⟨e2, s2, r2, q2⟩ := q1 code rest hc y1
      obtain ⟨⟨l1, l2⟩, r1⟩ := r1
      obtain ⟨⟨l3, l4⟩, r2⟩ := r2
      refine ⟨e2, s2, ⟨⟨by omega, by omega⟩, fun ro okc okd G w ac r F => .step (wpIn_mono (r1 ro okd G w ac r (F.sub (Nat.le_refl _) l3 (Nat.le_refl _) l4)) ?_)⟩, q2⟩
      rintro e' a' w' ⟨h1, h2, G', T1, r'⟩
      cases e' <;> simp only [AExit.says] at h1
      subst h1
      simp only [Exit.within, hf]
      intro b k cs hro hb hr
      obtain ⟨e'', a'', w'', ⟨k1, k2, G'', T2, r''⟩, harr⟩ := r2 ro okc (okc.find hf) G' w' a' r' (F.step T1) b k cs hro hb hr
      exact ⟨e'', a'', w'', ⟨k1, h2.trans T1.size_le k2, G'', T1.trans r.h r'.h T2, r''⟩, harr⟩
end
end Go.Av
end
section
set_option linter.unusedVariables false
set_option linter.unusedSimpArgs false
namespace Go.Av
section
variable {P : Program} {N : Nat}
theorem putParts_congr {ρ ρ' : Opd → AV} : ∀ {l : List (Nat × Nat × Opd)} {cs : List AV}, (∀ x ∈ l.map (fun p => p.2.2), ρ x = ρ' x) → putParts ρ l cs = putParts ρ' l cs
  | [], _, _ => rfl
  | (off, n, x) :: l, cs, h => by
    have hx : ρ x = ρ' x := h x (by simp)
    simp only [putParts, hx]
    split
    · exact putParts_congr fun y hy => h y (by simp at hy ⊢; exact .inr hy)
    · rfl
theorem aop_congr {ρ ρ' : Opd → AV} {h : H} {op : AOp} (hh : ∀ x ∈ opdsOf op, ρ x = ρ' x) : aop ρ h op = aop ρ' h op := by
  cases op with
  | build z parts => simp only [aop, putParts_congr (l := parts) hh]
  | raw k xs =>
    have e1 : xs.map ρ = xs.map ρ' := List.map_congr_left fun x hx => hh x (by simpa [opdsOf] using hx)
    simp only [aop, e1]
  | buildSl sz parts =>
    have e1 : parts.map ρ = parts.map ρ' := List.map_congr_left hh
    have e2 : parts.all (fun x => decide ((cellsOf (ρ x)).length = sz ∧ shaped (ρ x) = true)) = parts.all (fun x => decide ((cellsOf (ρ' x)).length = sz ∧ shaped (ρ' x) = true)) := by
      rw [Bool.eq_iff_iff]
      simp only [List.all_eq_true]
      exact ⟨fun k x hx => by rw [← hh x hx]; exact k x hx, fun k x hx => by rw [hh x hx]; exact k x hx⟩
    simp only [aop, e1, e2]
  | mkfn fn a b =>
    have e1 : a.map ρ = a.map ρ' := List.map_congr_left fun x hx => hh x (by simp [opdsOf, hx])
    have e2 : b.map ρ = b.map ρ' := List.map_congr_left fun x hx => hh x (by simp [opdsOf, hx])
    simp only [aop, e1, e2]
  | slc str sz x a b c =>
    have e0 : ρ x = ρ' x := hh x (by simp [opdsOf])
    have e1 : ∀ y : Option Opd, (∀ z ∈ y.toList, ρ z = ρ' z) → y.map ρ = y.map ρ' := by
      intro y hy; cases y with
      | none => rfl
      | some z => simp [hy z (by simp)]
    have e2 : (c.map fun m => some (ρ m)) = (c.map fun m => some (ρ' m)) := by
      cases c with
      | none => rfl
      | some z => simp [hh z (by simp [opdsOf])]
    simp only [aop, e0, e1 a (fun z hz => hh z (by simp only [opdsOf, List.mem_cons, List.mem_append]; exact .inr (.inl (.inl hz)))), e1 b (fun z hz => hh z (by simp only [opdsOf, List.mem_cons, List.mem_append]; exact .inr (.inl (.inr hz)))), e2]
  | call f l => rfl
  | callv x l => rfl
  | alloc z => rfl
  | dead => rfl
  | pan x => rfl
  | _ => simp [opdsOf] at hh; simp only [aop, hh]
def cutTo (l : List Nat) (t : Tm) : Tm := fun i => if l.contains i then t i else .any
theorem cut_rel {l : List Nat} {G : Ghost} {w : World} {t : Tm} {a : Act} (h : TOn l G w t a) : TRel G w (cutTo l t) a := by
  intro i
  unfold cutTo
  split
  · rename_i hh; exact h i (by simpa using hh)
  · simp [VRel]
theorem cut_ev {l : List Nat} {t : Tm} {xs : List Opd} (h : (tmpsOf xs).all (fun i => l.contains i) = true) : ∀ x ∈ xs, ev (cutTo l t) x = ev t x := by
  intro x hx
  cases x with
  | c a => rfl
  | t i =>
    simp only [ev, cutTo]
    rw [List.all_eq_true] at h
    have := h i (by simp only [tmpsOf, List.mem_filterMap]; exact ⟨_, hx, rfl⟩)
    rw [if_pos this]
def guardOf (t : Tm) (g : Option (Nat × Bool)) : Option Bool :=
  match g with
  | none => some true
  | some (d, w) => match t d with
    | .bool b => some (b == w)
    | .sc (.tuple _) => some false
    | _ => none
theorem guard_wanted {ops : Array Oper} {o : Oper} {g : Option (Nat × Bool)} {t : Tm} {a : Act} {G : Ghost} {w : World} {b : Bool} (hg : cGuard ops o.guard = some g) (ht : TOn (names ops o) G w t a) (hb : guardOf t g = some b) :
    Region.wanted o (yielded ops a.tmps) = b := by
  unfold Region.wanted
  cases hog : o.guard with
  | none =>
    rw [hog] at hg
    simp [cGuard] at hg; subst hg
    simp [guardOf] at hb; simp [hb]
  | some jw =>
    obtain ⟨j, want⟩ := jw
    rw [hog] at hg
    simp only [cGuard] at hg
    split at hg
    · rename_i d hd
      cases hg
      simp only [guardOf] at hb
      split at hb
      · rename_i c hc
        cases hb
        have hr := ht d (by simp only [names, hog, List.mem_append]; right; simp [hd])
        rw [hc] at hr
        simp only [VRel] at hr
        have hy : yielded ops a.tmps j = some c := by
          unfold yielded
          rw [hd]
          simp only [Option.bind_some]
          have : a.tmps[d]? = some (.bool c) := by
            cases hk : a.tmps[d]? with
            | none => simp [hk] at hr; simp [undef] at hr
            | some v => simp [hk] at hr; rw [hr]
          rw [this]
        simp only [hy]
        cases c <;> cases want <;> rfl
      · rename_i xs hc
        cases hb
        have hr := ht d (by simp only [names, hog, List.mem_append]; right; simp [hd])
        rw [hc] at hr
        simp only [VRel] at hr
        have hy : yielded ops a.tmps j = none := by
          unfold yielded
          rw [hd]
          simp only [Option.bind_some]
          cases hk : a.tmps[d]? with
          | none => rfl
          | some v => simp [hk] at hr; rw [hr]
        simp only [hy]
        cases want <;> rfl
      · cases hb
    · cases hg
theorem cOp_plain {o : Oper} {op : AOp} (h : cOp P o = some op) : ∀ c, o.op ≠ .defer c := by
  intro c e
  unfold cOp at h
  rw [e] at h
  cases h
theorem callsIn_rd {ro : Option Nat} {n : Nat} {f : FuncId} {args : Array Value} {w : World} {R : Ending → World → Prop} (h : Calls P f args w R) : CallsIn (rd ro) n P f args w R := by
  have h2 : CallsIn Fence.wide n P f args w R := callsIn_wide.2 h
  exact h2
theorem itrun_op {ops : Array Oper} {i : Nat} {o : Oper} {it : AItem} {t : Tm} {h h' : H} {x : AV} {en : Ent} (ho : ops[i]? = some o) (hit : cItem P N ops o = some it) (hg : guardOf t it.guard = some true) (hx : aop (ev t) h it.op = some (x, h', en)) :
    ∃ h1 h1', Touch h h1 h1' h' en ∧ ItRun P ops i o t h1 x h1' := by
  unfold cItem at hit
  split at hit
  · rename_i op g hop hgd
    split at hit <;> cases hit
    rename_i hcond
    simp only [Bool.and_eq_true] at hcond
    have hx' : aop (ev (cutTo (names ops o) t)) h op = some (x, h', en) := by
      rw [aop_congr (cut_ev hcond.2)]; exact hx
    obtain ⟨hpl, h1, h1', tc, loc⟩ : (∀ c, o.op ≠ .defer c) ∧ Loc P o (cutTo (names ops o) t) h x h' en := by
      cases hr : isRaw op with
      | false =>
        have hop := cOpD_of hop (by rintro rfl; simp [aop] at hx) hr
        exact ⟨cOp_plain hop, aop_loc hop hx'⟩
      | true =>
        cases op <;> simp [isRaw] at hr
        have hop := cOpD_raw hop
        refine ⟨cOpB_plain hop, ?_⟩
        simp only [aop, Option.map_eq_some_iff, Prod.mk.injEq] at hx'
        obtain ⟨v, hv, rfl, rfl, rfl⟩ := hx'
        exact Loc.plain fun G w a ht => raw_plain hop hv ht
    refine ⟨h1, h1', tc, fun G w a ht R F K Q hK ro => ?_⟩
    obtain ⟨nx, v, w', G', e1, e2, T1, R1, V⟩ := loc G w a (cut_rel ht) R F
    unfold wpOpIn
    rw [ho]
    simp only [guard_wanted hgd ht hg, if_true]
    refine ⟨fun _ _ => trivial, ?_⟩
    rw [Oper.semAt_eq _ _ _ hpl, e1]
    rcases e2 with rfl | ⟨rfl, rfl⟩
    · rw [Oper.uponIn_value]; exact hK G' w' v T1 R1 V
    · rw [Oper.uponIn_skip]; exact hK G' w' undef T1 R1 V
  · cases hit
theorem itrun_skip {ops : Array Oper} {i : Nat} {o : Oper} {it : AItem} {t : Tm} {h : H} (ho : ops[i]? = some o) (hit : cItem P N ops o = some it) (hg : guardOf t it.guard = some false) :
    ItRun P ops i o t (H0 h.n h.m) (.sc undef) (H0 h.n h.m) := by
  unfold cItem at hit
  split at hit
  · rename_i op g hop hgd
    split at hit <;> cases hit
    intro G w a ht R F K Q hK ro
    unfold wpOpIn
    rw [ho]
    simp only [guard_wanted hgd ht hg, if_false, Bool.false_eq_true]
    refine ⟨fun _ _ => trivial, ?_⟩
    exact hK G w undef (Trans.refl _ _ _) R (by simp [VRel])
  · cases hit
theorem cOp_call {o : Oper} {f : FuncId} {l : List Opd} (h : cOp P o = some (.call f l)) : ∃ c fn, o.op = .call c ∧ c.callee = .value (.func f) ∧ opds P c.argTypes.toList c.args.toList = some l ∧ P.funcs[f]? = some fn ∧ fn.body.isSome = true ∧ fn.name ≠ "runtime.NumGoroutine" := by
  unfold cOp at h
  split at h
  case h_28 c hop =>
    split at h
    case h_8 f' hc =>
      split at h
      · split at h
        · rename_i fn hfn hcond
          simp only [Option.map_eq_some_iff] at h
          obtain ⟨l', h1, h2⟩ := h
          cases h2
          exact ⟨c, fn, hop, hc, h1, hfn, hcond.1, hcond.2⟩
        · cases h
      · cases h
    all_goals first
      | (cases h; done)
      | ((repeat' split at h) <;> (try cases h) <;> simp at h)
  all_goals first
    | (cases h; done)
    | (simp at h; done)
    | ((repeat' split at h) <;> (try cases h) <;> (try simp at h) ; done)
    | skip
theorem cOp_callv {o : Oper} {y : Opd} {l : List Opd} (h : cOp P o = some (.callv y l)) : ∃ c z, o.op = .call c ∧ c.callee = .value z ∧ opd P 0 z = some y ∧ opds P c.argTypes.toList c.args.toList = some l := by
  unfold cOp at h
  split at h
  case h_28 c hop =>
    split at h
    case h_9 z _ hc =>
      split at h
      · rename_i a l' h1 h2
        cases h
        exact ⟨c, z, hop, hc, h1, h2⟩
      · cases h
    all_goals first
      | (cases h; done)
      | ((repeat' split at h) <;> (try cases h) <;> simp at h)
  all_goals first
    | (cases h; done)
    | (simp at h; done)
    | ((repeat' split at h) <;> (try cases h) <;> (try simp at h) ; done)
theorem run_callFunc {f : FuncId} {fn : Func} {args : Array Value} (w : World) (hf : P.funcs[f]? = some fn) (hb : fn.body.isSome = true) (hn : fn.name ≠ "runtime.NumGoroutine") : (callFunc f args).run P w = .ok (.enter f args) w := by
  have hb' : fn.body ≠ none := by intro h; rw [h] at hb; cases hb
  simp [callFunc, hf, hn, hb']
theorem upon_calls {o : Oper} {f : FuncId} {vals : List AV} {h1 h1' : H} {r : AV} (hc : ACalls P f vals h1 r h1') {G : Ghost} {w : World} {a : Act} {vs : List Value} (hv : VRels G w vals vs) (R : RepH G h1 w) (F : Fresh G h1 h1') {K : Act → World → Prop} {Q : Exit → Act → World → Prop} {ro : Option Nat} (hd : ∀ c, o.op ≠ .defer c)
    (hK : ∀ G' w' v, Trans G w h1 G' w' h1' → RepH G' h1' w' → VRel G' w' r v → K (a.put o.dst v) w') (hrun : (execOp a.eval o).run P w = .ok (.enter f vs.toArray) w) : o.wpIn (rd ro) 0 P a w K Q := by
  refine ⟨fun _ _ => trivial, ?_⟩
  rw [Oper.semAt_eq _ _ _ hd, hrun, Oper.uponIn_enter]
  refine ⟨fun h => by simp [rd, Fence.wide] at h, callsIn_rd ?_⟩
  refine (hc G w vs hv R F).mono ?_
  rintro e w' ⟨v, G', rfl, T, R', V⟩
  exact hK G' w' v T R' V
theorem itrun_call {ops : Array Oper} {i : Nat} {o : Oper} {it : AItem} {t : Tm} {f : FuncId} {l : List Opd} {vals : List AV} {h1 h1' : H} {r : AV} (ho : ops[i]? = some o) (hit : cItem P N ops o = some it) (hg : guardOf t it.guard = some true) (hop : it.op = .call f l)
    (hs : VSubs (l.map (ev t)) vals) (hc : ACalls P f vals h1 r h1') : ItRun P ops i o t h1 r h1' := by
  unfold cItem at hit
  split at hit
  · rename_i op g hcop hgd
    split at hit <;> cases hit
    rename_i hcond
    simp only [Bool.and_eq_true] at hcond
    simp only at hop
    subst hop
    have hcop := cOpD_of hcop (by simp) rfl
    obtain ⟨c, fn, e1, e2, e3, e4, e5, e6⟩ := cOp_call hcop
    intro G w a ht R F K Q hK ro
    unfold wpOpIn
    rw [ho]
    simp only [guard_wanted hgd ht hg, if_true]
    have rr := opds_rel (P := P) (cut_rel ht) e3
    have el : l.map (ev (cutTo (names ops o) t)) = l.map (ev t) := List.map_congr_left fun x hx => cut_ev hcond.2 x (by simpa [opdsOf] using hx)
    rw [el] at rr
    refine upon_calls hc (hs G w _ rr) R F (cOp_plain hcop) hK ?_
    have hargs : (c.args.map a.eval) = (c.args.toList.map a.eval).toArray := by cases c.args; simp
    simp [execOp, e1, resolve, e2, Act.eval, Deferred.ofValue, invoke, hargs, run_callFunc w e4 e5 e6]
  · cases hit
theorem itrun_callv {ops : Array Oper} {i : Nat} {o : Oper} {it : AItem} {t : Tm} {f : FuncId} {fn : Func} {y : Opd} {l : List Opd} {first caps vals : List AV} {h1 h1' : H} {r : AV} (ho : ops[i]? = some o) (hit : cItem P N ops o = some it) (hg : guardOf t it.guard = some true) (hop : it.op = .callv y l)
    (hy : ev t y = .clo (.func f) first caps) (hf : P.funcs[f]? = some fn) (hb : fn.body.isSome = true) (hn : fn.name ≠ "runtime.NumGoroutine")
    (hs : VSubs (first ++ l.map (ev t) ++ caps) vals) (hc : ACalls P f vals h1 r h1') : ItRun P ops i o t h1 r h1' := by
  unfold cItem at hit
  split at hit
  · rename_i op g hcop hgd
    split at hit <;> cases hit
    rename_i hcond
    simp only [Bool.and_eq_true] at hcond
    simp only at hop
    subst hop
    have hcop := cOpD_of hcop (by simp) rfl
    obtain ⟨c, z, e1, e2, e3, e4⟩ := cOp_callv hcop
    intro G w a ht R F K Q hK ro
    unfold wpOpIn
    rw [ho]
    simp only [guard_wanted hgd ht hg, if_true]
    have rr := opds_rel (P := P) (cut_rel ht) e4
    have rz := opd_rel (P := P) e3 (cut_rel ht)
    have hcut := cut_ev (t := t) hcond.2
    have el : l.map (ev (cutTo (names ops o) t)) = l.map (ev t) := List.map_congr_left fun x hx => hcut x (by simp [opdsOf, hx])
    rw [el] at rr
    rw [hcut y (by simp [opdsOf]), hy] at rz
    simp only [VRel] at rz
    obtain ⟨vs, us, q1, q2, q3⟩ := rz
    refine upon_calls hc (hs G w _ ((q2.append rr).append q3)) R F (cOp_plain hcop) hK ?_
    have hargs : (c.args.map a.eval) = (c.args.toList.map a.eval).toArray := by cases c.args; simp
    simp [execOp, e1, resolve, e2, q1, Deferred.ofValue, invoke, hargs, run_callFunc w hf hb hn]
  · cases hit
def WpItems (P : Program) (N : Nat) (items : List AItem) (t : Tm) (h : H) (log : List Ent) (K : Tm → H → List Ent → Prop) : Prop :=
  ∀ ops i, i ≤ ops.size → cItems P N ops (ops.toList.drop i) = some items →
    ∃ recs t' h', Chain P ops i recs t h t' h' ∧ K t' h' (log.reverse ++ recs.map (·.en)) ∧ ∀ (k : Nat) r it, recs[k]? = some r → items[k]? = some it → touchy it.op = false → r.en = ent0
theorem WpItems.nil {t : Tm} {h : H} {log : List Ent} {K : Tm → H → List Ent → Prop} (hk : K t h log.reverse) : WpItems P N [] t h log K := by
  intro ops i hi hc
  have : i = ops.size := by
    cases hd : ops.toList.drop i with
    | nil => have := List.drop_eq_nil_iff.1 hd; simp at this; omega
    | cons o l =>
      rw [hd] at hc
      simp only [cItems] at hc
      split at hc <;> simp at hc
  exact ⟨[], t, h, .nil this, by simpa using hk, by simp⟩
theorem items_cons {ops : Array Oper} {i : Nat} {it : AItem} {its : List AItem} (hi : i ≤ ops.size) (hc : cItems P N ops (ops.toList.drop i) = some (it :: its)) :
    ∃ o, ops[i]? = some o ∧ cItem P N ops o = some it ∧ i + 1 ≤ ops.size ∧ cItems P N ops (ops.toList.drop (i + 1)) = some its := by
  cases hd : ops.toList.drop i with
  | nil => rw [hd] at hc; simp [cItems] at hc
  | cons o l =>
    rw [hd] at hc
    simp only [cItems] at hc
    split at hc
    · rename_i a r h1 h2
      cases hc
      have hlt : i < ops.toList.length := by
        rcases Nat.lt_or_ge i ops.toList.length with h | h
        · exact h
        · rw [List.drop_eq_nil_of_le h] at hd; cases hd
      have e := List.drop_eq_getElem_cons hlt
      rw [hd] at e
      obtain ⟨e1, e2⟩ := List.cons.inj e
      have hlt' : i < ops.size := by simpa using hlt
      refine ⟨o, ?_, h1, by omega, by rw [← e2]; exact h2⟩
      rw [Array.getElem?_eq_getElem hlt', e1]; simp
    · cases hc
theorem WpItems.step {it : AItem} {its : List AItem} {t : Tm} {h h' h1 h1' : H} {x : AV} {en : Ent} {log : List Ent} {K : Tm → H → List Ent → Prop} (tc : Touch h h1 h1' h' en)
    (run : ∀ (ops : Array Oper) i o, ops[i]? = some o → cItem P N ops o = some it → ItRun P ops i o t h1 x h1') (hen : touchy it.op = false → en = ent0)
    (rest : WpItems P N its (putT t it.dst x) h' (en :: log) K) : WpItems P N (it :: its) t h log K := by
  intro ops i hi hc
  obtain ⟨o, ho, hit, hi', hc'⟩ := items_cons hi hc
  obtain ⟨recs, t', hh', ch, hk, he⟩ := rest ops (i + 1) hi' hc'
  have hdst : it.dst = o.dst := by
    unfold cItem at hit
    split at hit
    · split at hit <;> cases hit; rfl
    · cases hit
  refine ⟨⟨t, h, h1, h1', h', x, en⟩ :: recs, t', hh', .cons ho rfl rfl tc (fun _ => run ops i o ho hit) (by rw [← hdst]; exact ch), by simpa using hk, ?_⟩
  intro k r it' hr hit' ht
  cases k with
  | zero => simp at hr hit'; subst hr hit'; exact hen ht
  | succ k => simp at hr hit'; exact he k r it' hr hit' ht
theorem aop_ent {ρ : Opd → AV} {h h' : H} {op : AOp} {x : AV} {en : Ent} (ht : touchy op = false) (hx : aop ρ h op = some (x, h', en)) : en = ent0 ∨ ∃ n y, op = .load n y := by
  cases op <;> simp [touchy] at ht <;> simp only [aop] at hx <;> first
    | (simp only [Option.some.injEq, Prod.mk.injEq] at hx; exact .inl hx.2.2.symm)
    | (simp only [Option.map_eq_some_iff, Prod.mk.injEq] at hx; obtain ⟨_, _, _, _, h⟩ := hx; exact .inl h.symm)
    | ((repeat' split at hx) <;> (first | (cases hx; done) | (cases hx; exact .inl rfl) | (simp only [Option.map_eq_some_iff, Prod.mk.injEq] at hx; obtain ⟨_, _, _, _, h⟩ := hx; exact .inl h.symm) | skip))
  all_goals simp_all
def evalOps : List AItem → Tm → H → List Ent → List AItem × Tm × H × List Ent
  | [], t, h, l => ([], t, h, l)
  | it :: its, t, h, l => match guardOf t it.guard with
    | some true => (match aop (ev t) h it.op with
      | some (x, h', en) => evalOps its (putT t it.dst x) h' (en :: l)
      | none => (it :: its, t, h, l))
    | some false => evalOps its (putT t it.dst (.sc undef)) h (ent0 :: l)
    | none => (it :: its, t, h, l)
theorem WpItems.evalA {b : List AItem} : ∀ {items its : List AItem} {t t' : Tm} {h h' : H} {log log' : List Ent} {K : Tm → H → List Ent → Prop}, evalOps items t h log = (its, t', h', log') → WpItems P N (its ++ b) t' h' log' K → WpItems P N (items ++ b) t h log K
  | [], its, t, t', h, h', log, log', K, he, hw => by simp only [evalOps, Prod.mk.injEq] at he; obtain ⟨rfl, rfl, rfl, rfl⟩ := he; exact hw
  | it :: items, its, t, t', h, h', log, log', K, he, hw => by
    simp only [evalOps] at he
    split at he
    · rename_i hg
      split at he
      · rename_i x h2 en hx
        have rest := WpItems.evalA he hw
        intro ops i hi hc
        obtain ⟨o, ho, hit, hi', hc'⟩ := items_cons hi hc
        obtain ⟨h1, h1', tc, run⟩ := itrun_op ho hit hg hx
        obtain ⟨recs, t', hh', ch, hk, hen⟩ := rest ops (i + 1) hi' hc'
        have hdst : it.dst = o.dst := by
          unfold cItem at hit
          split at hit
          · split at hit <;> cases hit; rfl
          · cases hit
        refine ⟨⟨t, h, h1, h1', h2, x, en⟩ :: recs, t', hh', .cons ho rfl rfl tc (fun _ => run) (by rw [← hdst]; exact ch), by simpa using hk, ?_⟩
        intro k r it' hr hit' ht
        cases k with
        | zero =>
          simp at hr hit'; subst hr hit'
          rcases aop_ent ht hx with h | ⟨n, y, h⟩
          · exact h
          · rw [h] at ht; simp [touchy] at ht
        | succ k => simp at hr hit'; exact hen k r it' hr hit' ht
      · simp only [Prod.mk.injEq] at he; obtain ⟨rfl, rfl, rfl, rfl⟩ := he; exact hw
    · rename_i hg
      have rest := WpItems.evalA he hw
      exact WpItems.step (touch_none h) (fun ops i o ho hit => itrun_skip ho hit hg) (fun _ => rfl) rest
    · simp only [Prod.mk.injEq] at he; obtain ⟨rfl, rfl, rfl, rfl⟩ := he; exact hw
theorem WpItems.eval {items its : List AItem} {t t' : Tm} {h h' : H} {log log' : List Ent} {K : Tm → H → List Ent → Prop} (he : evalOps items t h log = (its, t', h', log')) (hw : WpItems P N its t' h' log' K) : WpItems P N items t h log K := by
  have := WpItems.evalA (b := []) he (by rw [List.append_nil]; exact hw)
  rwa [List.append_nil] at this
theorem WpItems.part (k : Nat) {items : List AItem} {t t' : Tm} {h h' : H} {log log' : List Ent} {K : Tm → H → List Ent → Prop} (he : evalOps (items.take k) t h log = ([], t', h', log')) (hw : WpItems P N (items.drop k) t' h' log' K) : WpItems P N items t h log K := by
  have := WpItems.evalA (b := items.drop k) he (by rw [List.nil_append]; exact hw)
  rwa [List.take_append_drop] at this
theorem WpItems.pcall {dst : Option Nat} {g : Option (Nat × Bool)} {f : FuncId} {l : List Opd} {its : List AItem} {t : Tm} {h : H} {log : List Ent} {K : Tm → H → List Ent → Prop} {vals : List AV} {r : AV} (hg : guardOf t g = some true) (hs : VSubs (l.map (ev t)) vals) (hc : PCalls P f vals r)
    (rest : WpItems P N its (putT t dst r) h (ent0 :: log) K) : WpItems P N (⟨dst, g, .call f l⟩ :: its) t h log K :=
  WpItems.step (touch_none h) (fun ops i o ho hit => itrun_call ho hit hg rfl hs (hc h.n h.m)) (fun _ => rfl) rest
theorem WpItems.pcallv {dst : Option Nat} {g : Option (Nat × Bool)} {f : FuncId} {fn : Func} {y : Opd} {l : List Opd} {its : List AItem} {t : Tm} {h : H} {log : List Ent} {K : Tm → H → List Ent → Prop} {first caps vals : List AV} {r : AV} (hg : guardOf t g = some true) (hy : ev t y = .clo (.func f) first caps)
    (hf : P.funcs[f]? = some fn) (hb : fn.body.isSome = true) (hn : fn.name ≠ "runtime.NumGoroutine") (hs : VSubs (first ++ l.map (ev t) ++ caps) vals) (hc : PCalls P f vals r)
    (rest : WpItems P N its (putT t dst r) h (ent0 :: log) K) : WpItems P N (⟨dst, g, .callv y l⟩ :: its) t h log K :=
  WpItems.step (touch_none h) (fun ops i o ho hit => itrun_callv ho hit hg rfl hy hf hb hn hs (hc h.n h.m)) (fun _ => rfl) rest
theorem WpItems.acall {dst : Option Nat} {g : Option (Nat × Bool)} {f : FuncId} {l : List Opd} {its : List AItem} {t : Tm} {h h' h1 h1' : H} {log : List Ent} {en : Ent} {K : Tm → H → List Ent → Prop} {vals : List AV} {r : AV} (hg : guardOf t g = some true) (hs : VSubs (l.map (ev t)) vals) (hc : ACalls P f vals h1 r h1')
    (tc : Touch h h1 h1' h' en) (rest : WpItems P N its (putT t dst r) h' (en :: log) K) : WpItems P N (⟨dst, g, .call f l⟩ :: its) t h log K :=
  WpItems.step tc (fun ops i o ho hit => itrun_call ho hit hg rfl hs hc) (fun h => by simp [touchy] at h) rest
end
end Go.Av
end
section
set_option linter.unusedVariables false
set_option linter.unusedSimpArgs false
namespace Go.Av
section
variable {P : Program} {N : Nat}
def rowOf (acc : Array Nat) (o : Oper) : Nat := o.after.foldl (fun s e => if Region.binds .any e then s ||| 2 ^ e.on ||| acc.getD e.on 0 else s) 0
theorem rowOf_bit {acc : Array Nat} {o : Oper} {j : Nat} (h : (rowOf acc o).testBit j = true) : ∃ e ∈ o.after, Region.binds .any e = true ∧ (j = e.on ∨ (acc.getD e.on 0).testBit j = true) := by
  have key : ∀ (l : List Edge) (s : Nat), (l.foldl (fun s e => if Region.binds .any e then s ||| 2 ^ e.on ||| acc.getD e.on 0 else s) s).testBit j = true → s.testBit j = true ∨ ∃ e ∈ l, Region.binds .any e = true ∧ (j = e.on ∨ (acc.getD e.on 0).testBit j = true) := by
    intro l
    induction l with
    | nil => intro s h; exact .inl h
    | cons e l ih =>
      intro s h
      rcases ih _ h with h | ⟨e', h1, h2⟩
      · by_cases hb : Region.binds .any e = true
        · simp only [hb, if_true, Nat.testBit_or, Bool.or_eq_true] at h
          rcases h with (h | h) | h
          · exact .inl h
          · rw [Nat.testBit_two_pow] at h
            exact .inr ⟨e, by simp, hb, .inl (by simpa using h.symm : e.on = j).symm⟩
          · exact .inr ⟨e, by simp, hb, .inr h⟩
        · simp only [hb, if_false, Bool.false_eq_true] at h
          exact .inl h
      · exact .inr ⟨e', by simp [h1], h2⟩
  unfold rowOf at h
  rw [← Array.foldl_toList] at h
  rcases key _ _ h with h | ⟨e, h1, h2⟩
  · simp at h
  · exact ⟨e, by simpa using h1, h2⟩
theorem before_spec (ops : Array Oper) : ∀ (i : Nat) o, ops[i]? = some o → ∀ j, isAnc ops j i = true → ∃ e ∈ o.after, Region.binds .any e = true ∧ (j = e.on ∨ isAnc ops j e.on = true) := by
  have key : ∀ (l : List Oper) (acc : Array Nat), let B := l.foldl (fun acc o => acc.push (rowOf acc o)) acc
      (B.size = acc.size + l.length) ∧ (∀ k, k < acc.size → B.getD k 0 = acc.getD k 0) ∧ ∀ k o, l[k]? = some o → ∀ j, (B.getD (acc.size + k) 0).testBit j = true → ∃ e ∈ o.after, Region.binds .any e = true ∧ (j = e.on ∨ (B.getD e.on 0).testBit j = true) := by
    intro l
    induction l with
    | nil => intro acc; simp
    | cons o l ih =>
      intro acc
      obtain ⟨a1, a2, a3⟩ := ih (acc.push (rowOf acc o))
      simp only [List.foldl_cons]
      refine ⟨by rw [a1]; simp; omega, fun k hk => ?_, fun k o' ho' j hj => ?_⟩
      · rw [a2 k (by simp; omega)]
        simp [Array.getElem?_push, hk]
        rw [if_neg (by omega)]; rfl
      · cases k with
        | zero =>
          simp at ho'; subst ho'
          rw [a2 _ (by simp)] at hj
          simp at hj
          obtain ⟨e, h1, h2⟩ := rowOf_bit hj
          refine ⟨e, h1, h2.1, h2.2.imp (fun z => z) fun h => ?_⟩
          have hlt : e.on < acc.size := by
            rcases Nat.lt_or_ge e.on acc.size with h' | h'
            · exact h'
            · simp [h'] at h
          rw [a2 _ (by simp; omega)]
          simp only [Array.getD_eq_getD_getElem?, Array.getElem?_push] at h ⊢
          rw [if_neg (by omega)]; exact h
        | succ k =>
          simp at ho'
          have := a3 k o' ho' j (by simpa [Nat.add_assoc, Nat.add_comm 1 k] using hj)
          exact this
  obtain ⟨a1, a2, a3⟩ := key ops.toList #[]
  have hB : Region.before ops = ops.toList.foldl (fun acc o => acc.push (rowOf acc o)) #[] := by
    unfold Region.before
    rw [← Array.foldl_toList]
    rfl
  intro i o ho j hj
  unfold isAnc at hj ⊢
  rw [hB] at hj ⊢
  exact a3 i o (by simpa using ho) j (by simpa using hj)
theorem tidy_ok {ops : Array Oper} (h : tidy ops = true) : Tidy ops := by
  unfold tidy at h
  simp only [Bool.and_eq_true, List.all_eq_true] at h
  obtain ⟨h1, h2⟩ := h
  have hm : ∀ (i : Nat) o, ops[i]? = some o → (o, i) ∈ ops.toList.zipIdx := by
    intro i o ho
    rw [List.mem_iff_getElem?]
    exact ⟨i, by simp [List.getElem?_zipIdx, ho]⟩
  constructor
  · intro i o ho e he hbd
    have := h1 (o, i) (hm i o ho)
    rw [Array.all_eq_true_iff_forall_mem] at this
    have := this e he
    simpa [hbd] using this
  · exact before_spec ops
  · intro i j o o' ho ho' hne d hd hn
    have := h2 (o, i) (hm i o ho)
    simp only [hd, List.all_eq_true] at this
    have := this (o', j) (hm j o' ho')
    simp only [Bool.or_eq_true, Bool.not_eq_true', beq_iff_eq] at this
    rcases this with ((h | h) | h) | h
    · exact absurd h hne
    · have h3 : (names ops o').contains d = true := by simpa using hn
      rw [h3] at h; cases h
    · exact .inl h
    · exact .inr h
def pairsOk : List (Nat × Nat) → List Ent → Prop
  | [], _ => True
  | (i, j) :: l, log => apart (log.getD i ent0) (log.getD j ent0) ∧ pairsOk l log
theorem pairsOk_mem : ∀ {l : List (Nat × Nat)} {log : List Ent}, pairsOk l log → ∀ {i j : Nat}, (i, j) ∈ l → apart (log.getD i ent0) (log.getD j ent0)
  | (a, b) :: l, log, h, i, j, hm => by
    rcases List.mem_cons.1 hm with e | hm
    · cases e; exact h.1
    · exact pairsOk_mem h.2 hm
theorem apart_ent0 (e : Ent) : apart ent0 e ∧ apart e ent0 := by
  constructor
  · exact ⟨fun id h => by simp [ent0] at h, fun id h => by simp [ent0], fun t h => by simp [ent0] at h⟩
  · exact ⟨fun id h => by simp [ent0], fun id h => by simp [ent0] at h, fun t h => by simp [ent0]⟩
def pairsQ (p : Option (List (Nat × Nat))) (log : List Ent) : Prop :=
  match p with
  | none => True
  | some l => pairsOk l log
theorem cItems_len {ops : Array Oper} : ∀ {l : List Oper} {items : List AItem}, cItems P N ops l = some items → items.length = l.length ∧ ∀ (k : Nat) o it, l[k]? = some o → items[k]? = some it → cItem P N ops o = some it
  | [], items, h => by simp [cItems] at h; subst h; simp
  | o :: l, items, h => by
    simp only [cItems] at h
    split at h
    · rename_i a r h1 h2
      cases h
      obtain ⟨e1, e2⟩ := cItems_len h2
      refine ⟨by simp [e1], fun k o' it ho hit => ?_⟩
      cases k with
      | zero => simp at ho hit; subst ho hit; exact h1
      | succ k => simp at ho hit; exact e2 k o' it ho hit
    · cases h
theorem code_reg {code : Code} {items : List AItem} {p : Option (List (Nat × Nat))} (h : cCode P N code = some (.reg items p)) :
    ∃ id ops draw, code = .region id ops draw ∧ cItems P N ops ops.toList = some items ∧ ((draw = false ∧ p = none) ∨ (draw = true ∧ P.follows .mixedOrders = true ∧ tidy ops = true ∧ p = some (pairsOf ops items))) := by
  cases code <;> simp only [cCode] at h <;> (try cases h)
  · split at h
    · rename_i id ops draw _ items' hi
      split at h
      · split at h <;> cases h
        rename_i hd hcond
        simp only [Bool.and_eq_true] at hcond
        exact ⟨_, _, _, rfl, hi, .inr ⟨hd, hcond.1, hcond.2, rfl⟩⟩
      · cases h
        rename_i hd
        exact ⟨_, _, _, rfl, hi, .inl ⟨by simpa using hd, rfl⟩⟩
    · cases h
  all_goals first | ((repeat' split at h) <;> cases h; done) | (simp at h; done)
theorem trans_draw (G : Ghost) (w w' : World) (h : H) (e1 : w'.heap = w.heap) (e2 : w'.os = w.os) (e3 : w'.output = w.output) : Trans G w h G w' h where
  dom_le _ x := x
  dom_new _ x := .inl x
  ι_eq _ _ := rfl
  tdom_le _ x := x
  tdom_new _ x := .inl x
  τ_eq _ _ := rfl
  n_le := Nat.le_refl _
  m_le := Nat.le_refl _
  size_le := by rw [e1]; exact Nat.le_refl _
  os := e2
  output := e3
  form B _ := by rw [e1]; exact SameForm.refl _
  keep _ _ _ _ := by rw [e1]
  own_keep _ _ _ := Iff.rfl
  lim_keep _ _ _ _ := rfl
  tok_keep _ _ _ _ e he := ⟨fun _ _ => cell_of_heap e1 _, fun e' he' => by rw [he] at he'; cases he'; exact Nat.le_refl _⟩
  O_new _ _ x := x
  T_new _ _ x := x
  objs_new _ o x := .inl ⟨o, x⟩
  toks_new _ x := .inl x
theorem RepH.draw {G : Ghost} {w w' : World} {h : H} (R : RepH G h w) (e1 : w'.heap = w.heap) (e2 : w'.os = w.os) (e3 : w'.output = w.output) : RepH G h w' where
  obj id o ho := by
    obtain ⟨a, b, c, d⟩ := R.obj id o ho
    exact ⟨a, b, by rw [e1]; exact c, by rw [e1]; exact d.mono R (trans_draw G w w' h e1 e2 e3)⟩
  inj := R.inj
  tok t ht := ⟨(R.tok t ht).1, fun B e he => by rw [e1]; exact (R.tok t ht).2 B e he⟩
  tinj := R.tinj
theorem Wp.reg {items : List AItem} {p : Option (List (Nat × Nat))} {s : St} {Q : AExit → St → Prop} (h : WpItems P N items s.t s.h [] fun t' h' log => pairsQ p log ∧ Q .normal ⟨t', h'⟩) : Wp P N (.reg items p) s Q := by
  intro code hc
  obtain ⟨id, ops, draw, rfl, hi, hd⟩ := code_reg hc
  obtain ⟨recs, t', h', ch, ⟨hp, hq⟩, hen⟩ := h ops 0 (Nat.zero_le _) (by simpa using hi)
  simp only [List.reverse_nil, List.nil_append] at hp
  obtain ⟨nm, -, -⟩ := chain_nm ch
  obtain ⟨cl, ci⟩ := cItems_len hi
  have hN : ∀ (i : Nat) o d, ops[i]? = some o → o.dst = some d → d < N := by
    intro i o d ho hdd
    have hlt : i < ops.size := (Array.getElem?_eq_some_iff.1 ho).1
    have hit : i < items.length := by rw [cl]; simpa using hlt
    have := ci i o items[i] (by simpa using ho) (List.getElem?_eq_getElem hit)
    generalize items[i] = it at this
    unfold cItem at this
    split at this
    · split at this <;> cases this
      rename_i hcond
      simp only [Bool.and_eq_true] at hcond
      have := hcond.1
      rw [hdd] at this
      simpa using this
    · cases this
  refine ⟨.normal, ⟨t', h'⟩, ⟨nm, fun ro okc G w a r F => ?_⟩, hq⟩
  rcases hd with ⟨rfl, rfl⟩ | ⟨rfl, hm, ht, rfl⟩
  · refine wpIn_region ?_
    rw [List.range_eq_range']
    have := chain_seq ro (Q := fun e' a' w' => AExit.normal.says e' ∧ NewM w a.defers a'.defers ∧ ∃ G', Trans G w s.h G' w' h' ∧ Rel N ⟨t', h'⟩ G' w' a') hN ch G w a r.size r.t r.h F
      (fun G' w' a' T1 t1 R1 s1 d1 => ⟨trivial, by rw [d1]; exact .refl, G', T1, ⟨s1, t1, R1, by rw [d1]; exact r.df.mono T1⟩⟩)
    simpa using this
  · refine wpIn_region_any hm ?_
    obtain ⟨a1, a2, -⟩ := chain_facts ch
    rw [Nat.zero_add] at a1
    have ap : ∀ i j, i < j → j < ops.size → isAnc ops i j = false → apart (recs.getD i rec0).en (recs.getD j rec0).en := by
      intro i j hij hj hanc
      have hir : i < recs.length := by omega
      have hjr : j < recs.length := by omega
      have hii : i < items.length := by rw [cl]; simp; omega
      have hjj : j < items.length := by rw [cl]; simp; omega
      have ei : (recs.getD i rec0).en = (recs.map (·.en)).getD i ent0 := by simp [List.getD, List.getElem?_eq_getElem hir]
      have ej : (recs.getD j rec0).en = (recs.map (·.en)).getD j ent0 := by simp [List.getD, List.getElem?_eq_getElem hjr]
      have gi : (recs.getD i rec0) = recs[i] := by simp [List.getD, List.getElem?_eq_getElem hir]
      have gj : (recs.getD j rec0) = recs[j] := by simp [List.getD, List.getElem?_eq_getElem hjr]
      by_cases ti : touchy items[i].op = true
      · by_cases tj : touchy items[j].op = true
        · rw [ei, ej]
          refine pairsOk_mem hp ?_
          unfold pairsOf
          simp only [List.mem_flatMap, List.mem_range, List.mem_filterMap]
          refine ⟨j, hj, i, hij, ?_⟩
          unfold isAnc at hanc
          simp [List.getElem?_eq_getElem hii, List.getElem?_eq_getElem hjj, ti, tj]
          simpa using hanc
        · rw [gj, hen j _ _ (List.getElem?_eq_getElem hjr) (List.getElem?_eq_getElem hjj) (by simpa using tj)]
          exact (apart_ent0 _).2
      · rw [gi, hen i _ _ (List.getElem?_eq_getElem hir) (List.getElem?_eq_getElem hii) (by simpa using ti)]
        exact (apart_ent0 _).1
    let w1 : World := { w with drawn := w.drawn + 1 }
    have hz : ∀ k, (Array.replicate ops.size false).getD k false = false := by intro k; simp [Array.getElem?_replicate]; split <;> rfl
    have hz' : (fun k => (Array.replicate ops.size false).getD k false) = fun _ => false := funext hz
    have vz : ∀ {β : Type} (u : Nat → Option β) (n : Nat) (v : β), val u (fun _ => false) n v = v := by
      intro β u n v
      induction n with
      | zero => rfl
      | succ n ih => simp only [val, Bool.false_eq_true, if_false, ih]
    have R1 : RepH G s.h w1 := r.h.draw rfl rfl rfl
    have hk : ∀ t, t ∈ (HS recs s.h ops.size h'.n h'.m (fun _ => false)).toks ↔ t ∈ s.h.toks := by
      intro t; rw [mem_HS a1.symm, vz]; simp
    have ho : (HS recs s.h ops.size h'.n h'.m (fun _ => false)).objs = s.h.objs := by
      funext id; simp only [HS]; rw [vz]
    refine chain_any ro (pj := 0) (pv := undef) (N := N) (G0 := G) (w0 := w1) (a0 := a) hN (tidy_ok ht) ch ap R1 F ?_ (fun i h => by cases h) (fun h => by cases h) ops.size (Array.replicate ops.size false) G w1 a (by simp) ?_ ?_ (fun k h => by cases h) r.size rfl ?_ ?_ ?_ ?_ ?_
    · intro _ G' w' a' T1 t1 R1' s1 d1
      exact ⟨trivial, by rw [d1]; exact .refl, G', (trans_draw G w w1 s.h rfl rfl rfl).trans r.h R1 T1, ⟨s1, t1, R1', by rw [d1]; exact r.df.mono ((trans_draw G w w1 s.h rfl rfl rfl).trans r.h R1 T1)⟩⟩
    · unfold count
      exact Nat.le_trans (List.length_filter_le _ _) (by simp)
    · rw [hz']; intro i o _ h; cases h
    · rw [hz']; intro d; rw [vz]; exact VRel.mono r.h (trans_draw G w w1 s.h rfl rfl rfl) _ _ (r.t d)
    · rw [hz']; exact R1.same ho fun t x => (hk t).1 x
    · rw [hz']
      exact (Trans.refl G w1 s.h).same rfl (fun _ => Iff.rfl) ho hk (Nat.le_refl _) nm.1 nm.1 (Nat.le_refl _) nm.2 nm.2
    · exact fun id x => .inl x
    · exact fun id x => .inl x
def initT (args : List AV) : Tm := fun i => args.getD i .any
inductive RV where
  | tmp (d : Nat)
  | cell (d : Nat) (n : Option Nat)
def cRes (P : Program) : ResultVar → Option RV
  | .tmp t => some (.tmp t)
  | .cell a t => if (P.info? t).isSome ∧ (P.underlying t).isSome then some (.cell a (if isAggT P t then some (P.cellsOf t) else none)) else none
def cRess (P : Program) : List ResultVar → Option (List RV)
  | [] => some []
  | r :: l => match cRes P r, cRess P l with
    | some a, some m => some (a :: m)
    | _, _ => none
def rv (t : Tm) (h : H) : RV → Option AV
  | .tmp d => some (t d)
  | .cell d n => match t d with
    | .ptr id off => match h.objs id with
      | some (.cells cs) => part off n cs
      | _ => none
    | _ => none
def rvs (t : Tm) (h : H) : List RV → Option (List AV)
  | [] => some []
  | r :: l => match rv t h r, rvs t h l with
    | some a, some m => some (a :: m)
    | _, _ => none
def resOf (ds : List RV) (t : Tm) (h : H) : Option AV :=
  match rvs t h ds with
  | some [x] => some x
  | some l => some (.tup l)
  | none => none
def isEnd : AExit → Prop
  | .normal | .ret => True
  | _ => False
theorem init_rel {G : Ghost} {w : World} {n : Nat} : ∀ {args : List AV} {vs : List Value}, VRels G w args vs → TRel G w (initT args) { tmps := vs.toArray ++ Array.replicate n undef, defers := [] } := by
  intro args vs h i
  unfold initT
  by_cases hi : i < args.length
  · obtain ⟨v, h1, h2⟩ := h.get (i := i) (x := args[i]) (List.getElem?_eq_getElem hi)
    have e : ((vs.toArray ++ Array.replicate n undef).getD i undef) = v := by
      have hlt : i < vs.length := by rw [h.length]; exact hi
      rw [List.getElem?_eq_getElem hlt] at h1
      simp [Array.getElem?_append, hlt]
      exact Option.some.inj h1
    rw [e]
    simpa [List.getD, List.getElem?_eq_getElem hi] using h2
  · have : args.getD i .any = .any := by simp [List.getD, List.getElem?_eq_none (Nat.le_of_not_lt hi)]
    rw [this]; simp [VRel]
theorem rvs_run {G : Ghost} {w : World} {t : Tm} {h : H} {a : Act} (ht : TRel G w t a) (R : RepH G h w) : ∀ {l : List ResultVar} {ds : List RV} {xs : List AV}, cRess P l = some ds → rvs t h ds = some xs →
    ∃ vs, (l.mapM (fun | .tmp t => pure (a.tmps.getD t undef) | .cell b t => do loadVar t (← asAddr (a.tmps.getD b undef)) : ResultVar → Sem Value)).run P w = .ok vs w ∧ VRels G w xs vs
  | [], ds, xs, h1, h2 => by
    simp [cRess] at h1; subst h1
    simp [rvs] at h2; subst h2
    exact ⟨[], by simp, .nil⟩
  | r :: l, ds, xs, h1, h2 => by
    simp only [cRess] at h1
    split at h1
    · rename_i d ds' e1 e2
      cases h1
      simp only [rvs] at h2
      split at h2
      · rename_i x xs' e3 e4
        cases h2
        obtain ⟨vs, g1, g2⟩ := rvs_run ht R e2 e4
        cases r with
        | tmp k =>
          simp [cRes] at e1; subst e1
          simp [rv] at e3; subst e3
          refine ⟨a.tmps.getD k undef :: vs, ?_, .cons (ht k) g2⟩
          simp only [List.mapM_cons, Sem.run_bind, Sem.run_pure, Result.andThen_ok, g1]
        | cell k ty =>
          simp only [cRes] at e1
          split at e1
          · rename_i hc
            cases e1
            simp only [rv] at e3
            split at e3
            · rename_i id off hk
              split at e3
              · rename_i cs ho
                have r1 := ht k
                rw [hk] at r1
                simp only [VRel] at r1
                obtain ⟨vs0, rest0, T, fr, hg, hvs, -⟩ := obj_cells R ho
                have hcell : ∀ j v, vs0[j]? = some v → w.cell? ⟨G.ι id, j, none⟩ = some v := by
                  intro j v hj
                  have hj' : j < vs0.length := (List.getElem?_eq_some_iff.1 hj).1
                  unfold World.cell?; simp only [hg]; simpa [List.getElem?_append_left hj'] using hj
                have hl : ∃ v, (loadVar ty ⟨G.ι id, off, none⟩).run P w = .ok v w ∧ VRel G w x v := by
                  rcases part_sound hvs e3 with ⟨e, v, q1, q2⟩ | ⟨m, e, q1, q2⟩
                  · have hagg : isAggT P ty = false := by cases hh : isAggT P ty <;> simp [hh] at e ⊢
                    exact ⟨v, run_loadVar_cell P w ty _ v hc.2 hagg (hcell _ _ q1), q2⟩
                  · have hagg : isAggT P ty = true := by cases hh : isAggT P ty <;> simp [hh] at e ⊢
                    have hm : m = P.cellsOf ty := by simpa [hagg] using e.symm
                    refine ⟨_, run_loadVar_cells P w ty (G.ι id) off ((vs0.drop off).take m) hc.1 hc.2 hagg (by simp [hm] at q1 ⊢; omega) (fun j v hj => hcell _ _ (by
                      rw [List.getElem?_take] at hj
                      split at hj
                      · simpa [List.getElem?_drop] using hj
                      · cases hj)), q2⟩
                obtain ⟨v, q1, q2⟩ := hl
                refine ⟨v :: vs, ?_, .cons q2 g2⟩
                have ha : (asAddr (a.tmps.getD k undef)).run P w = .ok ⟨G.ι id, off, none⟩ w := by rw [r1.2]; rfl
                simp only [List.mapM_cons, Sem.run_bind, ha, Sem.run_pure, Result.andThen_ok, q1, g1]
              · cases e3
            · cases e3
          · cases e1
      · cases h2
    · cases h1
theorem results_run {fn : Func} {ds : List RV} {G : Ghost} {w : World} {t : Tm} {h : H} {a : Act} {x : AV} (hr : cRess P fn.results.toList = some ds) (ht : TRel G w t a) (R : RepH G h w) (hx : resOf ds t h = some x) : ∃ v, (results fn a.tmps).run P w = .ok v w ∧ VRel G w x v := by
  unfold resOf at hx
  have hxs : ∃ xs, rvs t h ds = some xs ∧ ((∃ y, xs = [y] ∧ x = y) ∨ (xs.length ≠ 1 ∧ x = .tup xs)) := by
    split at hx
    · rename_i y e; cases hx; exact ⟨_, e, .inl ⟨_, rfl, rfl⟩⟩
    · rename_i l hne e
      cases hx
      refine ⟨_, e, .inr ⟨fun hl => ?_, rfl⟩⟩
      obtain ⟨y, rfl⟩ := List.length_eq_one_iff.1 hl
      exact hne y rfl
    · cases hx
  obtain ⟨xs, e, hc⟩ := hxs
  obtain ⟨vs, g1, g2⟩ := rvs_run (P := P) ht R hr e
  have hm' : (fn.results.mapM (fun | .tmp t => pure (a.tmps.getD t undef) | .cell b t => do loadVar t (← asAddr (a.tmps.getD b undef)) : ResultVar → Sem Value)).run P w = .ok vs.toArray w := by
    rw [Array.mapM_eq_mapM_toList]
    simp only [Sem.run_map, g1, Result.andThen_ok]
  have key : (results fn a.tmps).run P w = .ok (if h : vs.toArray.size = 1 then vs.toArray[0] else .tuple vs.toArray) w := by
    unfold results
    rw [Sem.run_bind]
    exact congrArg (fun x : Result (Array Value) => x.andThen fun vs w' => (Pure.pure (if h : vs.size = 1 then vs[0] else .tuple vs) : Sem Value).run P w') hm'
  rw [key]
  have hl := g2.length
  rcases hc with ⟨y, rfl, rfl⟩ | ⟨hn, rfl⟩
  · simp only [VRels] at g2
    obtain ⟨v, us, rfl, q1, rfl⟩ := g2
    exact ⟨v, by simp, q1⟩
  · have : ¬ vs.toArray.size = 1 := by simp; omega
    rw [dif_neg this]
    refine ⟨_, rfl, ?_⟩
    simp only [VRel]
    exact ⟨vs, rfl, g2⟩
theorem Turned.results {D : Nat} {w : World} (h : w.heap[D]? = some (.deferred (some []))) : Turned D w (w.putObj D (.deferred none)) :=
  ⟨by simp, fun B hB => World.putObj_heap_other hB, fun c T fr e => absurd (h.symm.trans e) (by simp), rfl, rfl⟩
theorem leaves_marks {F : Fence} {n : Nat} {fn : Func} {tmps : Array Value} {R : Ending → World → Prop} (Ds : Nat → Prop) (I : World → Prop)
    (hI : ∀ w D, Ds D → I w → w.heap[D]? = some (.deferred (some [])) → I (w.putObj D (.deferred none))) (hend : ∀ w, I w → ∃ v, (results fn tmps).run P w = .ok v w ∧ R (.returned v) w) :
    ∀ (l : List Deferred) (w : World), l.Nodup → (∀ d ∈ l, ∃ D, Ds D ∧ d = { target := .collected D, args := #[] } ∧ w.heap[D]? = some (.deferred (some []))) → I w → LeavesInM F n P fn tmps R l .returning w := by
  intro l
  induction l with
  | nil => intro w _ _ hi; exact hend w hi
  | cons d l ih =>
    intro w hn hm hi
    obtain ⟨D, h1, h2, h3⟩ := hm d (by simp)
    refine ⟨by simp, .inl ⟨D, _, by rw [h2], run_takeDeferred h3, ih _ (List.nodup_cons.1 hn).2 (fun d' hd' => ?_) (hI w D h1 hi h3)⟩⟩
    obtain ⟨D', k1, k2, k3⟩ := hm d' (by simp [hd'])
    refine ⟨D', k1, k2, ?_⟩
    rw [World.putObj_heap_other ?_]
    · exact k3
    · rintro rfl
      exact (List.nodup_cons.1 hn).1 (by rw [h2, ← k2]; exact hd')
theorem acalls_of {f : FuncId} {fn : Func} {code : Code} {ac : AC} {args : List AV} {h : H} {ds : List RV} {Q : AV → H → Prop} (hf : P.funcs[f]? = some fn) (hb : fn.body = some code) (hc : cCode P fn.ntmps code = some ac) (hr : cRess P fn.results.toList = some ds) (hl : args.length ≤ fn.ntmps)
    (hw : Wp P fn.ntmps ac ⟨initT args, h⟩ fun e s' => isEnd e ∧ ∃ r, resOf ds s'.t s'.h = some r ∧ Q r s'.h) : ∃ r h', ACalls P f args h r h' ∧ Q r h' := by
  obtain ⟨e, s', run, he, r, hres, hq⟩ := hw code hc
  refine ⟨r, s'.h, ?_, hq⟩
  intro G w vs hv R F
  have hlen := hv.length
  refine callsIn_wide.1 (callsIn_of_wp_marks (F := rd none) (n := 0) hf hb trivial (wpIn_mono (run.2 none (.inl rfl) G w _ ⟨?_, init_rel hv, R, ⟨by simp, by simp⟩⟩ F) ?_) rfl)
  · simp; omega
  · rintro e' a' w' ⟨h1, h2, G', T, r'⟩
    have key : LeavesInM (rd none) 0 P fn a'.tmps (fun e w' => ∃ v G', e = .returned v ∧ Trans G w h G' w' s'.h ∧ RepH G' s'.h w' ∧ VRel G' w' r v) a'.defers .returning w' := by
      refine leaves_marks (fun D => w.heap.size ≤ D ∧ ¬ s'.h.O G' D ∧ ¬ s'.h.T G' D) (fun w2 => Trans G w h G' w2 s'.h ∧ RepH G' s'.h w2 ∧ TRel G' w2 s'.t a') ?_ ?_ _ _ r'.df.1 ?_ ⟨T, r'.h, r'.t⟩
      · rintro w2 D ⟨d1, d2, d3⟩ ⟨T2, R2, t2⟩ hD
        have tu := Turned.results hD
        exact ⟨T2.turn tu d1, R2.turn tu d2, fun i => VRel.turn tu _ _ (t2 i)⟩
      · rintro w2 ⟨T2, R2, t2⟩
        obtain ⟨v, q1, q2⟩ := results_run (P := P) hr t2 R2 hres
        exact ⟨v, q1, v, G', rfl, T2, R2, q2⟩
      · intro d hd
        obtain ⟨D, e, k1, k2, k3⟩ := r'.df.2 d hd
        rcases h2 d hd with h | ⟨D', k4, e'⟩
        · simp at h
        · rw [e] at e'
          simp only [Deferred.mk.injEq, Target.collected.injEq, and_true] at e'
          subst e'
          exact ⟨D, ⟨k4, k2, k3⟩, e, k1⟩
    cases e <;> cases e' <;> simp only [AExit.says, isEnd] at h1 he <;> exact key
def FnIs (P : Program) (f : FuncId) (N : Nat) (ac : AC) (ds : List RV) : Prop := ∃ fn, P.funcs[f]? = some fn ∧ fn.ntmps = N ∧ fn.body.bind (cCode P N) = some ac ∧ cRess P fn.results.toList = some ds
theorem FnIs.acalls {f : FuncId} {ac : AC} {args : List AV} {h : H} {ds : List RV} {Q : AV → H → Prop} (hF : FnIs P f N ac ds) (hl : args.length ≤ N) (hw : Wp P N ac ⟨initT args, h⟩ fun e s' => isEnd e ∧ ∃ r, resOf ds s'.t s'.h = some r ∧ Q r s'.h) : ∃ r h', ACalls P f args h r h' ∧ Q r h' := by
  obtain ⟨fn, h1, h2, h3, h4⟩ := hF
  subst h2
  obtain ⟨code, hb, hc⟩ := Option.bind_eq_some_iff.1 h3
  exact acalls_of h1 hb hc h4 hl hw
def VPure (x : AV) : Prop := ∀ G G' w v, G'.own = G.own → G'.lim = G.lim → VRel G w x v → VRel G' w x v
def VPures (l : List AV) : Prop := ∀ G G' w vs, G'.own = G.own → G'.lim = G.lim → VRels G w l vs → VRels G' w l vs
theorem ACalls.pure {f : FuncId} {args : List AV} {n m : Nat} {r r' : AV} {h' : H} (ha : VPures args) (hc : ACalls P f args (H0 n m) r h') (hs : VSub r r') (hp : VPure r') : ACalls P f args (H0 n m) r' (H0 n m) := by
  intro G w vs hv R F
  let G0 : Ghost := { G with dom := fun _ => False, tdom := fun _ => False }
  refine (hc G0 w vs (ha G G0 w vs rfl rfl hv) only_rep ⟨fun _ _ _ h => h, fun _ _ _ h => h⟩).mono ?_
  rintro e w' ⟨v, G', rfl, T, R', V⟩
  refine ⟨v, { G' with dom := G.dom, ι := G.ι, tdom := G.tdom, τ := G.τ }, rfl, ?_, only_rep, hp G' _ w' v rfl rfl (hs G' w' v V)⟩
  have hO : ∀ {G : Ghost} B, ¬ (H0 n m).O G B := fun B => only_O B
  have hT : ∀ {G : Ghost} B, ¬ (H0 n m).T G B := fun B ⟨t, ht, _⟩ => by simp [H0, H.only] at ht
  constructor
  · exact fun _ x => x
  · exact fun _ => .inl
  · exact fun _ _ => rfl
  · exact fun _ x => x
  · exact fun _ => .inl
  · exact fun _ _ => rfl
  · exact Nat.le_refl _
  · exact Nat.le_refl _
  · exact T.size_le
  · exact T.os
  · exact T.output
  · exact T.form
  · exact fun B hB _ _ => T.keep B hB (hO B) (hT B)
  · exact fun B hB _ => T.own_keep B hB (hO B)
  · exact fun B hB _ _ => T.lim_keep B hB (hO B) (hT B)
  · exact fun B hB x => absurd x (hT B)
  · exact fun B _ x => absurd x (hO B)
  · exact fun B _ x => absurd x (hT B)
  · exact fun j o x => by simp [H0, H.only, none'] at x
  · exact fun t x => by simp [H0, H.only] at x
theorem FnIs.pcalls {f : FuncId} {ac : AC} {args : List AV} {ds : List RV} {r : AV} (hF : FnIs P f N ac ds) (hl : args.length ≤ N) (ha : VPures args) (hp : VPure r) (hw : ∀ n m, Wp P N ac ⟨initT args, H0 n m⟩ fun e s' => isEnd e ∧ ∃ q, resOf ds s'.t s'.h = some q ∧ VSub q r) : PCalls P f args r := by
  intro n m
  obtain ⟨r', h', hcall, hs⟩ := hF.acalls (Q := fun r' _ => VSub r' r) hl (hw n m)
  exact hcall.pure ha hs hp
end
end Go.Av
end
