/- ALL OPERATIONS TOGETHER. -/
import Derived.Test.YtlefnohibjcekaaAvSoundM
set_option linter.unusedVariables false
set_option linter.unusedSimpArgs false
namespace Go.Av
section
variable {P : Program} {t : Tm} {o : Oper} {h h' : H} {x : AV} {en : Ent}

theorem isU8_eq {e : TypeId} (h : isU8 P e = true) : P.underlying e = some (.int .u8) := by
  unfold isU8 at h
  split at h
  · assumption
  · cases h

theorem opdO_none {mx : Option Operand} {m : Option Opd} (h : opdO P mx = some m) (hm : m.isNone = true) : mx = none ∧ m = none := by
  cases m with
  | some _ => cases hm
  | none =>
    cases mx with
    | none => exact ⟨rfl, rfl⟩
    | some q => simp [opdO] at h

theorem aop_loc {op : AOp} (hc : cOp P o = some op) (hx : aop (ev t) h op = some (x, h', en)) : Loc P o t h x h' en := by
  unfold cOp at hc
  split at hc
  · -- move
    simp only [Option.map_eq_some_iff] at hc
    obtain ⟨y, hy, rfl⟩ := hc
    simp only [aop, Option.some.injEq, Prod.mk.injEq] at hx
    obtain ⟨rfl, rfl, rfl⟩ := hx
    exact Loc.plain fun G w a ht => mov_plain (.inl ‹_›) hy ht
  · -- assign
    simp only [Option.map_eq_some_iff] at hc
    obtain ⟨y, hy, rfl⟩ := hc
    simp only [aop, Option.some.injEq, Prod.mk.injEq] at hx
    obtain ⟨rfl, rfl, rfl⟩ := hx
    exact Loc.plain fun G w a ht => mov_plain (.inr ‹_›) hy ht
  · -- pick
    split at hc <;> cases hc
    simp only [aop] at hx
    split at hx <;> cases hx
    exact Loc.plain fun G w a ht => pick_plain ‹_› ‹_› ‹_› ‹_› ht ‹_›
  · -- alloc
    split at hc
    · simp only [Option.map_eq_some_iff] at hc
      obtain ⟨b, hb, rfl⟩ := hc
      simp only [aop] at hx
      split at hx <;> cases hx
      exact alloc_loc ‹_› ‹_› hb ‹_›
    · cases hc
  · -- box
    simp only [Option.map_eq_some_iff] at hc
    obtain ⟨y, hy, rfl⟩ := hc
    simp only [aop] at hx
    split at hx
    · split at hx <;> cases hx
      exact box_loc ‹_› hy (.inl ‹_›) ‹_›
    · split at hx
      · rename_i hcell
        cases hx
        exact box_loc ‹_› hy (.inr ⟨hcell, rfl⟩) (by simp [hcell])
      · cases hx
  · -- build
    split at hc
    · split at hc
      · split at hc <;> cases hc
        simp only [aop, Option.map_eq_some_iff, Prod.mk.injEq] at hx
        obtain ⟨cs, hcs, rfl, rfl, rfl⟩ := hx
        exact Loc.plain fun G w a ht => build_loc ‹_› ‹_› ‹_› ‹_› ‹_› ‹_› hcs ht
      · cases hc
    · cases hc
  · -- buildSlice
    split at hc
    · rename_i e hu
      split at hc
      · rename_i hcond
        obtain ⟨c1, c2, c3, c4⟩ := hcond
        simp only [Option.map_eq_some_iff] at hc
        obtain ⟨ys, hys, rfl⟩ := hc
        simp only [aop] at hx
        split at hx
        · rename_i hp
          obtain ⟨p1, p2⟩ := hp
          cases hx
          obtain ⟨z, hz1, hz2⟩ : ∃ z, (P.info? e).bind (·.zero) = some z ∧ z.cells.size = P.cellsOf e := by
            cases hz : (P.info? e).bind (·.zero) with
            | none => rw [hz] at c4; simp at c4
            | some z => rw [hz] at c4; exact ⟨z, rfl, by simpa using c4⟩
          refine buildSl_loc ‹_› ‹_› c2 c1 c3 hz1 hz2 hys (fun y hy => ?_) p2
          rw [List.all_eq_true] at p1
          simpa using p1 y hy
        · cases hx
      · cases hc
    · cases hc
  · -- load
    split at hc
    · rename_i hcond
      simp only [Option.map_eq_some_iff] at hc
      obtain ⟨y, hy, rfl⟩ := hc
      simp only [aop] at hx
      split at hx
      · rename_i cs hcs
        simp only [Option.map_eq_some_iff, Prod.mk.injEq] at hx
        obtain ⟨v, hv, rfl, rfl, rfl⟩ := hx
        refine Loc.plain fun G w a ht => ?_
        have r := opd_rel hy ht
        rw [hcs] at r
        simp only [VRel] at r
        obtain ⟨B, off, vs, e1, e2, e3⟩ := r
        exact load_plain ‹_› hcond.1 hcond.2 hy ht e1 e2 (fun j v hj => (e3 j v hj).1) hv
      · split at hx
        · simp only [Option.map_eq_some_iff, Prod.mk.injEq] at hx
          obtain ⟨v, hv, rfl, rfl, rfl⟩ := hx
          exact load_loc ‹_› hcond.1 hcond.2 hy ‹_› ‹_› hv
        · cases hx
      · cases hx
    · cases hc
  · -- store
    split at hc
    · rename_i hcond
      split at hc <;> cases hc
      simp only [aop] at hx
      split at hx
      · split at hx
        · split at hx
          · rename_i hq
            obtain ⟨q1, q2, q3⟩ := hq
            cases hx
            exact store_loc ‹_› hcond.1 hcond.2 ‹_› ‹_› ‹_› ‹_› q1 q2 q3
          · cases hx
        · cases hx
      · cases hx
    · cases hc
  · -- binOp
    split at hc
    · split at hc
      · split at hc <;> cases hc <;>
        · simp only [aop, Option.map_eq_some_iff, Prod.mk.injEq] at hx
          obtain ⟨v, hv, rfl, rfl, rfl⟩ := hx
          exact Loc.plain fun G w a ht => eqB_plain ‹_› ‹_› (by simp) ‹_› ‹_› ht hv
      · split at hc <;> cases hc <;>
        · simp only [aop, Option.map_eq_some_iff, Prod.mk.injEq] at hx
          obtain ⟨v, hv, rfl, rfl, rfl⟩ := hx
          exact Loc.plain fun G w a ht => eqP_plain ‹_› ‹_› (by simp) ‹_› ‹_› ht hv
      · split at hc
        · split at hc
          · rename_i hcond
            split at hc <;> cases hc <;>
            · simp only [aop, Option.map_eq_some_iff, Prod.mk.injEq] at hx
              obtain ⟨v, hv, rfl, rfl, rfl⟩ := hx
              exact Loc.plain fun G w a ht => eqA_plain ‹_› ‹_› ‹_› hcond.1 hcond.2 (by simp) ‹_› ‹_› ht hv
          · cases hc
        · cases hc
      · split at hc <;> cases hc <;>
        · simp only [aop, Option.map_eq_some_iff, Prod.mk.injEq] at hx
          obtain ⟨v, hv, rfl, rfl, rfl⟩ := hx
          exact Loc.plain fun G w a ht => eqM_plain ‹_› ‹_› rfl (by simp) ‹_› ht hv
      · split at hc <;> cases hc <;>
        · simp only [aop, Option.map_eq_some_iff, Prod.mk.injEq] at hx
          obtain ⟨v, hv, rfl, rfl, rfl⟩ := hx
          exact Loc.plain fun G w a ht => eqN_plain ‹_› ‹_› rfl (by simp) ‹_› ht hv
      · cases hc
        simp only [aop, Option.map_eq_some_iff, Prod.mk.injEq] at hx
        obtain ⟨v, hv, rfl, rfl, rfl⟩ := hx
        exact Loc.plain fun G w a ht => bin_plain ‹_› ‹_› ‹_› ht hv
    · cases hc
  · -- unOp
    simp only [Option.map_eq_some_iff] at hc
    obtain ⟨y, hy, rfl⟩ := hc
    simp only [aop, Option.map_eq_some_iff, Prod.mk.injEq] at hx
    obtain ⟨v, hv, rfl, rfl, rfl⟩ := hx
    exact Loc.plain fun G w a ht => un_plain ‹_› hy ht hv
  · -- convert
    split at hc
    · cases hc
      simp only [aop] at hx
      split at hx
      · rename_i e1 e2
        cases e1
        cases hx
        exact Loc.plain fun G w a ht => conv_int_plain ‹_› ‹_› ‹_› ‹_› e2 ht
      · rename_i e1 e2; cases e1
      · rename_i e1 e2; cases e1
      · rename_i e1 e2; cases e1
      · cases hx
    · split at hc <;> cases hc
      rename_i hcond
      have he := isU8_eq hcond.1
      simp only [aop] at hx
      split at hx
      · rename_i e1 e2; cases e1
      · rename_i e1 e2
        split at hx
        · simp only [Option.map_eq_some_iff, Prod.mk.injEq] at hx
          obtain ⟨v, hv, rfl, rfl, rfl⟩ := hx
          exact Loc.plain fun G w a ht => b2s_plain ‹_› ‹_› he ‹_› ‹_› e2 ‹_› hv ht
        · cases hx
      · rename_i e1 e2; cases e1
      · rename_i e1 e2; cases e1
      · cases hx
    · split at hc <;> cases hc
      rename_i hcond
      have he := isU8_eq hcond.1
      simp only [aop] at hx
      split at hx
      · rename_i e1 e2; cases e1
      · rename_i e1 e2; cases e1
      · rename_i e1 e2
        cases hx
        exact s2b_loc ‹_› ‹_› ‹_› he ‹_› e2
      · rename_i e1 e2; cases e1
      · cases hx
    · cases hc
      simp only [aop] at hx
      split at hx
      · rename_i e1 e2; cases e1
      · rename_i e1 e2; cases e1
      · rename_i e1 e2; cases e1
      · rename_i e1 e2
        cases hx
        exact Loc.plain fun G w a ht => conv_str_plain ‹_› ‹_› ‹_› ‹_› e2 ht
      · cases hx
    · cases hc
  · -- makeFunc
    split at hc <;> cases hc
    simp only [aop, Option.some.injEq, Prod.mk.injEq] at hx
    obtain ⟨rfl, rfl, rfl⟩ := hx
    exact Loc.plain fun G w a ht => mkfn_plain ‹_› ‹_› ‹_› ht
  · -- makeSlice
    split at hc
    · split at hc
      · split at hc
        · split at hc
          · split at hc <;> cases hc
            rename_i hcond
            simp only [aop] at hx
            split at hx
            · split at hx
              · rename_i hq
                obtain ⟨q1, q2, q3, q4, q5⟩ := hq
                cases hx
                exact mksl_loc ‹_› ‹_› ‹_› ‹_› hcond.1 hcond.2 ‹_› ‹_› ‹_› ‹_› ‹_› q1 q2 q3 q4 q5
              · cases hx
            · cases hx
          · cases hc
        · cases hc
      · cases hc
    · cases hc
  · -- slice
    split at hc
    · split at hc <;> cases hc
      rename_i hm
      simp only [aop, Option.map_eq_some_iff, Prod.mk.injEq] at hx
      obtain ⟨v, hv, rfl, rfl, rfl⟩ := hx
      obtain ⟨hmx0, rfl⟩ := opdO_none ‹_› hm
      exact Loc.plain fun G w a ht => slc_plain (e := 0) ‹_› (.inl ⟨rfl, ‹_›, hmx0, rfl⟩) ‹_› ‹_› ‹_› ‹_› ht (fun h => absurd rfl h) hv
    · split at hc <;> cases hc
      rename_i hcond
      simp only [aop, Option.map_eq_some_iff, Prod.mk.injEq] at hx
      obtain ⟨v, hv, rfl, rfl, rfl⟩ := hx
      refine Loc.plain fun G w a ht => slc_plain (e := ‹_›) ‹_› (.inr ⟨rfl, ‹_›, hcond.1, rfl⟩) ‹_› ‹_› ‹_› ‹_› ht ?_ hv
      intro hm hh
      rcases hcond.2 with h | h
      · exact hm (by simpa using h)
      · rw [hh] at h; cases h
    · cases hc
  · -- fieldAddr
    split at hc
    · split at hc
      · split at hc <;> cases hc
        rename_i hcond
        simp only [aop] at hx
        split at hx
        · cases hx
          exact Loc.plain fun G w a ht => faddr_plain ‹_› ‹_› ‹_› hcond.1 hcond.2 ‹_› ht (.inl ⟨_, ‹_›, rfl⟩)
        · cases hx
          exact Loc.plain fun G w a ht => faddr_plain ‹_› ‹_› ‹_› hcond.1 hcond.2 ‹_› ht (.inr ⟨_, _, ‹_›, rfl⟩)
        · cases hx
      · cases hc
    · cases hc
  · -- field
    split at hc
    · split at hc
      · split at hc <;> cases hc
        rename_i hcond
        simp only [aop] at hx
        split at hx
        · simp only [Option.map_eq_some_iff, Prod.mk.injEq] at hx
          obtain ⟨v, hv, rfl, rfl, rfl⟩ := hx
          exact Loc.plain fun G w a ht => fld_plain ‹_› ‹_› ‹_› hcond.1 hcond.2 ‹_› ht ‹_› hv
        · cases hx
      · cases hc
    · cases hc
  · -- indexAddr
    split at hc
    · split at hc <;> cases hc
      rename_i hcond
      simp only [aop] at hx
      split at hx
      · split at hx
        · rename_i hq
          obtain ⟨rfl, q2, q3⟩ := hq
          split at hx
          · rename_i hsh
            cases hx
            refine Loc.plain fun G w a ht => iaddr_plain ‹_› ‹_› hcond ‹_› ‹_› ht ‹_› q2 (.inl ⟨_, _, ‹_›, q3, rfl, ?_⟩)
            unfold shaped at hsh
            generalize List.getD _ _ _ = X at hsh
            cases hcx : isCell X
            · rw [hcx, Bool.false_or] at hsh
              right
              cases X <;> simp only [Bool.false_eq_true] at hsh
              exact ⟨_, rfl⟩
            · exact .inl rfl
          · cases hx
        · cases hx
      · split at hx
        · rename_i hq
          cases hx
          obtain ⟨rfl, q2, q3⟩ := hq
          exact Loc.plain fun G w a ht => iaddr_plain ‹_› ‹_› hcond ‹_› ‹_› ht ‹_› q2 (.inr ⟨_, _, _, _, ‹_›, q3, rfl⟩)
        · cases hx
      · cases hx
    · cases hc
  · -- index
    split at hc <;> cases hc
    simp only [aop] at hx
    split at hx
    · split at hx
      · rename_i hq
        cases hx
        exact Loc.plain fun G w a ht => idx_plain ‹_› ‹_› ‹_› ‹_› ht ‹_› ‹_› hq
      · cases hx
    · cases hx
  · -- makeMap
    split at hc <;> cases hc
    · simp only [aop, Option.some.injEq, Prod.mk.injEq] at hx
      obtain ⟨rfl, rfl, rfl⟩ := hx
      exact mkmap_loc ‹_› ‹_› (.inl rfl)
    · simp only [aop, Option.some.injEq, Prod.mk.injEq] at hx
      obtain ⟨rfl, rfl, rfl⟩ := hx
      exact mkmap_loc ‹_› ‹_› (.inr ⟨_, _, rfl⟩)
  · -- lookup
    split at hc
    · split at hc
      · simp only [Option.map_eq_some_iff] at hc
        obtain ⟨zz, hzz, rfl⟩ := hc
        simp only [aop] at hx
        split at hx
        · split at hx
          · simp only [Option.map_eq_some_iff, Prod.mk.injEq] at hx
            obtain ⟨r, hr, rfl, rfl, rfl⟩ := hx
            exact mlook_loc ‹_› ‹_› ‹_› ‹_› hzz ‹_› ‹_› ‹_› ‹_› ‹_› hr
          · cases hx
        · cases hx
          exact Loc.plain fun G w a ht => mlookn_plain ‹_› ‹_› ‹_› ‹_› hzz ‹_› ‹_› ht ‹_› ‹_›
        · cases hx
      · cases hc
    · cases hc
  · -- mapUpdate
    split at hc
    · split at hc <;> cases hc
      simp only [aop] at hx
      split at hx
      · split at hx
        · simp only [Option.map_eq_some_iff, Prod.mk.injEq] at hx
          obtain ⟨r, hr, rfl, rfl, rfl⟩ := hx
          exact mput_loc (.inl ‹_›) ‹_› ‹_› ‹_› ‹_› ‹_› ‹_› ‹_› ‹_› hr
        · cases hx
      · cases hx
    · cases hc
  · -- insert
    split at hc
    · split at hc <;> cases hc
      simp only [aop] at hx
      split at hx
      · split at hx
        · simp only [Option.map_eq_some_iff, Prod.mk.injEq] at hx
          obtain ⟨r, hr, rfl, rfl, rfl⟩ := hx
          exact mput_loc (.inr ‹_›) ‹_› ‹_› ‹_› ‹_› ‹_› ‹_› ‹_› ‹_› hr
        · cases hx
      · cases hx
    · cases hc
  · -- extract
    simp only [Option.map_eq_some_iff] at hc
    obtain ⟨y, hy, rfl⟩ := hc
    simp only [aop] at hx
    split at hx
    · simp only [Option.map_eq_some_iff, Prod.mk.injEq] at hx
      obtain ⟨v, hv, rfl, rfl, rfl⟩ := hx
      exact Loc.plain fun G w a ht => ext_plain ‹_› hy ht ‹_› hv
    · cases hx
  · -- nilCheck
    simp only [Option.map_eq_some_iff] at hc
    obtain ⟨y, hy, rfl⟩ := hc
    simp only [aop] at hx
    split at hx
    · rename_i e1
      cases hx
      rw [← e1]
      exact Loc.plain fun G w a ht => nilck_plain ‹_› hy ht (.inl ⟨_, _, e1⟩)
    · rename_i e1
      cases hx
      rw [← e1]
      exact Loc.plain fun G w a ht => nilck_plain ‹_› hy ht (.inr ⟨_, e1⟩)
    · cases hx
  · -- call
    rename_i c hop
    split at hc
    · -- len
      split at hc
      · rename_i x0 t0 ha hta
        split at hc <;> cases hc
        · simp only [aop] at hx
          split at hx <;> cases hx
          · exact Loc.plain fun G w a ht => len_plain hop ‹_› ha hta ‹_› ht (.inl ⟨‹_›, _, ‹_›, rfl⟩)
          all_goals (rename_i e1 _; cases e1)
        · simp only [aop] at hx
          split at hx <;> cases hx
          · rename_i e1 _; cases e1
          · exact Loc.plain fun G w a ht => len_plain hop ‹_› ha hta ‹_› ht (.inr ⟨⟨_, ‹_›⟩, .inl ⟨_, _, _, ‹_›, rfl⟩⟩)
          · exact Loc.plain fun G w a ht => len_plain hop ‹_› ha hta ‹_› ht (.inr ⟨⟨_, ‹_›⟩, .inr ⟨_, _, _, _, ‹_›⟩⟩)
        · simp only [aop] at hx
          split at hx
          · split at hx
            · simp only [Option.some.injEq, Prod.mk.injEq] at hx
              obtain ⟨rfl, rfl, rfl⟩ := hx
              exact mlen_loc hop ‹_› ha hta ‹_› ‹_› ‹_› ‹_›
            · cases hx
          · simp only [Option.some.injEq, Prod.mk.injEq] at hx
            obtain ⟨rfl, rfl, rfl⟩ := hx
            exact Loc.plain fun G w a ht => mlenn_plain hop ‹_› ha hta ‹_› ‹_› ht ‹_›
          · cases hx
      · cases hc
    · -- delete
      rename_i hcal
      split at hc
      · rename_i z1 z2 T0 ts0 ha hta
        split at hc
        · split at hc <;> cases hc
          simp only [aop] at hx
          split at hx
          · split at hx
            · simp only [Option.map_eq_some_iff, Prod.mk.injEq] at hx
              obtain ⟨r, hr, rfl, rfl, rfl⟩ := hx
              exact mdel_loc hop hcal ha hta ‹_› ‹_› ‹_› ‹_› ‹_› ‹_› ‹_› hr
            · cases hx
          · cases hx
        · cases hc
      · cases hc
    · -- min
      rename_i hcal
      split at hc
      · rename_i z1 z2 ha
        split at hc <;> cases hc
        simp only [aop, Option.map_eq_some_iff, Prod.mk.injEq] at hx
        obtain ⟨v, hv, rfl, rfl, rfl⟩ := hx
        exact Loc.plain fun G w a ht => mm_plain (mx := false) hop hcal ha ‹_› ‹_› ht hv
      · cases hc
    · -- max
      rename_i hcal
      split at hc
      · rename_i z1 z2 ha
        split at hc <;> cases hc
        simp only [aop, Option.map_eq_some_iff, Prod.mk.injEq] at hx
        obtain ⟨v, hv, rfl, rfl, rfl⟩ := hx
        exact Loc.plain fun G w a ht => mm_plain (mx := true) hop hcal ha ‹_› ‹_› ht hv
      · cases hc
    · -- clear
      rename_i hcal
      split at hc
      · rename_i z0 T0 ha hta
        split at hc
        · split at hc
          · rename_i i hi
            split at hc
            · split at hc
              · split at hc <;> cases hc
                rename_i hcond
                simp only [aop] at hx
                split at hx
                · split at hx
                  · rename_i hv hl0
                    cases hx
                    subst hl0
                    exact Loc.plain fun G w a ht => clr0_plain hop hcal ha hta ‹_› ht hv ⟨_, ‹_›⟩
                  · split at hx
                    · split at hx
                      · rename_i hq
                        obtain ⟨rfl, q2, q3, q4⟩ := hq
                        cases hx
                        exact clr_loc hop hcal ha hta ‹_› hi ‹_› hcond.1 ‹_› hcond.2 ‹_› ‹_› ‹_› ‹_› q2 q3 q4
                      · cases hx
                    · cases hx
                · cases hx
              · cases hc
            · cases hc
          · cases hc
        · cases hc
      · cases hc
    · -- append
      rename_i hcal
      split at hc
      · rename_i zs zx T U ha hta
        split at hc
        · split at hc
          · rename_i i hi
            split at hc <;> cases hc
            rename_i hcond
            simp only [aop] at hx
            split at hx
            · split at hx
              · rename_i hq
                obtain ⟨q1, q2, q3, q4⟩ := hq
                split at hx
                · split at hx
                  · rename_i hk
                    cases hx
                    exact app_loc hop hcal ha hta ‹_› ‹_› (.inl ⟨_, rfl⟩) hi hcond.2 hcond.1 ‹_› ‹_› ‹_› (.inl ⟨_, _, ‹_›, q2⟩) q3 q4 (.inr ⟨_, rfl, hk.1, hk.2, rfl, rfl⟩)
                  · cases hx
                · split at hx
                  · rename_i hk
                    cases hx
                    exact app_loc hop hcal ha hta ‹_› ‹_› (.inl ⟨_, rfl⟩) hi hcond.2 hcond.1 ‹_› ‹_› ‹_› (.inl ⟨_, _, ‹_›, q2⟩) q3 q4 (.inl ⟨⟨_, rfl, hk⟩, q1, rfl, rfl⟩)
                  · cases hx
                · cases hx
              · cases hx
            · rename_i e1 _ _; cases e1
            · cases hx
          · cases hc
        · split at hc
          · rename_i i hi
            split at hc <;> cases hc
            rename_i hcond
            simp only [aop] at hx
            split at hx
            · rename_i e1 _ _; cases e1
            · split at hx
              · rename_i hq
                obtain ⟨q1, q2, q3, q4⟩ := hq
                have hbl : ∀ l : List UInt8, (bytesAV l).length = l.length := fun l => by simp [bytesAV]
                rw [← hbl] at q3 q4
                split at hx
                · split at hx
                  · rename_i hk
                    cases hx
                    exact app_loc hop hcal ha hta ‹_› ‹_› (.inr rfl) hi hcond.2 (by omega) ‹_› ‹_› ‹_› (.inr ⟨_, ‹_›, rfl, q2⟩) q3 q4 (.inr ⟨_, rfl, hk.1, hk.2, rfl, rfl⟩)
                  · cases hx
                · split at hx
                  · rename_i hk
                    cases hx
                    exact app_loc hop hcal ha hta ‹_› ‹_› (.inr rfl) hi hcond.2 (by omega) ‹_› ‹_› ‹_› (.inr ⟨_, ‹_›, rfl, q2⟩) q3 q4 (.inl ⟨⟨_, rfl, hk⟩, q1, rfl, rfl⟩)
                  · cases hx
                · cases hx
              · cases hx
            · cases hx
          · cases hc
        · split at hc
          · rename_i i hi
            split at hc
            · rename_i b hbz
              split at hc <;> cases hc
              rename_i hcond
              obtain ⟨z, hz1, hz2⟩ := Option.bind_eq_some_iff.1 hbz
              have hz3 : z.cells.size = i.size := by
                have := hcond.2
                rw [hz1] at this
                simpa using this
              simp only [aop] at hx
              split at hx
              · split at hx
                · rename_i hq
                  obtain ⟨q1, q2, q3, q4, q5, q6⟩ := hq
                  split at hx
                  · split at hx
                    · rename_i hk
                      cases hx
                      exact appz_loc hop hcal ha hta ‹_› ‹_› hi hz1 hz3 hz2 hcond.1 ‹_› ‹_› ‹_› ‹_› q2 q5 q6 q3 q4 (.inr ⟨_, rfl, hk.1, hk.2, rfl, rfl⟩)
                    · cases hx
                  · split at hx
                    · rename_i hk
                      cases hx
                      exact appz_loc hop hcal ha hta ‹_› ‹_› hi hz1 hz3 hz2 hcond.1 ‹_› ‹_› ‹_› ‹_› q2 q5 q6 q3 q4 (.inl ⟨⟨_, rfl, hk⟩, q1, rfl, rfl⟩)
                    · cases hx
                  · cases hx
                · cases hx
              · cases hx
            · cases hc
          · cases hc
        · cases hc
      · cases hc
    · -- a function
      split at hc
      · split at hc
        · simp only [Option.map_eq_some_iff] at hc
          obtain ⟨l, hl, rfl⟩ := hc
          simp [aop] at hx
        · cases hc
      · cases hc
    · split at hc <;> cases hc
      simp [aop] at hx
    · cases hc
  · cases hc
end
end Go.Av
