/- DeskTable: the statement 'DeskTableCardSaid' (a tied card), closed by the law that the walk shows. No condition. -/
import Derived.Deep.CondSized
import Derived.Deep.DeepHandedRow
import Derived.IntWalk
import Derived.KernelRfl
import Derived.Laws.Append
import Derived.Laws.AppendOwn
import Derived.Laws.BytesArg
import Derived.Laws.ComplexArith
import Derived.Laws.Cover3
import Derived.Laws.Entries
import Derived.Laws.FloatBits
import Derived.Laws.IdiomCopy
import Derived.Laws.IdiomStrings
import Derived.Laws.Pointers
import Derived.Laws.Small
import Derived.Laws.Strings
import Derived.Laws.StructEq
import Derived.Lib.LaidTab
import Derived.MapKept
import Derived.OpenShut
import Derived.Orders
import Derived.OrdersIn
import Derived.ProofKit
import Derived.RangeFuncRecord
import Derived.RangeFuncSeq
import Derived.ReadAgain
import Derived.Scope
import Derived.Shelf.Slices.Cells
import Derived.Shelf.Spec.SlicesInsertGrow
import Derived.SizedLaws
import Derived.Test.YtkcgpcbpieofnaaGreatDoorCards
import Derived.Test.YtkcgpcbpieofnaaGreatDoorProg
import Derived.Test.YtkcgpcbpieofnaaGreatDoorTie
import Derived.Test.YtkcgpcbpieofnaaGreatDoorKTE
section
set_option linter.unusedVariables false
set_option linter.unusedSimpArgs false
namespace Go.Av
section
variable {P : Program}
theorem acalls_runZ {T : FT} (ok : T.Ok P) (nm : T.named P = true) {pr : PrimsZ} (hpr : PrimsOkZ P pr) {k f : Nat} {args : List AV} {h h' : HZ} {r : AV} {en : Ent} (hc : callZ T pr (runZ T pr k []) true f args h = some (r, h', en)) :
    ACalls P f args (h.hp.sg fun _ => (.skip, .skip)) r (h'.hp.sg fun _ => (.skip, .skip)) := by
  obtain ⟨⟨h1, h1', tc, ac⟩, -⟩ := callZ_ok (σ := fun _ => (.skip, .skip)) ok nm hpr (runZ_ok ok nm hpr k _ [] (fun r h => by cases h)) hc
  rcases tc with tc | ⟨-, e1, e2, -⟩
  · rw [tc.eq]; exact ac.frame tc.sub tc.n tc.m tc.le tc.lem
  · rw [← e1, ← e2]; exact ac
theorem ACalls.shiftP {f : FuncId} {a b : Nat} {cs : List AV} {h' : H} (hc : ACalls P f [] (H0 0 0) (.tup [.ptr a 0, .ptr b 0]) h') (ha : h'.objs a = some (.cells cs)) (n m : Nat) :
    ACalls P f [] (H0 n m) (.tup [.ptr (n + a) 0, .any]) (.only (upd none' (n + a) (some (.cells []))) [] (n + h'.n) (m + h'.m)) := by
  intro G w vs hv R F
  let G0 : Ghost := { G with dom := fun _ => False, tdom := fun _ => False }
  have R0 : RepH G0 (H0 0 0) w := only_rep
  refine (hc G0 w vs (by simpa only [VRels] using hv) R0 ⟨fun _ _ _ h => h, fun _ _ _ h => h⟩).mono ?_
  rintro e w' ⟨v, G', rfl, T, R', V⟩
  obtain ⟨q1, q2, q3, ws, rest, T0, fr, y1, y2, y3, y4⟩ := R'.obj a _ ha
  have hlt : a < h'.n := by
    rcases T.dom_new a q1 with h | h
    · exact absurd h (by simp [G0])
    · exact h.2
  have hnd : ¬ G.dom (n + a) := F.1 (n + a) (by simp [H0, H.only]) (by simp [H.only]; omega)
  have hO0 : ∀ B, ¬ (H0 0 0).O G0 B := fun B => only_O B
  have hO : ∀ B, ¬ (H0 n m).O G B := fun B => only_O B
  have hT0 : ∀ B, ¬ (H0 0 0).T G0 B := fun B ⟨t, ht, _⟩ => by simp [H0, H.only] at ht
  have hT : ∀ B, ¬ (H0 n m).T G B := fun B ⟨t, ht, _⟩ => by simp [H0, H.only] at ht
  let G2 : Ghost := { G' with dom := fun i => G.dom i ∨ i = n + a, ι := fun i => if i = n + a then G'.ι a else G.ι i, tdom := G.tdom, τ := G.τ }
  have hι : G2.ι (n + a) = G'.ι a := if_pos rfl
  have hobj : ∀ j o, (H.only (upd none' (n + a) (some (.cells []))) [] (n + h'.n) (m + h'.m)).objs j = some o → j = n + a ∧ o = .cells [] := by
    intro j o hj
    simp only [H.only, upd, none'] at hj
    split at hj
    · rename_i e; cases hj; exact ⟨e, rfl⟩
    · cases hj
  refine ⟨v, G2, rfl, ?_, ?_, ?_⟩
  · constructor
    · exact fun id x => .inl x
    · rintro id (x | rfl)
      · exact .inl x
      · exact .inr ⟨by simp [H0, H.only], by simp [H.only]; omega⟩
    · intro id x
      have : id ≠ n + a := by rintro rfl; exact hnd x
      exact if_neg this
    · exact fun _ x => x
    · exact fun _ => .inl
    · exact fun _ _ => rfl
    · simp [H0, H.only]
    · simp [H0, H.only]
    · exact T.size_le
    · exact T.os
    · exact T.output
    · exact T.form
    · exact fun B hB _ _ => T.keep B hB (hO0 B) (hT0 B)
    · exact fun B hB _ => T.own_keep B hB (hO0 B)
    · exact fun B hB _ _ => T.lim_keep B hB (hO0 B) (hT0 B)
    · exact fun B hB x => absurd x (hT B)
    · rintro B hB ⟨id, o, ho, e⟩
      obtain ⟨rfl, -⟩ := hobj id o ho
      rw [hι] at e
      exact absurd (T.O_new B hB ⟨a, _, ha, e⟩) (hO0 B)
    · rintro B _ ⟨t, ht, _⟩
      simp [H.only] at ht
    · intro j o ho
      obtain ⟨rfl, -⟩ := hobj j o ho
      exact .inr ⟨by simp [H0, H.only], by simp [H.only]; omega⟩
    · intro t ht
      simp [H.only] at ht
  · constructor
    · intro j o ho
      obtain ⟨rfl, rfl⟩ := hobj j o ho
      rw [hι]
      exact ⟨.inr rfl, q2, q3, [], ws ++ rest, T0, fr, by simpa using y1, by simp [VRels], y3, by simp⟩
    · intro i j o o' hi hj _
      rw [(hobj i o hi).1, (hobj j o' hj).1]
    · intro t ht; simp [H.only] at ht
    · intro t ht; simp [H.only] at ht
  · simp only [VRel, VRels] at V ⊢
    obtain ⟨us, e1, v1, us1, e2, ⟨-, e3⟩, v2, us2, e4, -, e6⟩ := V
    exact ⟨us, e1, v1, us1, e2, ⟨.inr rfl, by rw [hι]; exact e3⟩, v2, us2, e4, trivial, e6⟩
end
end Go.Av
end
section
set_option linter.unusedVariables false
set_option linter.unusedSimpArgs false
namespace Go.Av
section
variable {P : Program} {N : Nat} {o : Oper} {t : Tm} {h : H}
theorem mkslT_loc {ty e : TypeId} {zl zc : Operand} {yl yc : Opd} {i : TypeInfo} {z : Value} {b : AV} {kl kc : IntKind} {l c : Int} (hop : o.op = .makeSlice ty zl zc) (hu : P.underlying ty = some (.slice e)) (hi : P.info? e = some i) (hz : i.zero = some z) (hzs : z.cells.size = i.size) (hpos : 0 < i.size)
    (hb : constAV P e z = some b) (hyl : opd P 0 zl = some yl) (hyc : opd P 0 zc = some yc) (hl : ev t yl = .int kl l) (hc : ev t yc = .int kc c) (h0 : 0 ≤ l) (hlc : l ≤ c) (hbytes : c * i.bytes ≤ 140737488355328) (hc63 : c < 9223372036854775808) (hsh : shaped b = true) :
    Loc P o t h (.tsl i.size h.n 0 l.toNat none) { h with objs := upd h.objs h.n (some (.cells ((List.replicate l.toNat b).flatMap cellsOf))), n := h.n + 1 } ⟨[], [h.n], []⟩ := by
  refine ⟨_, _, touch_new h _, fun G w a ht R F => ?_⟩
  have r1 := opd_rel hyl ht
  have r2 := opd_rel hyc ht
  rw [hl] at r1
  rw [hc] at r2
  simp only [VRel] at r1 r2
  have rb := const_rel (G := G) (w := w) hb
  obtain ⟨sc1, sc2⟩ := shaped_cells rb hsh
  have hel : ∀ k : Nat, VElems G w i.size (List.replicate k b) (List.replicate k z.cells.toList).flatten := by
    intro k
    induction k with
    | zero => simp [VElems]
    | succ k ih =>
      simp only [List.replicate_succ, List.flatten_cons, VElems]
      exact ⟨z, _, rfl, hzs, rb, ih⟩
  have hone : ∀ k : Nat, ∀ u ∈ (List.replicate k z.cells.toList).flatten, One u := by
    intro k u hu
    obtain ⟨x, hx, hu'⟩ := List.mem_flatten.1 hu
    rw [(List.mem_replicate.1 hx).2] at hu'
    exact cells_one sc1 sc2 u hu'
  have hrow : ∀ k : Nat, (((Array.range (k * i.size)).map (z.cells[· % z.cells.size]!))).toList = (List.replicate k z.cells.toList).flatten := by
    intro k
    apply List.ext_getElem?
    intro j
    have hL : z.cells.toList.length = i.size := by simp [hzs]
    rcases Nat.lt_or_ge j (k * i.size) with hj | hj
    · rw [get_flat z.cells.toList (by omega) k j (by rw [hL]; exact hj), hL]
      have hm : j % i.size < z.cells.size := by rw [hzs]; exact Nat.mod_lt _ hpos
      have hb2 : z.cells[j % i.size]? = some z.cells[j % i.size]! := by rw [getElem!_pos z.cells (j % i.size) hm]; exact Array.getElem?_eq_getElem hm
      simp [hj, hzs, hb2]
    · rw [List.getElem?_eq_none (by simp; omega), List.getElem?_eq_none (by simp [hzs]; omega)]
  have hrow2 : ((Array.range (c.toNat * i.size)).map (z.cells[· % z.cells.size]!)) = ((List.replicate l.toNat z.cells.toList).flatten ++ (List.replicate (c.toNat - l.toNat) z.cells.toList).flatten).toArray := by
    apply Array.ext'
    rw [hrow]
    have : c.toNat = l.toNat + (c.toNat - l.toNat) := by omega
    rw [this, ← List.replicate_append_replicate, List.flatten_append]
    simp
  have hlen : ∀ k : Nat, ((List.replicate k z.cells.toList).flatten).length = k * i.size := by intro k; simp [hzs]
  obtain ⟨G', T1, R1, V⟩ := new_tsl (m := h.m) (sz := i.size) (len := l.toNat) (C := c.toNat) (pushed_alloc w (.cells ((List.replicate l.toNat z.cells.toList).flatten ++ (List.replicate (c.toNat - l.toNat) z.cells.toList).flatten).toArray e (0, 0))) (rels_of_elems (hel l.toNat) (by simp [hsh])) (hone _) (fresh_n F (by simp [H.only])) ⟨by omega, by omega⟩ (by rw [hlen, hlen, ← Nat.add_mul]; exact Nat.mul_le_mul_right _ (by omega))
  refine ⟨.value (.slice (some ⟨w.heap.size, 0, none⟩) l.toNat c.toNat), _, _, G', ?_, .inl rfl, T1, R1, V⟩
  have hwl : IntKind.i64.wrap l = l := by
    simp [IntKind.wrap, IntKind.bits, IntKind.signed]; omega
  have hwc : IntKind.i64.wrap c = c := by
    simp [IntKind.wrap, IntKind.bits, IntKind.signed]; omega
  have hcc : i.bytes * c ≤ 140737488355328 := by rw [Int.mul_comm]; exact hbytes
  have e1 : ¬ (c < 0) := by omega
  have e2 : ¬ (281474976710656 < (i.bytes : Int) * c) := by omega
  have e3 : ¬ (l < 0) := by omega
  have e4 : ¬ (c < l) := by omega
  have hrz : (zeroValue e).run P w = .ok z w := by simp [zeroValue, typeInfo, hi, hz]
  have hsize : (sizeOf e).run P w = .ok i.size w := by simp [sizeOf, typeInfo, hi]
  simp only [execOp, hop, Instr.makeSlice, Sem.run_bind, run_underlying hu, Result.andThen_ok, r1, r2, asInt, asIntOf, Sem.run_pure, typeInfo, run_program, hi, hwl, hwc]
  simp [e1, e2, e3, e4, hsize, hrz, newRow]
  split
  · rename_i hz0
    have hc0 : c.toNat = 0 := by
      rcases Nat.mul_eq_zero.1 hz0 with h | h
      · exact h
      · omega
    have hl0 : l.toNat = 0 := by omega
    have hr0 : Array.range 0 = #[] := rfl
    simp [hc0, hl0, hr0]
  · have hrow3 := hrow2
    simp only [hrow3]
def aopM (ρ : Opd → AV) (h : H) : AOp → Option (AV × H × Ent)
  | .mksl sz bytes zero len cap => match ρ len, ρ cap with
    | .int _ l, .int _ c => if 0 ≤ l ∧ l ≤ c ∧ c * bytes ≤ 140737488355328 ∧ c < 9223372036854775808 ∧ shaped zero then
        some (.tsl sz h.n 0 l.toNat none, { h with objs := upd h.objs h.n (some (.cells ((List.replicate l.toNat zero).flatMap cellsOf))), n := h.n + 1 }, ⟨[], [h.n], []⟩) else none
    | _, _ => none
  | _ => none
theorem aopM_loc {op : AOp} {x : AV} {h' : H} {en : Ent} (hc : cOp P o = some op) (hx : aopM (ev t) h op = some (x, h', en)) : Loc P o t h x h' en := by
  cases op <;> (try (simp [aopM] at hx; done))
  rename_i sz bytes zero len cap
  have inv : ∃ ty zl zc e i z, o.op = .makeSlice ty zl zc ∧ P.underlying ty = some (.slice e) ∧ P.info? e = some i ∧ i.zero = some z ∧ z.cells.size = i.size ∧ 0 < i.size ∧ constAV P e z = some zero ∧ opd P 0 zl = some len ∧ opd P 0 zc = some cap ∧ i.size = sz ∧ i.bytes = bytes := by
    unfold cOp at hc
    split at hc
    case h_14 =>
      split at hc
      · split at hc
        · split at hc
          · split at hc
            · split at hc
              case isFalse => cases hc
              rename_i hcond
              cases hc
              exact ⟨_, _, _, _, _, _, ‹_›, ‹_›, ‹_›, ‹_›, hcond.1, hcond.2, ‹_›, ‹_›, ‹_›, rfl, rfl⟩
            · cases hc
          · cases hc
        · cases hc
      · cases hc
    all_goals first
      | (cases hc; done)
      | (simp at hc; done)
      | ((repeat' split at hc) <;> (try cases hc) <;> (try simp at hc) ; done)
  obtain ⟨ty, zl, zc, e, i, z, h1, h2, h3, h4, h5, h6, h7, h8, h9, rfl, rfl⟩ := inv
  simp only [aopM] at hx
  split at hx
  · split at hx
    · rename_i hq
      obtain ⟨q1, q2, q3, q4, q5⟩ := hq
      cases hx
      exact mkslT_loc h1 h2 h3 h4 h5 h6 h7 h8 h9 ‹_› ‹_› q1 q2 q3 q4 q5
    · cases hx
  · cases hx
theorem aopM_congr {ρ ρ' : Opd → AV} {op : AOp} (hx : ∀ y ∈ opdsOf op, ρ y = ρ' y) : aopM ρ h op = aopM ρ' h op := by
  cases op <;> (try rfl)
  rename_i sz bytes zero len cap
  simp only [aopM, hx len (by simp [opdsOf]), hx cap (by simp [opdsOf])]
theorem itrun_opM {ops : Array Oper} {i : Nat} {o : Oper} {it : AItem} {t : Tm} {h h' : H} {x : AV} {en : Ent} (ho : ops[i]? = some o) (hit : cItem P N ops o = some it) (hg : guardOf t it.guard = some true) (hx : aopM (ev t) h it.op = some (x, h', en)) :
    ∃ h1 h1', Touch h h1 h1' h' en ∧ ItRun P ops i o t h1 x h1' := by
  unfold cItem at hit
  split at hit
  · rename_i op g hop hgd
    split at hit <;> cases hit
    rename_i hcond
    simp only [Bool.and_eq_true] at hcond
    have hop := cOpD_of hop (by rintro rfl; simp [aopM] at hx) (by cases op <;> first | rfl | (simp [aopM] at hx))
    have hx' : aopM (ev (cutTo (names ops o) t)) h op = some (x, h', en) := by
      rw [aopM_congr (cut_ev hcond.2)]; exact hx
    obtain ⟨h1, h1', tc, loc⟩ := aopM_loc hop hx'
    refine ⟨h1, h1', tc, fun G w a ht R F K Q hK ro => ?_⟩
    obtain ⟨nx, v, w', G', e1, e2, T1, R1, V⟩ := loc G w a (cut_rel ht) R F
    unfold wpOpIn
    rw [ho]
    simp only [guard_wanted hgd ht hg, if_true]
    refine ⟨fun _ _ => trivial, ?_⟩
    rw [Oper.semAt_eq _ _ _ (cOp_plain hop), e1]
    rcases e2 with rfl | ⟨rfl, rfl⟩
    · rw [Oper.uponIn_value]; exact hK G' w' v T1 R1 V
    · rw [Oper.uponIn_skip]; exact hK G' w' undef T1 R1 V
  · cases hit
theorem WpItemsF.opM {dst : Option Nat} {g : Option (Nat × Bool)} {op : AOp} {its : List AItem} {t : Tm} {h h' : H} {en : Ent} {K : Tm → H → Prop} {x : AV} (hg : guardOf t g = some true) (hx : aopM (ev t) h op = some (x, h', en))
    (rest : WpItemsF P N its (putT t dst x) h' K) : WpItemsF P N (⟨dst, g, op⟩ :: its) t h K :=
  WpItemsF.step (it := ⟨dst, g, op⟩) (fun ops i o ho hit => by
    obtain ⟨h1, h1', tc, run⟩ := itrun_opM ho hit hg hx
    exact Near.frun (N := N) (full := false) (.inl tc) run) rest
end
end Go.Av
end
section
set_option linter.unusedSimpArgs false
set_option linter.unusedVariables false
set_option maxRecDepth 100000
namespace Go.Proofs.YtkcgpcbpieofnaaGreatDoor.Desk
open Go Go.Av Go.Proofs Go.Proofs.YtkcgpcbpieofnaaGreatDoor.C
theorem newTable_a (n m : Nat) : ACalls Tryz.prog 38 [] (H0 n m) (.ptr n 0) (tabO n (List.replicate 8 nilV) (n + 1) m) := by
  refine FnIs.acallsR f38 (by simp) ?_
  unfold c38
  repeat (first
    | refine WpItemsF.nil ?_
    | ((first | apply Wp.seqItemsF | apply Wp.itemsF); (· simp only [go_sem, reduceIte, Nat.reduceEqDiff, Nat.reduceAdd, bx, ax, if_true, if_false, Nat.reduceMul, Nat.reduceLeDiff]; exact rfl))
    | (apply Wp.cond_lit; (· simp only [go_sem, reduceIte, Nat.reduceEqDiff, Nat.reduceAdd, bx, ax, if_true, if_false, Nat.reduceMul, Nat.reduceLeDiff]; exact rfl); (· rfl))
    | refine Wp.skip ?_
    | refine Wp.label ?_
    | refine Wp.block ?_
    | refine Wp.exit ?_
    | refine Wp.seq ?_)
  refine Wp.ret ⟨trivial, _, rfl, ?_⟩
  simp only [go_sem, reduceIte, Nat.reduceEqDiff, Nat.reduceAdd, bx]
  exact ⟨VSub.refl _, rfl⟩
theorem same_p (l : List Int) (hl : l.length ≤ 8) : PCalls Tryz.prog 43 [.sl 1 (ints' l) .any, .sl 1 (ints' l) .any] (.bool true) := by
  refine f43.pcalls0 (by simp) (by simp [allPure, isPure, capPure, ints_pure]) rfl ?_
  unfold c43
  have d0 : decide ((l.length : Int) = (l.length : Int)) = true := by simp
  repeat (first
    | ((first | apply Wp.seqItems | apply Wp.items); (· simp only [go_sem, reduceIte, Nat.reduceEqDiff, Nat.reduceAdd, bx, ax, if_true, if_false, Nat.reduceMul, Nat.reduceLeDiff, ints_len, d0, Bool.not_true]; exact rfl))
    | (refine WpItems.nil ⟨?_, ?_⟩; (· first | trivial | simp [pairsQ, pairsOk, apart, ent0]))
    | (apply Wp.cond_lit; (· simp only [go_sem, reduceIte, Nat.reduceEqDiff, Nat.reduceAdd, bx, ax, if_true, if_false, Nat.reduceMul, Nat.reduceLeDiff, ints_len, d0, Bool.not_true]; exact rfl); (· rfl))
    | refine Wp.skip ?_
    | refine Wp.label ?_
    | refine Wp.block ?_
    | refine Wp.exit ?_
    | refine Wp.seq ?_)
  refine Wp.loopK [0, 1] (by simp only [go_sem, reduceIte, Nat.reduceEqDiff, Nat.reduceAdd, bx, List.map]; exact rfl) (fun j : Nat => [(5, .int .i64 j)]) (fun j => j ≤ l.length) (fun j => l.length - j) 0 (Nat.zero_le _) ?_ ?_
  · simp only [AllSub, go_sem, reduceIte, Nat.reduceEqDiff, Nat.reduceAdd, bx]; and_intros <;> first | exact trivial | exact VSub.refl _ | exact VSub.any _ | (refine VSub.int ?_; omega)
  · intro j hj
    by_cases hc : j < l.length
    · have d1 : decide ((j : Int) < (l.length : Int)) = true := decide_eq_true (by omega)
      have h2 : (0 : Int) ≤ (j : Int) := by omega
      have h3 : (j : Int) < (l.length : Int) := by omega
      have e1 : IntKind.i64.wrap ((j : Int) + 1) = ((j + 1 : Nat) : Int) := by rw [IntWalk.i64_in _ (by omega)]; omega
      have hg : ∀ d : AV, (ints' l).getD j d = .int .i64 (l.getD j 0) := fun d => by simp [ints', List.getD, List.getElem?_eq_getElem hc]
      have d2 : decide (l.getD j 0 = l.getD j 0) = true := by simp
      repeat (first
        | ((first | apply Wp.seqItems | apply Wp.items); (· simp only [go_sem, reduceIte, Nat.reduceEqDiff, Nat.reduceAdd, bx, ax, if_true, if_false, Nat.reduceMul, Nat.reduceLeDiff, ints_len, d1, e1, h2, h3, Int.toNat_natCast, hg, d2, Bool.not_true]; exact rfl))
        | (refine WpItems.nil ⟨?_, ?_⟩; (· first | trivial | simp [pairsQ, pairsOk, apart, ent0]))
        | (apply Wp.cond_lit; (· simp only [go_sem, reduceIte, Nat.reduceEqDiff, Nat.reduceAdd, bx, ax, if_true, if_false, Nat.reduceMul, Nat.reduceLeDiff, ints_len, d1, e1, h2, h3, Int.toNat_natCast, hg, d2, Bool.not_true]; exact rfl); (· rfl))
        | refine Wp.skip ?_
        | refine Wp.label ?_
        | refine Wp.block ?_
        | refine Wp.exit ?_
        | refine Wp.seq ?_)
      refine ⟨j + 1, by omega, by omega, ?_⟩
      refine StLe.tm (by simp only [AllSub, go_sem, reduceIte, Nat.reduceEqDiff, Nat.reduceAdd, bx]; and_intros <;> first | exact trivial | exact VSub.refl _ | exact VSub.any _ | (refine VSub.int ?_; omega))
    · have d1 : decide ((j : Int) < (l.length : Int)) = false := decide_eq_false (by omega)
      repeat (first
        | ((first | apply Wp.seqItems | apply Wp.items); (· simp only [go_sem, reduceIte, Nat.reduceEqDiff, Nat.reduceAdd, bx, ax, if_true, if_false, Nat.reduceMul, Nat.reduceLeDiff, d1, ints_len]; exact rfl))
        | (refine WpItems.nil ⟨?_, ?_⟩; (· first | trivial | simp [pairsQ, pairsOk, apart, ent0]))
        | (apply Wp.cond_lit; (· simp only [go_sem, reduceIte, Nat.reduceEqDiff, Nat.reduceAdd, bx, ax, if_true, if_false, Nat.reduceMul, Nat.reduceLeDiff, d1, ints_len]; exact rfl); (· rfl))
        | refine Wp.skip ?_
        | refine Wp.label ?_
        | refine Wp.block ?_
        | refine Wp.exit ?_
        | refine Wp.seq ?_)
      refine Wp.ret ⟨trivial, _, rfl, ?_⟩
      simp only [go_sem, reduceIte, Nat.reduceEqDiff, Nat.reduceAdd, bx]
      exact VSub.refl _
structure Iv (o : List AV) (f : Nat → Option Av.Obj) (n : Nat) : Prop where
  len : o.length = 8
  is : ∀ x ∈ o, IsP x
  t : f 0 = some (.cells (.bool true :: o))
  r : f 1 = some (.cells (nilV :: o))
  p : ∀ id, AV.ptr id 0 ∈ o → f id = some (.cells []) ∧ id < n
  n2 : 2 ≤ n
theorem tab_patch {f : Nat → Option Av.Obj} {o o' : List AV} {n m m' : Nat} : H.patch ⟨f, n, [], m⟩ (tabO 0 o n m) (tabO 0 o' n m') = ⟨upd f 0 (some (.cells (.bool true :: o'))), n, [], m'⟩ := by
  refine H.ext (fun j => ?_) rfl rfl rfl
  simp only [H.patch, tabO, H.only, upd, none']
  by_cases e : j = 0
  · simp [e]
  · simp only [e, if_false, Option.isSome_none, Bool.false_eq_true, false_or]
    rw [if_neg (by omega)]
theorem tab_frame {g : FuncId} {args : List AV} {r : AV} {f : Nat → Option Av.Obj} {o o' : List AV} {n m m' : Nat} (hf : f 0 = some (.cells (.bool true :: o))) (hm : m ≤ m') (hc : ACalls Tryz.prog g args (tabO 0 o n m) r (tabO 0 o' n m')) : ACalls Tryz.prog g args ⟨f, n, [], m⟩ r ⟨upd f 0 (some (.cells (.bool true :: o'))), n, [], m'⟩ := by
  have hsub : (tabO 0 o n m).sub ⟨f, n, [], m⟩ := by
    refine ⟨fun j x hj => ?_, fun t ht => by cases ht⟩
    simp only [tabO, H.only, upd, none'] at hj
    split at hj
    · rename_i e; subst e; cases hj; exact hf
    · cases hj
  have := ACalls.frame (h1' := tabO 0 o' n m') hsub rfl rfl (Nat.le_refl _) hm hc
  rwa [tab_patch] at this
theorem upd_self {α : Type} {f : Nat → α} {i : Nat} {x : α} (h : f i = x) : upd f i x = f := by
  funext j; simp only [upd]; split
  · rename_i e; rw [e, h]
  · rfl
theorem tab_same {g : FuncId} {args : List AV} {r : AV} {f : Nat → Option Av.Obj} {o : List AV} {n m : Nat} (hf : f 0 = some (.cells (.bool true :: o))) (hc : ACalls Tryz.prog g args (tabO 0 o n m) r (tabO 0 o n m)) : ACalls Tryz.prog g args ⟨f, n, [], m⟩ r ⟨f, n, [], m⟩ := by
  have := tab_frame hf (Nat.le_refl _) hc
  rwa [upd_self hf] at this
def tn (q : Int × Int) : AV := .agg [.int .i64 q.1, .int .i64 q.2]
def sw6 : AC := match c6 with
  | .seq _ (.seq _ (.seq _ (.seq _ (.seq (.seq _ (.block _ (.loop (.seq _ (.seq (.block _ (.seq _ (.seq _ (.seq x _)))) _))))) _)))) => x
  | x => x
def tail6 : AC := match c6 with
  | .seq _ (.seq _ (.seq _ (.seq _ (.seq (.seq _ (.block _ (.loop (.seq _ (.seq (.block _ (.seq _ (.seq _ (.seq _ x)))) _))))) _)))) => x
  | x => x
def st6 (l : List (Int × Int)) (j : Nat) : List (Nat × AV) := [(0, .sl 2 (l.map tn) .any), (3, .ptr 0 0), (4, .tsl 1 1 0 9 none), (5, .int .i64 j)]
theorem at_turn {l : List (Int × Int)} {j : Nat} (h : j < l.length) (d : AV) : (l.map tn).getD j d = .agg [.int .i64 (l.getD j (0, 0)).1, .int .i64 (l.getD j (0, 0)).2] := by
  simp [List.getD, List.getElem?_eq_getElem h, tn]
def SwQ (l : List (Int × Int)) (j : Nat) : AExit → St → Prop := AExit.andThen (fun s' => ∃ o' f' n' m', Iv o' f' n' ∧ StLe s' ⟨tm (st6 l j), ⟨f', n', [], m'⟩⟩) fun _ _ => False
def sw0 (l : List (Int × Int)) (j : Nat) (nn : Int) (b : Bool) (f : Nat → Option Av.Obj) (n m : Nat) : St := ⟨tm (st6 l j ++ [(6, .int .i64 nn), (7, .bool b)]), ⟨f, n, [], m⟩⟩
theorem row_at {o : List AV} {j : Nat} {x : AV} (hx : o[j]? = some x) : (AV.sc (Value.pointer none) :: o)[(j + 1) * 1]? = some x := by
  rw [Nat.mul_one]; simpa using hx
theorem row_set {o : List AV} {j : Nat} {x : AV} (hj : j < o.length) : List.take ((j + 1) * 1) (AV.sc (Value.pointer none) :: o) ++ [x] ++ List.drop ((j + 1) * 1) o = AV.sc (Value.pointer none) :: o.set j x := by
  rw [Nat.mul_one, List.set_eq_take_append_cons_drop, if_pos hj]
  simp
theorem Iv.set {o : List AV} {f : Nat → Option Av.Obj} {n n' j : Nat} {x : AV} {f' : Nat → Option Av.Obj} (iv : Iv o f n) (hn : n ≤ n') (hf : ∀ i, i < n → f' i = f i) (hx : IsP x) (hid : ∀ id, x = .ptr id 0 → f' id = some (.cells []) ∧ id < n' ∧ n ≤ id) :
    Iv (o.set j x) (upd (upd f' 0 (some (.cells (.bool true :: o.set j x)))) 1 (some (.cells (nilV :: o.set j x)))) n' := by
  have hmem : ∀ y ∈ o.set j x, y ∈ o ∨ y = x := fun y hy => by
    rcases List.mem_or_eq_of_mem_set hy with h | h
    · exact .inl h
    · exact .inr h
  have n2 := iv.n2
  refine ⟨by rw [List.length_set]; exact iv.len, fun y hy => ?_, by simp [upd], by simp [upd], fun id hid' => ?_, by omega⟩
  · rcases hmem y hy with h | rfl
    · exact iv.is y h
    · exact hx
  · have key : ∀ k : Nat, f' k = some (.cells []) → 2 ≤ k → (upd (upd f' 0 (some (.cells (.bool true :: o.set j x)))) 1 (some (.cells (nilV :: o.set j x)))) k = some (.cells []) := fun k hk h2 => by
      simp only [upd]; rw [if_neg (by omega), if_neg (by omega)]; exact hk
    rcases hmem _ hid' with h | h
    · obtain ⟨h1, h2⟩ := iv.p id h
      have h0 : id ≠ 0 := by rintro rfl; rw [iv.t] at h1; cases h1
      have h1' : id ≠ 1 := by rintro rfl; rw [iv.r] at h1; cases h1
      exact ⟨key id (by rw [hf id h2]; exact h1) (by omega), by omega⟩
    · obtain ⟨h1, h2, h3⟩ := hid id h.symm
      exact ⟨key id h1 (by omega), h2⟩
theorem sw_1out (l : List (Int × Int)) (j : Nat) (hj : j < l.length) (o : List AV) (f : Nat → Option Av.Obj) (n m : Nat) (iv : Iv o f n) (nn : Int) (hq : ∀ d, (l.map tn).getD j d = .agg [.int .i64 1, .int .i64 nn]) (hk : ¬ (1 ≤ nn ∧ nn ≤ 8)) : Wp Tryz.prog 199 sw6 (sw0 l j nn false f n m) (SwQ l j) := by
  unfold sw6 c6 SwQ sw0 st6
  have i1 : (0 : Int) ≤ (j : Int) := Int.natCast_nonneg _
  have i2 : (j : Int) < ((l.map tn).length : Int) := by simp; omega
  have hc := tab_same iv.t (close_out 0 o nn n m hk)
  repeat (first
    | refine WpItemsF.nil ?_
    | ((first | apply Wp.seqItemsF | apply Wp.itemsF | ((first
        | (refine WpItemsF.acall ?_ ?_ (by constructor <;> first | exact Nat.le_refl _ | assumption) (hc) ?_; (· simp only [go_sem, reduceIte, Nat.reduceEqDiff, Nat.reduceAdd, bx]); (· simp only [go_sem, reduceIte, Nat.reduceEqDiff, Nat.reduceAdd, bx, List.map, ax, if_true, if_false, Nat.reduceMul, Nat.reduceLeDiff, i1, i2, Int.toNat_natCast, and_self, hq, List.all_cons, List.all_nil, nilV]; first | exact VSubs.refl _ | (repeat (first | exact VSubs.nil | refine VSubs.cons (by first | exact VSub.refl _ | assumption | exact VSub.cap | exact VSub.any _) ?_))))); apply WpItemsF.evF)); (· simp only [go_sem, reduceIte, Nat.reduceEqDiff, Nat.reduceAdd, bx, ax, if_true, if_false, Nat.reduceMul, Nat.reduceLeDiff, i1, i2, Int.toNat_natCast, and_self, hq, List.all_cons, List.all_nil, nilV]; exact rfl))
    | (apply Wp.cond_lit; (· simp only [go_sem, reduceIte, Nat.reduceEqDiff, Nat.reduceAdd, bx, ax, if_true, if_false, Nat.reduceMul, Nat.reduceLeDiff, i1, i2, Int.toNat_natCast, and_self, hq, List.all_cons, List.all_nil, nilV]; exact rfl); (· rfl))
    | refine Wp.skip ?_
    | refine Wp.label ?_
    | refine Wp.block ?_
    | refine Wp.exit ?_
    | refine Wp.seq ?_)
  refine ⟨o, f, n, m, iv, ?_⟩
  refine StLe.tm (by simp only [AllSub, go_sem, reduceIte, Nat.reduceEqDiff, Nat.reduceAdd, bx]; and_intros <;> first | exact trivial | exact VSub.refl _ | exact VSub.any _ | (refine VSub.int ?_; omega))
theorem sw_1nil (l : List (Int × Int)) (j : Nat) (hj : j < l.length) (o : List AV) (f : Nat → Option Av.Obj) (n m : Nat) (iv : Iv o f n) (jn : Nat) (hq : ∀ d, (l.map tn).getD j d = .agg [.int .i64 1, .int .i64 ((jn : Int) + 1)]) (hk : jn < 8) (hx : o[jn]? = some nilV) : Wp Tryz.prog 199 sw6 (sw0 l j ((jn : Int) + 1) false f n m) (SwQ l j) := by
  unfold sw6 c6 SwQ sw0 st6
  have i1 : (0 : Int) ≤ (j : Int) := Int.natCast_nonneg _
  have i2 : (j : Int) < ((l.map tn).length : Int) := by simp; omega
  have hc := tab_same iv.t (close_nil 0 o jn hk hx n m)
  repeat (first
    | refine WpItemsF.nil ?_
    | ((first | apply Wp.seqItemsF | apply Wp.itemsF | ((first
        | (refine WpItemsF.acall ?_ ?_ (by constructor <;> first | exact Nat.le_refl _ | assumption) (hc) ?_; (· simp only [go_sem, reduceIte, Nat.reduceEqDiff, Nat.reduceAdd, bx]); (· simp only [go_sem, reduceIte, Nat.reduceEqDiff, Nat.reduceAdd, bx, List.map, ax, if_true, if_false, Nat.reduceMul, Nat.reduceLeDiff, i1, i2, Int.toNat_natCast, and_self, hq, List.all_cons, List.all_nil, nilV]; first | exact VSubs.refl _ | (repeat (first | exact VSubs.nil | refine VSubs.cons (by first | exact VSub.refl _ | assumption | exact VSub.cap | exact VSub.any _) ?_))))); apply WpItemsF.evF)); (· simp only [go_sem, reduceIte, Nat.reduceEqDiff, Nat.reduceAdd, bx, ax, if_true, if_false, Nat.reduceMul, Nat.reduceLeDiff, i1, i2, Int.toNat_natCast, and_self, hq, List.all_cons, List.all_nil, nilV]; exact rfl))
    | (apply Wp.cond_lit; (· simp only [go_sem, reduceIte, Nat.reduceEqDiff, Nat.reduceAdd, bx, ax, if_true, if_false, Nat.reduceMul, Nat.reduceLeDiff, i1, i2, Int.toNat_natCast, and_self, hq, List.all_cons, List.all_nil, nilV]; exact rfl); (· rfl))
    | refine Wp.skip ?_
    | refine Wp.label ?_
    | refine Wp.block ?_
    | refine Wp.exit ?_
    | refine Wp.seq ?_)
  refine ⟨o, f, n, m, iv, ?_⟩
  refine StLe.tm (by simp only [AllSub, go_sem, reduceIte, Nat.reduceEqDiff, Nat.reduceAdd, bx]; and_intros <;> first | exact trivial | exact VSub.refl _ | exact VSub.any _ | (refine VSub.int ?_; omega))
theorem sw_2out (l : List (Int × Int)) (j : Nat) (hj : j < l.length) (o : List AV) (f : Nat → Option Av.Obj) (n m : Nat) (iv : Iv o f n) (nn : Int) (hq : ∀ d, (l.map tn).getD j d = .agg [.int .i64 2, .int .i64 nn]) (hk : ¬ (1 ≤ nn ∧ nn ≤ 8)) : Wp Tryz.prog 199 sw6 (sw0 l j nn false f n m) (SwQ l j) := by
  unfold sw6 c6 SwQ sw0 st6
  have i1 : (0 : Int) ≤ (j : Int) := Int.natCast_nonneg _
  have i2 : (j : Int) < ((l.map tn).length : Int) := by simp; omega
  have hc := tab_same iv.t (find_out 0 o nn n m hk)
  repeat (first
    | refine WpItemsF.nil ?_
    | ((first | apply Wp.seqItemsF | apply Wp.itemsF | ((first
        | (refine WpItemsF.acall ?_ ?_ (by constructor <;> first | exact Nat.le_refl _ | assumption) (hc) ?_; (· simp only [go_sem, reduceIte, Nat.reduceEqDiff, Nat.reduceAdd, bx]); (· simp only [go_sem, reduceIte, Nat.reduceEqDiff, Nat.reduceAdd, bx, List.map, ax, if_true, if_false, Nat.reduceMul, Nat.reduceLeDiff, i1, i2, Int.toNat_natCast, and_self, hq, List.all_cons, List.all_nil, nilV]; first | exact VSubs.refl _ | (repeat (first | exact VSubs.nil | refine VSubs.cons (by first | exact VSub.refl _ | assumption | exact VSub.cap | exact VSub.any _) ?_))))); apply WpItemsF.evF)); (· simp only [go_sem, reduceIte, Nat.reduceEqDiff, Nat.reduceAdd, bx, ax, if_true, if_false, Nat.reduceMul, Nat.reduceLeDiff, i1, i2, Int.toNat_natCast, and_self, hq, List.all_cons, List.all_nil, nilV]; exact rfl))
    | (apply Wp.cond_lit; (· simp only [go_sem, reduceIte, Nat.reduceEqDiff, Nat.reduceAdd, bx, ax, if_true, if_false, Nat.reduceMul, Nat.reduceLeDiff, i1, i2, Int.toNat_natCast, and_self, hq, List.all_cons, List.all_nil, nilV]; exact rfl); (· rfl))
    | refine Wp.skip ?_
    | refine Wp.label ?_
    | refine Wp.block ?_
    | refine Wp.exit ?_
    | refine Wp.seq ?_)
  refine ⟨o, f, n, m, iv, ?_⟩
  refine StLe.tm (by simp only [AllSub, go_sem, reduceIte, Nat.reduceEqDiff, Nat.reduceAdd, bx]; and_intros <;> first | exact trivial | exact VSub.refl _ | exact VSub.any _ | (refine VSub.int ?_; omega))
theorem sw_2nil (l : List (Int × Int)) (j : Nat) (hj : j < l.length) (o : List AV) (f : Nat → Option Av.Obj) (n m : Nat) (iv : Iv o f n) (jn : Nat) (hq : ∀ d, (l.map tn).getD j d = .agg [.int .i64 2, .int .i64 ((jn : Int) + 1)]) (hk : jn < 8) (hx : o[jn]? = some nilV) : Wp Tryz.prog 199 sw6 (sw0 l j ((jn : Int) + 1) false f n m) (SwQ l j) := by
  unfold sw6 c6 SwQ sw0 st6
  have i1 : (0 : Int) ≤ (j : Int) := Int.natCast_nonneg _
  have i2 : (j : Int) < ((l.map tn).length : Int) := by simp; omega
  have hc := tab_same iv.t (find_nil 0 o jn hk hx n m)
  repeat (first
    | refine WpItemsF.nil ?_
    | ((first | apply Wp.seqItemsF | apply Wp.itemsF | ((first
        | (refine WpItemsF.acall ?_ ?_ (by constructor <;> first | exact Nat.le_refl _ | assumption) (hc) ?_; (· simp only [go_sem, reduceIte, Nat.reduceEqDiff, Nat.reduceAdd, bx]); (· simp only [go_sem, reduceIte, Nat.reduceEqDiff, Nat.reduceAdd, bx, List.map, ax, if_true, if_false, Nat.reduceMul, Nat.reduceLeDiff, i1, i2, Int.toNat_natCast, and_self, hq, List.all_cons, List.all_nil, nilV]; first | exact VSubs.refl _ | (repeat (first | exact VSubs.nil | refine VSubs.cons (by first | exact VSub.refl _ | assumption | exact VSub.cap | exact VSub.any _) ?_))))); apply WpItemsF.evF)); (· simp only [go_sem, reduceIte, Nat.reduceEqDiff, Nat.reduceAdd, bx, ax, if_true, if_false, Nat.reduceMul, Nat.reduceLeDiff, i1, i2, Int.toNat_natCast, and_self, hq, List.all_cons, List.all_nil, nilV]; exact rfl))
    | (apply Wp.cond_lit; (· simp only [go_sem, reduceIte, Nat.reduceEqDiff, Nat.reduceAdd, bx, ax, if_true, if_false, Nat.reduceMul, Nat.reduceLeDiff, i1, i2, Int.toNat_natCast, and_self, hq, List.all_cons, List.all_nil, nilV]; exact rfl); (· rfl))
    | refine Wp.skip ?_
    | refine Wp.label ?_
    | refine Wp.block ?_
    | refine Wp.exit ?_
    | refine Wp.seq ?_)
  refine ⟨o, f, n, m, iv, ?_⟩
  refine StLe.tm (by simp only [AllSub, go_sem, reduceIte, Nat.reduceEqDiff, Nat.reduceAdd, bx]; and_intros <;> first | exact trivial | exact VSub.refl _ | exact VSub.any _ | (refine VSub.int ?_; omega))
theorem sw_3 (l : List (Int × Int)) (j : Nat) (hj : j < l.length) (o : List AV) (f : Nat → Option Av.Obj) (n m : Nat) (iv : Iv o f n) (nn : Int) (b : Bool) (hq : ∀ d, (l.map tn).getD j d = .agg [.int .i64 3, .int .i64 nn]) : Wp Tryz.prog 199 sw6 (sw0 l j nn b f n m) (SwQ l j) := by
  unfold sw6 c6 SwQ sw0 st6
  have i1 : (0 : Int) ≤ (j : Int) := Int.natCast_nonneg _
  have i2 : (j : Int) < ((l.map tn).length : Int) := by simp; omega
  have hc := tab_same iv.t (open_none 0 o n m)
  repeat (first
    | refine WpItemsF.nil ?_
    | ((first | apply Wp.seqItemsF | apply Wp.itemsF | ((first
        | (refine WpItemsF.acall ?_ ?_ (by constructor <;> first | exact Nat.le_refl _ | assumption) (hc) ?_; (· simp only [go_sem, reduceIte, Nat.reduceEqDiff, Nat.reduceAdd, bx]); (· simp only [go_sem, reduceIte, Nat.reduceEqDiff, Nat.reduceAdd, bx, List.map, ax, if_true, if_false, Nat.reduceMul, Nat.reduceLeDiff, i1, i2, Int.toNat_natCast, and_self, hq, List.all_cons, List.all_nil, nilV]; first | exact VSubs.refl _ | (repeat (first | exact VSubs.nil | refine VSubs.cons (by first | exact VSub.refl _ | assumption | exact VSub.cap | exact VSub.any _) ?_))))); apply WpItemsF.evF)); (· simp only [go_sem, reduceIte, Nat.reduceEqDiff, Nat.reduceAdd, bx, ax, if_true, if_false, Nat.reduceMul, Nat.reduceLeDiff, i1, i2, Int.toNat_natCast, and_self, hq, List.all_cons, List.all_nil, nilV]; exact rfl))
    | (apply Wp.cond_lit; (· simp only [go_sem, reduceIte, Nat.reduceEqDiff, Nat.reduceAdd, bx, ax, if_true, if_false, Nat.reduceMul, Nat.reduceLeDiff, i1, i2, Int.toNat_natCast, and_self, hq, List.all_cons, List.all_nil, nilV]; exact rfl); (· rfl))
    | refine Wp.skip ?_
    | refine Wp.label ?_
    | refine Wp.block ?_
    | refine Wp.exit ?_
    | refine Wp.seq ?_)
  refine ⟨o, f, n, m, iv, ?_⟩
  refine StLe.tm (by simp only [AllSub, go_sem, reduceIte, Nat.reduceEqDiff, Nat.reduceAdd, bx]; and_intros <;> first | exact trivial | exact VSub.refl _ | exact VSub.any _ | (refine VSub.int ?_; omega))
theorem sw_2ptr (l : List (Int × Int)) (j : Nat) (hj : j < l.length) (o : List AV) (f : Nat → Option Av.Obj) (n m : Nat) (iv : Iv o f n) (jn id : Nat) (hq : ∀ d, (l.map tn).getD j d = .agg [.int .i64 2, .int .i64 ((jn : Int) + 1)]) (hk : jn < 8) (hx : o[jn]? = some (.ptr id 0)) : Wp Tryz.prog 199 sw6 (sw0 l j ((jn : Int) + 1) true f n m) (SwQ l j) := by
  unfold sw6 c6 SwQ sw0 st6
  have i1 : (0 : Int) ≤ (j : Int) := Int.natCast_nonneg _
  have i2 : (j : Int) < ((l.map tn).length : Int) := by simp; omega
  have ei : (jn : Int) + 1 = ((jn + 1 : Nat) : Int) := by omega
  have i3 : (0 : Int) ≤ ((jn + 1 : Nat) : Int) := Int.natCast_nonneg _
  have i4 : ((jn + 1 : Nat) : Int) < ((9 : Nat) : Int) := by omega
  have hp := (iv.p id (List.mem_of_getElem? hx)).1
  have hlen := iv.len
  have hr := iv.r
  unfold nilV at hr
  have hrow := row_at hx
  have dd : decide (id = id) = true := by simp
  have hc := tab_same iv.t (find_ptr 0 o jn id hk hx n m)
  rw [ei] at hc hq ⊢
  repeat (first
    | refine WpItemsF.nil ?_
    | ((first | apply Wp.seqItemsF | apply Wp.itemsF | ((first
        | (refine WpItemsF.acall ?_ ?_ (by constructor <;> first | exact Nat.le_refl _ | assumption) (hc) ?_; (· simp only [go_sem, reduceIte, Nat.reduceEqDiff, Nat.reduceAdd, bx]); (· simp only [go_sem, reduceIte, Nat.reduceEqDiff, Nat.reduceAdd, bx, List.map, ax, if_true, if_false, Nat.reduceMul, Nat.reduceLeDiff, i1, i2, Int.toNat_natCast, and_self, hq, List.all_cons, List.all_nil, nilV, i3, i4, hp, hr, hrow, dd, Nat.zero_add]; first | exact VSubs.refl _ | (repeat (first | exact VSubs.nil | refine VSubs.cons (by first | exact VSub.refl _ | assumption | exact VSub.cap | exact VSub.any _) ?_))))); apply WpItemsF.evF)); (· simp only [go_sem, reduceIte, Nat.reduceEqDiff, Nat.reduceAdd, bx, ax, if_true, if_false, Nat.reduceMul, Nat.reduceLeDiff, i1, i2, Int.toNat_natCast, and_self, hq, List.all_cons, List.all_nil, nilV, i3, i4, hp, hr, hrow, dd, Nat.zero_add]; exact rfl))
    | (apply Wp.cond_lit; (· simp only [go_sem, reduceIte, Nat.reduceEqDiff, Nat.reduceAdd, bx, ax, if_true, if_false, Nat.reduceMul, Nat.reduceLeDiff, i1, i2, Int.toNat_natCast, and_self, hq, List.all_cons, List.all_nil, nilV, i3, i4, hp, hr, hrow, dd, Nat.zero_add]; exact rfl); (· rfl))
    | refine Wp.skip ?_
    | refine Wp.label ?_
    | refine Wp.block ?_
    | refine Wp.exit ?_
    | refine Wp.seq ?_)
  refine ⟨o, f, n, m, iv, ?_⟩
  refine StLe.tm (by simp only [AllSub, go_sem, reduceIte, Nat.reduceEqDiff, Nat.reduceAdd, bx]; and_intros <;> first | exact trivial | exact VSub.refl _ | exact VSub.any _ | (refine VSub.int ?_; omega))
theorem sw_1ptr (l : List (Int × Int)) (j : Nat) (hj : j < l.length) (o : List AV) (f : Nat → Option Av.Obj) (n m : Nat) (iv : Iv o f n) (jn id : Nat) (hq : ∀ d, (l.map tn).getD j d = .agg [.int .i64 1, .int .i64 ((jn : Int) + 1)]) (hk : jn < 8) (hx : o[jn]? = some (.ptr id 0)) : Wp Tryz.prog 199 sw6 (sw0 l j ((jn : Int) + 1) true f n m) (SwQ l j) := by
  unfold sw6 c6 SwQ sw0 st6
  have i1 : (0 : Int) ≤ (j : Int) := Int.natCast_nonneg _
  have i2 : (j : Int) < ((l.map tn).length : Int) := by simp; omega
  have ei : (jn : Int) + 1 = ((jn + 1 : Nat) : Int) := by omega
  have i3 : (0 : Int) ≤ ((jn + 1 : Nat) : Int) := Int.natCast_nonneg _
  have i4 : ((jn + 1 : Nat) : Int) < ((9 : Nat) : Int) := by omega
  have hp := (iv.p id (List.mem_of_getElem? hx)).1
  have hlen := iv.len
  have hr := iv.r
  unfold nilV at hr
  have hrow := row_at hx
  have dd : decide (id = id) = true := by simp
  have hc := tab_frame iv.t (Nat.le_refl _) (close_ptr 0 o jn id hk iv.len iv.is hx n m)
  have hle : (jn + 1) * 1 ≤ o.length := by omega
  have hset := row_set (x := .sc (.pointer none)) (show jn < o.length by omega)
  rw [ei] at hc hq ⊢
  repeat (first
    | refine WpItemsF.nil ?_
    | ((first | apply Wp.seqItemsF | apply Wp.itemsF | ((first
        | (refine WpItemsF.acall ?_ ?_ (by constructor <;> first | exact Nat.le_refl _ | assumption) (hc) ?_; (· simp only [go_sem, reduceIte, Nat.reduceEqDiff, Nat.reduceAdd, bx]); (· simp only [go_sem, reduceIte, Nat.reduceEqDiff, Nat.reduceAdd, bx, List.map, ax, if_true, if_false, Nat.reduceMul, Nat.reduceLeDiff, i1, i2, Int.toNat_natCast, and_self, hq, List.all_cons, List.all_nil, nilV, i3, i4, hp, hr, hrow, dd, Nat.zero_add, hle, hset, List.length_cons, List.length_nil]; first | exact VSubs.refl _ | (repeat (first | exact VSubs.nil | refine VSubs.cons (by first | exact VSub.refl _ | assumption | exact VSub.cap | exact VSub.any _) ?_))))); apply WpItemsF.evF)); (· simp only [go_sem, reduceIte, Nat.reduceEqDiff, Nat.reduceAdd, bx, ax, if_true, if_false, Nat.reduceMul, Nat.reduceLeDiff, i1, i2, Int.toNat_natCast, and_self, hq, List.all_cons, List.all_nil, nilV, i3, i4, hp, hr, hrow, dd, Nat.zero_add, hle, hset, List.length_cons, List.length_nil]; exact rfl))
    | (apply Wp.cond_lit; (· simp only [go_sem, reduceIte, Nat.reduceEqDiff, Nat.reduceAdd, bx, ax, if_true, if_false, Nat.reduceMul, Nat.reduceLeDiff, i1, i2, Int.toNat_natCast, and_self, hq, List.all_cons, List.all_nil, nilV, i3, i4, hp, hr, hrow, dd, Nat.zero_add, hle, hset, List.length_cons, List.length_nil]; exact rfl); (· rfl))
    | refine Wp.skip ?_
    | refine Wp.label ?_
    | refine Wp.block ?_
    | refine Wp.exit ?_
    | refine Wp.seq ?_)
  refine ⟨o.set jn nilV, _, n, m, iv.set (x := nilV) (Nat.le_refl _) (fun _ _ => rfl) (.inl rfl) (fun id h => by cases h), ?_⟩
  refine StLe.tm (by simp only [AllSub, go_sem, reduceIte, Nat.reduceEqDiff, Nat.reduceAdd, bx]; and_intros <;> first | exact trivial | exact VSub.refl _ | exact VSub.any _ | (refine VSub.int ?_; omega))
noncomputable def begB : Bool := match callZ tabE prims (runZ tabE prims 100000 []) true 42 [] (HZ0 0 0) with
  | some (.tup [.ptr a 0, .ptr _ 0], h', _) => Nat.beq a 3 && Nat.blt 3 h'.n && (match h'.at 3 with
    | some (.cells _) => true
    | _ => false)
  | _ => false
theorem begB_ok : begB = true := by kernel_rfl
theorem begun_0 : ∃ b h' cs, ACalls Tryz.prog 42 [] (H0 0 0) (.tup [.ptr 3 0, .ptr b 0]) h' ∧ h'.objs 3 = some (.cells cs) ∧ 3 < h'.n := by
  have h := begB_ok
  unfold begB at h
  split at h
  · rename_i a b h' en hc
    simp only [Bool.and_eq_true] at h
    obtain ⟨⟨h1, h2⟩, h3⟩ := h
    have h1 := Nat.eq_of_beq_eq_true h1
    subst h1
    have ac := acalls_runZ tabE_ok tabE_named prims_ok hc
    rw [HZ0_hp, H0_sg] at ac
    cases h4 : h'.at 3 with
    | none => rw [h4] at h3; cases h3
    | some ob =>
      cases ob with
      | cells cs => exact ⟨b, _, cs, ac, by simp [H.sg, Av.HZ.hp, h4, sgO], Nat.le_of_ble_eq_true h2⟩
      | _ => rw [h4] at h3; cases h3
  · cases h
theorem begun_f (f : Nat → Option Av.Obj) (n m : Nat) : ∃ f' n' m', ACalls Tryz.prog 42 [] ⟨f, n, [], m⟩ (.tup [.ptr (n + 3) 0, .any]) ⟨f', n', [], m'⟩ ∧ n ≤ n' ∧ m ≤ m' ∧ n + 3 < n' ∧ f' (n + 3) = some (.cells []) ∧ ∀ j, j < n → f' j = f j := by
  obtain ⟨b, h', cs, hc, ha, h3⟩ := begun_0
  have hs := hc.shiftP ha n m
  have hf := ACalls.frame (h := ⟨f, n, [], m⟩) (h1 := H0 n m) (h1' := .only (upd none' (n + 3) (some (.cells []))) [] (n + h'.n) (m + h'.m)) ⟨fun j o x => by simp [H0, H.only, none'] at x, fun t x => by simp [H0, H.only] at x⟩ rfl rfl (Nat.le_add_right _ _) (Nat.le_add_right _ _) hs
  refine ⟨_, _, _, hf, Nat.le_add_right _ _, Nat.le_add_right _ _, by show n + 3 < n + h'.n; omega, ?_, fun j hj => ?_⟩
  · simp only [H.patch, H0, H.only, upd, none']
    rw [if_pos (by right; omega), if_pos trivial]
  · refine if_neg fun h => ?_
    rcases h with h | ⟨h, -⟩
    · cases h
    · exact absurd hj (Nat.not_lt.2 h)
theorem sw_4 (l : List (Int × Int)) (j : Nat) (hj : j < l.length) (o : List AV) (f : Nat → Option Av.Obj) (n m : Nat) (iv : Iv o f n) (k nn : Int) (b : Bool) (j0 : Nat) (hq : ∀ d, (l.map tn).getD j d = .agg [.int .i64 k, .int .i64 nn]) (h1 : ¬ k = 1) (h2 : ¬ k = 2) (h3 : ¬ k = 3) (hj0 : j0 ≤ 8) (hb : ∀ i, i < j0 → ∃ id, o[i]? = some (.ptr id 0)) (hz : j0 < 8 → o[j0]? = some nilV) : Wp Tryz.prog 199 sw6 (sw0 l j nn b f n m) (SwQ l j) := by
  unfold sw6 c6 SwQ sw0 st6
  have i1 : (0 : Int) ≤ (j : Int) := Int.natCast_nonneg _
  have i2 : (j : Int) < ((l.map tn).length : Int) := by simp; omega
  have d1 : decide (k = 1) = false := decide_eq_false h1
  have d2 : decide (k = 2) = false := decide_eq_false h2
  have d3 : decide (k = 3) = false := decide_eq_false h3
  obtain ⟨f1, n1, m1, hc, hn, hm, hlt, hnew, hold⟩ := begun_f f n m
  have n2 := iv.n2
  have hr : f1 1 = some (.cells (.sc (.pointer none) :: o)) := (hold 1 (by omega)).trans iv.r
  have ht : f1 0 = some (.cells (.bool true :: o)) := (hold 0 (by omega)).trans iv.t
  have hlen := iv.len
  repeat (first
    | refine WpItemsF.nil ?_
    | ((first | apply Wp.seqItemsF | apply Wp.itemsF | ((first
        | (refine WpItemsF.acall ?_ ?_ (by constructor <;> first | exact Nat.le_refl _ | assumption) (hc) ?_; (· simp only [go_sem, reduceIte, Nat.reduceEqDiff, Nat.reduceAdd, bx]); (· simp only [go_sem, reduceIte, Nat.reduceEqDiff, Nat.reduceAdd, bx, List.map, ax, if_true, if_false, Nat.reduceMul, Nat.reduceLeDiff, i1, i2, Int.toNat_natCast, and_self, hq, List.all_cons, List.all_nil, nilV, d1, d2, d3]; first | exact VSubs.refl _ | (repeat (first | exact VSubs.nil | refine VSubs.cons (by first | exact VSub.refl _ | assumption | exact VSub.cap | exact VSub.any _) ?_))))); apply WpItemsF.evF)); (· simp only [go_sem, reduceIte, Nat.reduceEqDiff, Nat.reduceAdd, bx, ax, if_true, if_false, Nat.reduceMul, Nat.reduceLeDiff, i1, i2, Int.toNat_natCast, and_self, hq, List.all_cons, List.all_nil, nilV, d1, d2, d3]; exact rfl))
    | (apply Wp.cond_lit; (· simp only [go_sem, reduceIte, Nat.reduceEqDiff, Nat.reduceAdd, bx, ax, if_true, if_false, Nat.reduceMul, Nat.reduceLeDiff, i1, i2, Int.toNat_natCast, and_self, hq, List.all_cons, List.all_nil, nilV, d1, d2, d3]; exact rfl); (· rfl))
    | refine Wp.skip ?_
    | refine Wp.label ?_
    | refine Wp.block ?_
    | refine Wp.exit ?_
    | refine Wp.seq ?_)
  refine Wp.loopK [0, 3, 4, 5, 12] (by simp only [go_sem, reduceIte, Nat.reduceEqDiff, Nat.reduceAdd, bx, List.map]; exact rfl) (fun w : Nat => [(14, .int .i64 ((w + 1 : Nat) : Int))]) (fun w => w ≤ j0) (fun w => 9 - w) 0 (Nat.zero_le _) ?_ ?_
  · simp only [AllSub, go_sem, reduceIte, Nat.reduceEqDiff, Nat.reduceAdd, bx]; and_intros <;> first | exact trivial | exact VSub.refl _ | exact VSub.any _ | (refine VSub.int ?_; omega)
  intro w hw
  have w3 : (0 : Int) ≤ ((w + 1 : Nat) : Int) := Int.natCast_nonneg _
  have w4 : ((w + 1 : Nat) : Int) < ((9 : Nat) : Int) ∨ w = 8 := by omega
  have ww : IntKind.i64.wrap (((w + 1 : Nat) : Int) + 1) = ((w + 1 + 1 : Nat) : Int) := by rw [IntWalk.i64_in _ (by omega)]; omega
  by_cases hwj : w < j0
  · obtain ⟨id, hx⟩ := hb w hwj
    have w5 := w4.resolve_right (by omega)
    have dl : decide (((w + 1 : Nat) : Int) ≤ 8) = true := decide_eq_true (by omega)
    have hrow := row_at hx
    repeat (first
      | refine WpItemsF.nil ?_
      | ((first | apply Wp.seqItemsF | apply Wp.itemsF); (· simp only [go_sem, reduceIte, Nat.reduceEqDiff, Nat.reduceAdd, bx, ax, if_true, if_false, Nat.reduceMul, Nat.reduceLeDiff, w3, w5, dl, ww, hr, hrow, Int.toNat_natCast, and_self, Nat.zero_add]; exact rfl))
      | (apply Wp.cond_lit; (· simp only [go_sem, reduceIte, Nat.reduceEqDiff, Nat.reduceAdd, bx, ax, if_true, if_false, Nat.reduceMul, Nat.reduceLeDiff, w3, w5, dl, ww, hr, hrow, Int.toNat_natCast, and_self, Nat.zero_add]; exact rfl); (· rfl))
      | refine Wp.skip ?_
      | refine Wp.label ?_
      | refine Wp.block ?_
      | refine Wp.exit ?_
      | refine Wp.seq ?_)
    refine ⟨w + 1, by omega, by omega, ?_⟩
    refine StLe.tm (by simp only [AllSub, go_sem, reduceIte, Nat.reduceEqDiff, Nat.reduceAdd, bx]; and_intros <;> first | exact trivial | exact VSub.refl _ | exact VSub.any _ | (refine VSub.int ?_; omega))
  · obtain rfl : w = j0 := by omega
    by_cases h8 : w < 8
    · have hx := hz h8
      have w5 := w4.resolve_right (by omega)
      have dl : decide (((w + 1 : Nat) : Int) ≤ 8) = true := decide_eq_true (by omega)
      have dg : decide (8 < ((w + 1 : Nat) : Int)) = false := decide_eq_false (by omega)
      have de : decide (((w + 1 : Nat) : Int) = ((w + 1 : Nat) : Int)) = true := by simp
      have hrow := row_at hx
      unfold nilV at hrow
      have ei : (w : Int) + 1 = ((w + 1 : Nat) : Int) := by omega
      have ho := tab_frame ht (Nat.le_refl _) (open_at 0 o (n + 3) w iv.len h8 hx hb n1 m1)
      rw [ei] at ho
      have hle : (w + 1) * 1 ≤ o.length := by omega
      have hset := row_set (x := .ptr (n + 3) 0) (show w < o.length by omega)
      repeat (first
        | refine WpItemsF.nil ?_
        | ((first | apply Wp.seqItemsF | apply Wp.itemsF | ((first
            | (refine WpItemsF.acall ?_ ?_ (by constructor <;> first | exact Nat.le_refl _ | assumption) (ho) ?_; (· simp only [go_sem, reduceIte, Nat.reduceEqDiff, Nat.reduceAdd, bx]); (· simp only [go_sem, reduceIte, Nat.reduceEqDiff, Nat.reduceAdd, bx, List.map, ax, if_true, if_false, Nat.reduceMul, Nat.reduceLeDiff, w3, w5, dl, dg, de, ww, hr, hrow, hle, hset, List.length_cons, List.length_nil, List.all_cons, List.all_nil, Int.toNat_natCast, and_self, Nat.zero_add]; first | exact VSubs.refl _ | (repeat (first | exact VSubs.nil | refine VSubs.cons (by first | exact VSub.refl _ | assumption | exact VSub.cap | exact VSub.any _) ?_))))); apply WpItemsF.evF)); (· simp only [go_sem, reduceIte, Nat.reduceEqDiff, Nat.reduceAdd, bx, ax, if_true, if_false, Nat.reduceMul, Nat.reduceLeDiff, w3, w5, dl, dg, de, ww, hr, hrow, hle, hset, List.length_cons, List.length_nil, List.all_cons, List.all_nil, Int.toNat_natCast, and_self, Nat.zero_add]; exact rfl))
        | (apply Wp.cond_lit; (· simp only [go_sem, reduceIte, Nat.reduceEqDiff, Nat.reduceAdd, bx, ax, if_true, if_false, Nat.reduceMul, Nat.reduceLeDiff, w3, w5, dl, dg, de, ww, hr, hrow, hle, hset, List.length_cons, List.length_nil, List.all_cons, List.all_nil, Int.toNat_natCast, and_self, Nat.zero_add]; exact rfl); (· rfl))
        | refine Wp.skip ?_
        | refine Wp.label ?_
        | refine Wp.block ?_
        | refine Wp.exit ?_
        | refine Wp.seq ?_)
      refine ⟨o.set w (.ptr (n + 3) 0), _, n1, m1, iv.set (x := .ptr (n + 3) 0) hn hold (.inr ⟨_, rfl⟩) (fun id h => by cases h; exact ⟨hnew, hlt, by omega⟩), ?_⟩
      refine StLe.tm (by simp only [AllSub, go_sem, reduceIte, Nat.reduceEqDiff, Nat.reduceAdd, bx]; and_intros <;> first | exact trivial | exact VSub.refl _ | exact VSub.any _ | (refine VSub.int ?_; omega))
    · obtain rfl : w = 8 := by omega
      have ho := tab_same ht (open_full 0 o (n + 3) iv.len hb n1 m1)
      repeat (first
        | refine WpItemsF.nil ?_
        | ((first | apply Wp.seqItemsF | apply Wp.itemsF | ((first
            | (refine WpItemsF.acall ?_ ?_ (by constructor <;> first | exact Nat.le_refl _ | assumption) (ho) ?_; (· simp only [go_sem, reduceIte, Nat.reduceEqDiff, Nat.reduceAdd, bx]); (· simp only [go_sem, reduceIte, Nat.reduceEqDiff, Nat.reduceAdd, bx, List.map, ax, if_true, if_false, Nat.reduceMul, Nat.reduceLeDiff, hr, Int.toNat_natCast, and_self]; first | exact VSubs.refl _ | (repeat (first | exact VSubs.nil | refine VSubs.cons (by first | exact VSub.refl _ | assumption | exact VSub.cap | exact VSub.any _) ?_))))); apply WpItemsF.evF)); (· simp only [go_sem, reduceIte, Nat.reduceEqDiff, Nat.reduceAdd, bx, ax, if_true, if_false, Nat.reduceMul, Nat.reduceLeDiff, hr, Int.toNat_natCast, and_self]; exact rfl))
        | (apply Wp.cond_lit; (· simp only [go_sem, reduceIte, Nat.reduceEqDiff, Nat.reduceAdd, bx, ax, if_true, if_false, Nat.reduceMul, Nat.reduceLeDiff, hr, Int.toNat_natCast, and_self]; exact rfl); (· rfl))
        | refine Wp.skip ?_
        | refine Wp.label ?_
        | refine Wp.block ?_
        | refine Wp.exit ?_
        | refine Wp.seq ?_)
      refine ⟨o, f1, n1, m1, ⟨iv.len, iv.is, ht, hr, fun id h => ?_, by omega⟩, ?_⟩
      · obtain ⟨p1, p2⟩ := iv.p id h
        exact ⟨(hold id p2).trans p1, by omega⟩
      refine StLe.tm (by simp only [AllSub, go_sem, reduceIte, Nat.reduceEqDiff, Nat.reduceAdd, bx]; and_intros <;> first | exact trivial | exact VSub.refl _ | exact VSub.any _ | (refine VSub.int ?_; omega))
end Go.Proofs.YtkcgpcbpieofnaaGreatDoor.Desk
end
section
set_option linter.unusedSimpArgs false
set_option linter.unusedVariables false
set_option maxRecDepth 100000
namespace Go.Proofs.YtkcgpcbpieofnaaGreatDoor.Desk
open Go Go.Av Go.Proofs Go.Proofs.YtkcgpcbpieofnaaGreatDoor.C
theorem free_at {o : List AV} (hl : o.length = 8) (his : ∀ x ∈ o, IsP x) : ∃ j0, j0 ≤ 8 ∧ (∀ i, i < j0 → ∃ id, o[i]? = some (.ptr id 0)) ∧ (j0 < 8 → o[j0]? = some nilV) := by
  have key : ∀ k, k ≤ 8 → (∀ i, i < k → ∃ id, o[i]? = some (.ptr id 0)) ∨ ∃ j0, j0 < k ∧ (∀ i, i < j0 → ∃ id, o[i]? = some (.ptr id 0)) ∧ o[j0]? = some nilV := by
    intro k
    induction k with
    | zero => exact fun _ => .inl fun i h => absurd h (Nat.not_lt_zero _)
    | succ k ih =>
      intro hk
      rcases ih (by omega) with h | ⟨j0, h1, h2, h3⟩
      · have hk8 : k < o.length := by omega
        have e := List.getElem?_eq_getElem hk8
        rcases his o[k] (List.getElem_mem hk8) with hx | ⟨id, hx⟩
        · exact .inr ⟨k, Nat.lt_succ_self _, h, by rw [e, hx]⟩
        · refine .inl fun i hi => ?_
          rcases Nat.lt_succ_iff_lt_or_eq.1 hi with hi | rfl
          · exact h i hi
          · exact ⟨id, by rw [e, hx]⟩
      · exact .inr ⟨j0, by omega, h2, h3⟩
  rcases key 8 (Nat.le_refl _) with h | ⟨j0, h1, h2, h3⟩
  · exact ⟨8, Nat.le_refl _, h, fun h => absurd h (Nat.lt_irrefl _)⟩
  · exact ⟨j0, by omega, h2, fun _ => h3⟩
section
variable {l : List (Int × Int)} {j : Nat} (hj : j < l.length) {o : List AV} {f : Nat → Option Av.Obj} {n m : Nat} (iv : Iv o f n)
include hj iv
theorem sw_out {k nn : Int} (hq : ∀ d, (l.map tn).getD j d = .agg [.int .i64 k, .int .i64 nn]) (hk : ¬ (1 ≤ nn ∧ nn ≤ 8)) : Wp Tryz.prog 199 sw6 (sw0 l j nn false f n m) (SwQ l j) := by
  by_cases h1 : k = 1
  · subst h1; exact sw_1out l j hj o f n m iv nn hq hk
  by_cases h2 : k = 2
  · subst h2; exact sw_2out l j hj o f n m iv nn hq hk
  by_cases h3 : k = 3
  · subst h3; exact sw_3 l j hj o f n m iv nn false hq
  obtain ⟨j0, a, b, c⟩ := free_at iv.len iv.is
  exact sw_4 l j hj o f n m iv k nn false j0 hq h1 h2 h3 a b c
theorem sw_nil {k : Int} {jn : Nat} (hq : ∀ d, (l.map tn).getD j d = .agg [.int .i64 k, .int .i64 ((jn : Int) + 1)]) (hk : jn < 8) (hx : o[jn]? = some nilV) : Wp Tryz.prog 199 sw6 (sw0 l j ((jn : Int) + 1) false f n m) (SwQ l j) := by
  by_cases h1 : k = 1
  · subst h1; exact sw_1nil l j hj o f n m iv jn hq hk hx
  by_cases h2 : k = 2
  · subst h2; exact sw_2nil l j hj o f n m iv jn hq hk hx
  by_cases h3 : k = 3
  · subst h3; exact sw_3 l j hj o f n m iv _ false hq
  obtain ⟨j0, a, b, c⟩ := free_at iv.len iv.is
  exact sw_4 l j hj o f n m iv k _ false j0 hq h1 h2 h3 a b c
theorem sw_ptr {k : Int} {jn id : Nat} (hq : ∀ d, (l.map tn).getD j d = .agg [.int .i64 k, .int .i64 ((jn : Int) + 1)]) (hk : jn < 8) (hx : o[jn]? = some (.ptr id 0)) : Wp Tryz.prog 199 sw6 (sw0 l j ((jn : Int) + 1) true f n m) (SwQ l j) := by
  by_cases h1 : k = 1
  · subst h1; exact sw_1ptr l j hj o f n m iv jn id hq hk hx
  by_cases h2 : k = 2
  · subst h2; exact sw_2ptr l j hj o f n m iv jn id hq hk hx
  by_cases h3 : k = 3
  · subst h3; exact sw_3 l j hj o f n m iv _ true hq
  obtain ⟨j0, a, b, c⟩ := free_at iv.len iv.is
  exact sw_4 l j hj o f n m iv k _ true j0 hq h1 h2 h3 a b c
end
def fin6 : AC := match tail6 with
  | .seq _ (.seq _ x) => x
  | x => x
def TlQ (l : List (Int × Int)) (j : Nat) (f : Nat → Option Av.Obj) (n : Nat) : AExit → St → Prop := AExit.andThen (fun s' => ∃ m', StLe s' ⟨tm (st6 l j), ⟨f, n, [], m'⟩⟩) fun _ _ => False
theorem fin_w (l : List (Int × Int)) (j : Nat) (o : List AV) (f : Nat → Option Av.Obj) (n m : Nat) (iv : Iv o f n) : Wp Tryz.prog 199 fin6 ⟨tm (st6 l j ++ [(17, .sl 1 (ints' (idsTo o 8)) .any)]), ⟨f, n, [], m⟩⟩ (TlQ l j f n) := by
  obtain ⟨m', hm, hc⟩ := ids_a 0 o iv.len iv.is n m
  have hc := tab_frame iv.t hm hc
  rw [upd_self iv.t] at hc
  have hs := same_p (idsTo o 8) (idsTo_len o 8)
  unfold fin6 tail6 c6 TlQ st6
  repeat (first
    | refine WpItemsF.nil ?_
    | ((first | apply Wp.seqItemsF | apply Wp.itemsF | ((first
        | (refine WpItemsF.acall ?_ ?_ (by constructor <;> first | exact Nat.le_refl _ | assumption) (hc) ?_; (· simp only [go_sem, reduceIte, Nat.reduceEqDiff, Nat.reduceAdd, bx]); (· simp only [go_sem, reduceIte, Nat.reduceEqDiff, Nat.reduceAdd, bx, List.map, ax, if_true, if_false, Nat.reduceMul, Nat.reduceLeDiff, Bool.not_true]; first | exact VSubs.refl _ | (repeat (first | exact VSubs.nil | refine VSubs.cons (by first | exact VSub.refl _ | assumption | exact VSub.cap | exact VSub.any _) ?_))))
        | (refine WpItemsF.pcall ?_ ?_ (hs) ?_; (· simp only [go_sem, reduceIte, Nat.reduceEqDiff, Nat.reduceAdd, bx]); (· simp only [go_sem, reduceIte, Nat.reduceEqDiff, Nat.reduceAdd, bx, List.map, ax, if_true, if_false, Nat.reduceMul, Nat.reduceLeDiff, Bool.not_true]; first | exact VSubs.refl _ | (repeat (first | exact VSubs.nil | refine VSubs.cons (by first | exact VSub.refl _ | assumption | exact VSub.cap | exact VSub.any _) ?_))))); apply WpItemsF.evF)); (· simp only [go_sem, reduceIte, Nat.reduceEqDiff, Nat.reduceAdd, bx, ax, if_true, if_false, Nat.reduceMul, Nat.reduceLeDiff, Bool.not_true]; exact rfl))
    | (apply Wp.cond_lit; (· simp only [go_sem, reduceIte, Nat.reduceEqDiff, Nat.reduceAdd, bx, ax, if_true, if_false, Nat.reduceMul, Nat.reduceLeDiff, Bool.not_true]; exact rfl); (· rfl))
    | refine Wp.skip ?_
    | refine Wp.label ?_
    | refine Wp.block ?_
    | refine Wp.exit ?_
    | refine Wp.seq ?_)
  refine ⟨m', ?_⟩
  refine StLe.tm (by simp only [AllSub, go_sem, reduceIte, Nat.reduceEqDiff, Nat.reduceAdd, bx]; and_intros <;> first | exact trivial | exact VSub.refl _ | exact VSub.any _ | (refine VSub.int ?_; omega))
theorem tail_w (l : List (Int × Int)) (j : Nat) (o : List AV) (f : Nat → Option Av.Obj) (n m : Nat) (iv : Iv o f n) : Wp Tryz.prog 199 tail6 ⟨tm (st6 l j), ⟨f, n, [], m⟩⟩ (TlQ l j f n) := by
  have hfin := fun m => fin_w l j o f n m iv
  change Wp Tryz.prog 199 (.seq _ (.seq _ fin6)) _ _
  generalize fin6 = R at *
  unfold st6
  have hr := iv.r
  unfold nilV at hr
  have hlen := iv.len
  repeat (first
    | refine WpItemsF.nil ?_
    | ((first | apply Wp.seqItemsF | apply Wp.itemsF); (· simp only [go_sem, reduceIte, Nat.reduceEqDiff, Nat.reduceAdd, bx, ax, if_true, if_false, Nat.reduceMul, Nat.reduceLeDiff]; exact rfl))
    | (apply Wp.cond_lit; (· simp only [go_sem, reduceIte, Nat.reduceEqDiff, Nat.reduceAdd, bx, ax, if_true, if_false, Nat.reduceMul, Nat.reduceLeDiff]; exact rfl); (· rfl))
    | refine Wp.skip ?_
    | refine Wp.label ?_
    | refine Wp.block ?_
    | refine Wp.exit ?_
    | refine Wp.seq ?_)
  refine Wp.le (StLe.tok _ _) ?_
  refine Wp.loopTok [0, 3, 4, 5] (by simp only [go_sem, reduceIte, Nat.reduceEqDiff, List.map]; exact rfl) (fun (k : Nat) tk => [(17, .sl 1 (ints' (idsTo o k)) (.own tk)), (18, .int .i64 ((k + 1 : Nat) : Int))]) (fun k => k ≤ 8) (fun k => 9 - k) 0 _ (Nat.zero_le _) rfl ?_ ?_
  · simp only [AllSub, go_sem, reduceIte, Nat.reduceEqDiff, Nat.reduceAdd, bx]; and_intros <;> first | exact trivial | exact VSub.refl _ | exact VSub.any _ | exact VSub.own_of rfl | (refine VSub.int ?_; omega)
  intro k tk m1 hk
  by_cases h : k < 8
  · have d1 : decide (((k + 1 : Nat) : Int) ≤ 8) = true := decide_eq_true (by omega)
    have i1 : (0 : Int) ≤ ((k + 1 : Nat) : Int) := Int.natCast_nonneg _
    have i2 : ((k + 1 : Nat) : Int) < ((9 : Nat) : Int) := by omega
    have hw : IntKind.i64.wrap (((k + 1 : Nat) : Int) + 1) = ((k + 1 + 1 : Nat) : Int) := by rw [IntWalk.i64_in _ (by omega)]; omega
    have hl2 := idsTo_len o k
    have hk8 : k < o.length := by omega
    have hxk : o[k]? = some o[k] := List.getElem?_eq_getElem hk8
    have hgd : o.getD k nilV = o[k] := by simp [List.getD, hxk]
    rcases iv.is o[k] (List.getElem_mem hk8) with hx | ⟨id, hx⟩
    · have hrow := row_at (hxk.trans (congrArg some hx))
      unfold nilV at hrow
      repeat (first
        | refine WpItemsF.nil ?_
        | ((first | apply Wp.seqItemsF | apply Wp.itemsF); (· simp only [go_sem, reduceIte, Nat.reduceEqDiff, Nat.reduceAdd, bx, ax, if_true, if_false, Nat.reduceMul, Nat.reduceLeDiff, d1, i1, i2, Int.toNat_natCast, and_self, hr, hrow, hw, Nat.zero_add]; exact rfl))
        | (apply Wp.cond_lit; (· simp only [go_sem, reduceIte, Nat.reduceEqDiff, Nat.reduceAdd, bx, ax, if_true, if_false, Nat.reduceMul, Nat.reduceLeDiff, d1, i1, i2, Int.toNat_natCast, and_self, hr, hrow, hw, Nat.zero_add]; exact rfl); (· rfl))
        | refine Wp.skip ?_
        | refine Wp.label ?_
        | refine Wp.block ?_
        | refine Wp.exit ?_
        | refine Wp.seq ?_)
      refine ⟨k + 1, tk, m1, by omega, by omega, ?_⟩
      refine StLe.tm (by simp only [AllSub, go_sem, reduceIte, Nat.reduceEqDiff, Nat.reduceAdd, bx]; and_intros <;> first | exact trivial | exact VSub.refl _ | exact VSub.any _ | exact VSub.of_eq (by rw [idsTo_nil (hgd.trans hx)]) | (refine VSub.int ?_; omega))
    · have hrow := row_at (hxk.trans (congrArg some hx))
      have g0 : ((idsTo o k).length + 1) * 8 ≤ 140737488355328 := by omega
      have g0' : (idsTo o k).length + 1 < 4611686018427387904 := by omega
      repeat (first
        | refine WpItemsF.nil ?_
        | ((first | apply Wp.seqItemsF | apply Wp.itemsF); (· simp only [go_sem, reduceIte, Nat.reduceEqDiff, Nat.reduceAdd, bx, ax, if_true, if_false, Nat.reduceMul, Nat.reduceLeDiff, d1, i1, i2, Int.toNat_natCast, and_self, hr, hrow, hw, ints_len, g0, g0', List.length_cons, List.length_nil, Nat.zero_add, or_true, true_or]; exact rfl))
        | (apply Wp.cond_lit; (· simp only [go_sem, reduceIte, Nat.reduceEqDiff, Nat.reduceAdd, bx, ax, if_true, if_false, Nat.reduceMul, Nat.reduceLeDiff, d1, i1, i2, Int.toNat_natCast, and_self, hr, hrow, hw, ints_len, g0, g0', List.length_cons, List.length_nil, Nat.zero_add, or_true, true_or]; exact rfl); (· rfl))
        | refine Wp.skip ?_
        | refine Wp.label ?_
        | refine Wp.block ?_
        | refine Wp.exit ?_
        | refine Wp.seq ?_)
      refine ⟨k + 1, m1, m1 + 1, by omega, by omega, ?_⟩
      refine StLe.tm (by simp only [AllSub, go_sem, reduceIte, Nat.reduceEqDiff, Nat.reduceAdd, bx]; and_intros <;> first | exact trivial | exact VSub.refl _ | exact VSub.any _ | exact VSub.of_eq (by rw [idsTo_ptr (hgd.trans hx), ints_snoc]; rfl) | (refine VSub.int ?_; omega))
  · obtain rfl : k = 8 := by omega
    repeat (first
      | refine WpItemsF.nil ?_
      | ((first | apply Wp.seqItemsF | apply Wp.itemsF); (· simp only [go_sem, reduceIte, Nat.reduceEqDiff, Nat.reduceAdd, bx, ax, if_true, if_false, Nat.reduceMul, Nat.reduceLeDiff]; exact rfl))
      | (apply Wp.cond_lit; (· simp only [go_sem, reduceIte, Nat.reduceEqDiff, Nat.reduceAdd, bx, ax, if_true, if_false, Nat.reduceMul, Nat.reduceLeDiff]; exact rfl); (· rfl))
      | refine Wp.skip ?_
      | refine Wp.label ?_
      | refine Wp.block ?_
      | refine Wp.exit ?_
      | refine Wp.seq ?_)
    refine Wp.le ?_ (hfin m1)
    refine StLe.of (tm_le ?_) (fun i x h => ⟨x, h, OSub.refl _⟩) (fun _ h => by cases h) (Nat.le_refl _) (Nat.le_refl _)
    simp only [AllSub, go_sem, reduceIte, Nat.reduceEqDiff, Nat.reduceAdd, bx, st6, List.cons_append, List.nil_append]; and_intros <;> first | exact trivial | exact VSub.refl _ | exact VSub.any _ | exact VSub.cap | (refine VSub.int ?_; omega)
theorem sw_then {l : List (Int × Int)} {j : Nat} {s : St} {Y : AC} {Q : AExit → St → Prop} (h : Wp Tryz.prog 199 sw6 s (SwQ l j)) (k : ∀ o' f' n' m', Iv o' f' n' → Wp Tryz.prog 199 Y ⟨tm (st6 l j), ⟨f', n', [], m'⟩⟩ Q) : Wp Tryz.prog 199 (.seq sw6 Y) s Q := by
  refine Wp.seq (Wp.mono h fun e s' q => ?_)
  cases e with
  | normal =>
    obtain ⟨o', f', n', m', iv, hle⟩ := q
    exact Wp.le hle (k o' f' n' m' iv)
  | _ => exact False.elim q
theorem tail_then {l : List (Int × Int)} {j : Nat} {o : List AV} {f : Nat → Option Av.Obj} {n m : Nat} (iv : Iv o f n) : Wp Tryz.prog 199 tail6 ⟨tm (st6 l j), ⟨f, n, [], m⟩⟩ (SwQ l j) := by
  refine Wp.mono (tail_w l j o f n m iv) fun e s' q => ?_
  cases e with
  | normal =>
    obtain ⟨m', hle⟩ := q
    exact ⟨o, f, n, m', iv, hle⟩
  | _ => exact False.elim q
def b16 : AC := match c6 with
  | .seq _ (.seq _ (.seq _ (.seq _ (.seq (.seq _ (.block _ (.loop (.seq _ (.seq (.block _ x) _))))) _)))) => x
  | x => x
theorem b1_w (l : List (Int × Int)) (j : Nat) (hj : j < l.length) (o : List AV) (f : Nat → Option Av.Obj) (n m : Nat) (iv : Iv o f n) : Wp Tryz.prog 199 b16 ⟨tm (st6 l j), ⟨f, n, [], m⟩⟩ (SwQ l j) := by
  have go : ∀ s, Wp Tryz.prog 199 sw6 s (SwQ l j) → Wp Tryz.prog 199 (.seq sw6 tail6) s (SwQ l j) := fun s h => sw_then h fun o' f' n' m' iv' => tail_then iv'
  change Wp Tryz.prog 199 (.seq _ (.seq _ (.seq sw6 tail6))) _ _
  generalize hS : AC.seq sw6 tail6 = S at *
  have hq := at_turn hj
  generalize l.getD j (0, 0) = q at hq
  obtain ⟨k, nn⟩ := q
  simp only at hq
  have i1 : (0 : Int) ≤ (j : Int) := Int.natCast_nonneg _
  have i2 : (j : Int) < ((l.map tn).length : Int) := by simp; omega
  by_cases hk : 1 ≤ nn ∧ nn ≤ 8
  · obtain ⟨jn, hjn⟩ : ∃ jn : Nat, nn = (jn : Int) + 1 := ⟨(nn - 1).toNat, by omega⟩
    subst hjn
    have hk8 : jn < 8 := by omega
    have hlen := iv.len
    have ho8 : jn < o.length := by omega
    have hxk : o[jn]? = some o[jn] := List.getElem?_eq_getElem ho8
    have hr := iv.r
    unfold nilV at hr
    have ei : (jn : Int) + 1 = ((jn + 1 : Nat) : Int) := by omega
    have i3 : (0 : Int) ≤ ((jn + 1 : Nat) : Int) := Int.natCast_nonneg _
    have i4 : ((jn + 1 : Nat) : Int) < ((9 : Nat) : Int) := by omega
    have dg : decide (1 ≤ ((jn + 1 : Nat) : Int)) = true := decide_eq_true (by omega)
    have dl : decide (((jn + 1 : Nat) : Int) ≤ 8) = true := decide_eq_true (by omega)
    have hq2 := hq
    rw [ei] at hq2
    rcases iv.is o[jn] (List.getElem_mem ho8) with hx | ⟨id, hx⟩
    · have hxn := hxk.trans (congrArg some hx)
      have hrow := row_at hxn
      unfold nilV at hrow
      have fin := go _ (sw_nil hj iv (m := m) hq hk8 hxn)
      unfold sw0 at fin
      unfold st6 at *
      repeat (first
        | refine WpItemsF.nil ?_
        | ((first | apply Wp.seqItemsF | apply Wp.itemsF); (· simp only [go_sem, reduceIte, Nat.reduceEqDiff, Nat.reduceAdd, bx, ax, if_true, if_false, Nat.reduceMul, Nat.reduceLeDiff, i1, i2, i3, i4, dg, dl, Int.toNat_natCast, and_self, hq2, hr, hrow, List.all_cons, List.all_nil, Nat.zero_add]; exact rfl))
        | (apply Wp.cond_lit; (· simp only [go_sem, reduceIte, Nat.reduceEqDiff, Nat.reduceAdd, bx, ax, if_true, if_false, Nat.reduceMul, Nat.reduceLeDiff, i1, i2, i3, i4, dg, dl, Int.toNat_natCast, and_self, hq2, hr, hrow, List.all_cons, List.all_nil, Nat.zero_add]; exact rfl); (· rfl))
        | refine Wp.skip ?_
        | refine Wp.label ?_
        | refine Wp.block ?_
        | refine Wp.exit ?_
        | refine Wp.seq ?_)
      refine Wp.le ?_ fin
      refine StLe.of (tm_le ?_) (fun i x h => ⟨x, h, OSub.refl _⟩) (fun _ h => h) (Nat.le_refl _) (Nat.le_refl _)
      simp only [AllSub, go_sem, reduceIte, Nat.reduceEqDiff, Nat.reduceAdd, bx, List.cons_append, List.nil_append]; and_intros <;> first | exact trivial | exact VSub.refl _ | exact VSub.any _ | (refine VSub.int ?_; omega)
    · have hxn := hxk.trans (congrArg some hx)
      have hrow := row_at hxn
      have fin := go _ (sw_ptr hj iv (m := m) hq hk8 hxn)
      unfold sw0 at fin
      unfold st6 at *
      repeat (first
        | refine WpItemsF.nil ?_
        | ((first | apply Wp.seqItemsF | apply Wp.itemsF); (· simp only [go_sem, reduceIte, Nat.reduceEqDiff, Nat.reduceAdd, bx, ax, if_true, if_false, Nat.reduceMul, Nat.reduceLeDiff, i1, i2, i3, i4, dg, dl, Int.toNat_natCast, and_self, hq2, hr, hrow, List.all_cons, List.all_nil, Nat.zero_add]; exact rfl))
        | (apply Wp.cond_lit; (· simp only [go_sem, reduceIte, Nat.reduceEqDiff, Nat.reduceAdd, bx, ax, if_true, if_false, Nat.reduceMul, Nat.reduceLeDiff, i1, i2, i3, i4, dg, dl, Int.toNat_natCast, and_self, hq2, hr, hrow, List.all_cons, List.all_nil, Nat.zero_add]; exact rfl); (· rfl))
        | refine Wp.skip ?_
        | refine Wp.label ?_
        | refine Wp.block ?_
        | refine Wp.exit ?_
        | refine Wp.seq ?_)
      refine Wp.le ?_ fin
      refine StLe.of (tm_le ?_) (fun i x h => ⟨x, h, OSub.refl _⟩) (fun _ h => h) (Nat.le_refl _) (Nat.le_refl _)
      simp only [AllSub, go_sem, reduceIte, Nat.reduceEqDiff, Nat.reduceAdd, bx, List.cons_append, List.nil_append]; and_intros <;> first | exact trivial | exact VSub.refl _ | exact VSub.any _ | (refine VSub.int ?_; omega)
  · have fin := go _ (sw_out hj iv (m := m) hq hk)
    unfold sw0 at fin
    unfold st6 at *
    by_cases h1 : 1 ≤ nn
    · have dg := decide_eq_true h1
      have dl : decide (nn ≤ 8) = false := decide_eq_false (by omega)
      repeat (first
        | refine WpItemsF.nil ?_
        | ((first | apply Wp.seqItemsF | apply Wp.itemsF); (· simp only [go_sem, reduceIte, Nat.reduceEqDiff, Nat.reduceAdd, bx, ax, if_true, if_false, Nat.reduceMul, Nat.reduceLeDiff, i1, i2, dg, dl, Int.toNat_natCast, and_self, hq, List.all_cons, List.all_nil]; exact rfl))
        | (apply Wp.cond_lit; (· simp only [go_sem, reduceIte, Nat.reduceEqDiff, Nat.reduceAdd, bx, ax, if_true, if_false, Nat.reduceMul, Nat.reduceLeDiff, i1, i2, dg, dl, Int.toNat_natCast, and_self, hq, List.all_cons, List.all_nil]; exact rfl); (· rfl))
        | refine Wp.skip ?_
        | refine Wp.label ?_
        | refine Wp.block ?_
        | refine Wp.exit ?_
        | refine Wp.seq ?_)
      refine Wp.le ?_ fin
      refine StLe.of (tm_le ?_) (fun i x h => ⟨x, h, OSub.refl _⟩) (fun _ h => h) (Nat.le_refl _) (Nat.le_refl _)
      simp only [AllSub, go_sem, reduceIte, Nat.reduceEqDiff, Nat.reduceAdd, bx, List.cons_append, List.nil_append]; and_intros <;> first | exact trivial | exact VSub.refl _ | exact VSub.any _ | (refine VSub.int ?_; omega)
    · have dg := decide_eq_false h1
      repeat (first
        | refine WpItemsF.nil ?_
        | ((first | apply Wp.seqItemsF | apply Wp.itemsF); (· simp only [go_sem, reduceIte, Nat.reduceEqDiff, Nat.reduceAdd, bx, ax, if_true, if_false, Nat.reduceMul, Nat.reduceLeDiff, i1, i2, dg, Int.toNat_natCast, and_self, hq, List.all_cons, List.all_nil]; exact rfl))
        | (apply Wp.cond_lit; (· simp only [go_sem, reduceIte, Nat.reduceEqDiff, Nat.reduceAdd, bx, ax, if_true, if_false, Nat.reduceMul, Nat.reduceLeDiff, i1, i2, dg, Int.toNat_natCast, and_self, hq, List.all_cons, List.all_nil]; exact rfl); (· rfl))
        | refine Wp.skip ?_
        | refine Wp.label ?_
        | refine Wp.block ?_
        | refine Wp.exit ?_
        | refine Wp.seq ?_)
      refine Wp.le ?_ fin
      refine StLe.of (tm_le ?_) (fun i x h => ⟨x, h, OSub.refl _⟩) (fun _ h => h) (Nat.le_refl _) (Nat.le_refl _)
      simp only [AllSub, go_sem, reduceIte, Nat.reduceEqDiff, Nat.reduceAdd, bx, List.cons_append, List.nil_append]; and_intros <;> first | exact trivial | exact VSub.refl _ | exact VSub.any _ | (refine VSub.int ?_; omega)
end Go.Proofs.YtkcgpcbpieofnaaGreatDoor.Desk
end
section
set_option linter.unusedSimpArgs false
set_option linter.unusedVariables false
set_option maxRecDepth 100000
namespace Go.Proofs.YtkcgpcbpieofnaaGreatDoor.Desk
open Go Go.Av Go.Proofs Go.Proofs.YtkcgpcbpieofnaaGreatDoor.C
theorem tns_pure (l : List (Int × Int)) : allPure (l.map tn) = true := Av.allPure_map (fun a => by simp [tn, isPure, allPure]) l
def mk6 : AC := match c6 with
  | .seq _ (.seq _ (.seq _ x)) => x
  | x => x
theorem deskTable_p (l : List (Int × Int)) : PCalls Tryz.prog 6 [.sl 2 (l.map tn) .any] (.bool true) := by
  refine f6.pcalls0 (by simp) (by simp [isPure, allPure, capPure, tns_pure]) rfl ?_
  change Wp Tryz.prog 199 (.seq _ (.seq _ (.seq _ mk6))) _ _
  have hb := fun j hj o f n m iv => b1_w l j hj o f n m iv
  have hmk : mk6 = .seq _ (.seq (.seq _ (.block _ (.loop (.seq _ (.seq (.block _ b16) _))))) _) := rfl
  generalize mk6 = M at *
  generalize b16 = B at *
  have hnew := newTable_a 0 0
  unfold tabO at hnew
  repeat (first
    | refine WpItemsF.nil ?_
    | ((first | apply Wp.seqItemsF | apply Wp.itemsF); (· simp only [go_sem, reduceIte, Nat.reduceEqDiff, Nat.reduceAdd, bx, ax, if_true, if_false, Nat.reduceMul, Nat.reduceLeDiff]; exact rfl))
    | (apply Wp.cond_lit; (· simp only [go_sem, reduceIte, Nat.reduceEqDiff, Nat.reduceAdd, bx, ax, if_true, if_false, Nat.reduceMul, Nat.reduceLeDiff]; exact rfl); (· rfl))
    | refine Wp.skip ?_
    | refine Wp.label ?_
    | refine Wp.block ?_
    | refine Wp.exit ?_
    | refine Wp.seq ?_)
  refine WpItemsF.acall (by simp only [go_sem]) (by simp only [go_sem, List.map]; exact VSubs.nil) (by exact ⟨Nat.zero_le _, Nat.le_refl _⟩) hnew ?_
  apply WpItemsF.evF
  · simp only [go_sem]; exact rfl
  refine WpItemsF.nil ?_
  by_cases h2 : (200 : Int) < ((l.map tn).length : Int)
  · have d1 := decide_eq_true h2
    repeat (first
      | refine WpItemsF.nil ?_
      | ((first | apply Wp.seqItemsF | apply Wp.itemsF | ((first
          | (refine WpItemsF.pcall ?_ ?_ (lives25_p) ?_; (· simp only [go_sem, reduceIte, Nat.reduceEqDiff, Nat.reduceAdd, bx]); (· simp only [go_sem, reduceIte, Nat.reduceEqDiff, Nat.reduceAdd, bx, List.map, ax, if_true, if_false, Nat.reduceMul, Nat.reduceLeDiff, d1]; first | exact VSubs.refl _ | (repeat (first | exact VSubs.nil | refine VSubs.cons (by first | exact VSub.refl _ | assumption | exact VSub.cap | exact VSub.any _) ?_))))); apply WpItemsF.evF)); (· simp only [go_sem, reduceIte, Nat.reduceEqDiff, Nat.reduceAdd, bx, ax, if_true, if_false, Nat.reduceMul, Nat.reduceLeDiff, d1]; exact rfl))
      | (apply Wp.cond_lit; (· simp only [go_sem, reduceIte, Nat.reduceEqDiff, Nat.reduceAdd, bx, ax, if_true, if_false, Nat.reduceMul, Nat.reduceLeDiff, d1]; exact rfl); (· rfl))
      | refine Wp.skip ?_
      | refine Wp.label ?_
      | refine Wp.block ?_
      | refine Wp.exit ?_
      | refine Wp.seq ?_)
    refine Wp.ret ⟨trivial, _, rfl, ?_⟩
    simp only [go_sem, reduceIte, Nat.reduceEqDiff, Nat.reduceAdd, bx]
    exact VSub.refl _
  · have d1 := decide_eq_false h2
    have hl : l.length ≤ 200 := by simp at h2; omega
    repeat (first
      | refine WpItemsF.nil ?_
      | ((first | apply Wp.seqItemsF | apply Wp.itemsF); (· simp only [go_sem, reduceIte, Nat.reduceEqDiff, Nat.reduceAdd, bx, ax, if_true, if_false, Nat.reduceMul, Nat.reduceLeDiff, d1]; exact rfl))
      | (apply Wp.cond_lit; (· simp only [go_sem, reduceIte, Nat.reduceEqDiff, Nat.reduceAdd, bx, ax, if_true, if_false, Nat.reduceMul, Nat.reduceLeDiff, d1]; exact rfl); (· rfl))
      | refine Wp.skip ?_
      | refine Wp.label ?_
      | refine Wp.block ?_
      | refine Wp.exit ?_
      | refine Wp.seq ?_)
    rw [hmk]
    refine Wp.seq (Wp.regF (WpItemsF.opM (by simp only [go_sem]) (by simp only [aopM, go_sem]; exact rfl) ?_))
    apply WpItemsF.evF
    · simp only [go_sem]; exact rfl
    refine WpItemsF.nil ?_
    repeat (first
      | refine WpItemsF.nil ?_
      | ((first | apply Wp.seqItemsF | apply Wp.itemsF); (· simp only [go_sem, reduceIte, Nat.reduceEqDiff, Nat.reduceAdd, bx, ax, if_true, if_false, Nat.reduceMul, Nat.reduceLeDiff]; exact rfl))
      | (apply Wp.cond_lit; (· simp only [go_sem, reduceIte, Nat.reduceEqDiff, Nat.reduceAdd, bx, ax, if_true, if_false, Nat.reduceMul, Nat.reduceLeDiff]; exact rfl); (· rfl))
      | refine Wp.skip ?_
      | refine Wp.label ?_
      | refine Wp.block ?_
      | refine Wp.exit ?_
      | refine Wp.seq ?_)
    refine Wp.loopH [0, 3, 4] (by simp only [go_sem, reduceIte, Nat.reduceEqDiff, List.map]; exact rfl) (fun β : Nat × List AV × (Nat → Option Av.Obj) × Nat × Nat => [(5, .int .i64 β.1)]) (fun β => ⟨β.2.2.1, β.2.2.2.1, [], β.2.2.2.2⟩) (fun β => β.1 ≤ l.length ∧ Iv β.2.1 β.2.2.1 β.2.2.2.1) (fun β => l.length - β.1) (0, List.replicate 8 nilV, _, 2, 0) ⟨Nat.zero_le _, ?_⟩ rfl ?_ ?_
    · refine ⟨rfl, fun x hx => .inl (List.mem_replicate.1 hx).2, rfl, rfl, fun id h => ?_, Nat.le_refl _⟩
      have := (List.mem_replicate.1 h).2
      cases this
    · simp only [AllSub, go_sem, reduceIte, Nat.reduceEqDiff, Nat.reduceAdd, bx]; and_intros <;> first | exact trivial | exact VSub.refl _ | exact VSub.any _ | (refine VSub.int ?_; omega)
    rintro ⟨j, o, f, n, m⟩ ⟨hj, iv⟩
    simp only at hj iv
    by_cases h : j < l.length
    · have d2 : decide ((j : Int) < ((l.map tn).length : Int)) = true := decide_eq_true (by simp; omega)
      have hw : IntKind.i64.wrap ((j : Int) + 1) = ((j + 1 : Nat) : Int) := by rw [IntWalk.i64_in _ (by omega)]; omega
      have hB := hb j h o f n m iv
      show Wp _ _ _ ⟨tm ([(0, AV.sl 2 (List.map tn l) Cap.any), (3, AV.ptr 0 0), (4, AV.tsl 1 1 0 9 none)] ++ [(5, AV.int IntKind.i64 j)]), ⟨f, n, [], m⟩⟩ _
      repeat (first
        | refine WpItemsF.nil ?_
        | ((first | apply Wp.seqItemsF | apply Wp.itemsF); (· simp only [go_sem, reduceIte, Nat.reduceEqDiff, Nat.reduceAdd, bx, ax, if_true, if_false, Nat.reduceMul, Nat.reduceLeDiff, d2]; exact rfl))
        | (apply Wp.cond_lit; (· simp only [go_sem, reduceIte, Nat.reduceEqDiff, Nat.reduceAdd, bx, ax, if_true, if_false, Nat.reduceMul, Nat.reduceLeDiff, d2]; exact rfl); (· rfl))
        | refine Wp.skip ?_
        | refine Wp.label ?_
        | refine Wp.block ?_
        | refine Wp.exit ?_
        | refine Wp.seq ?_)
      refine Wp.le (s' := ⟨tm (st6 l j), ⟨f, n, [], m⟩⟩) ?_ (Wp.mono hB fun e s' q => ?_)
      · refine StLe.of (tm_le ?_) (fun i x h => ⟨x, h, OSub.refl _⟩) (fun _ h => h) (Nat.le_refl _) (Nat.le_refl _)
        simp only [AllSub, go_sem, reduceIte, Nat.reduceEqDiff, Nat.reduceAdd, bx, st6, List.cons_append, List.nil_append]; and_intros <;> first | exact trivial | exact VSub.refl _ | exact VSub.any _ | (refine VSub.int ?_; omega)
      cases e with
      | normal =>
        obtain ⟨o', f', n', m', iv', hle⟩ := q
        unfold st6 at hle
        refine Wp.le hle ?_
        repeat (first
          | refine WpItemsF.nil ?_
          | ((first | apply Wp.seqItemsF | apply Wp.itemsF); (· simp only [go_sem, reduceIte, Nat.reduceEqDiff, Nat.reduceAdd, bx, ax, if_true, if_false, Nat.reduceMul, Nat.reduceLeDiff, hw]; exact rfl))
          | (apply Wp.cond_lit; (· simp only [go_sem, reduceIte, Nat.reduceEqDiff, Nat.reduceAdd, bx, ax, if_true, if_false, Nat.reduceMul, Nat.reduceLeDiff, hw]; exact rfl); (· rfl))
          | refine Wp.skip ?_
          | refine Wp.label ?_
          | refine Wp.block ?_
          | refine Wp.exit ?_
          | refine Wp.seq ?_)
        refine ⟨(j + 1, o', f', n', m'), ⟨by show j + 1 ≤ l.length; omega, iv'⟩, by show l.length - (j + 1) < l.length - j; omega, ?_⟩
        refine StLe.tm (by simp only [AllSub, go_sem, reduceIte, Nat.reduceEqDiff, Nat.reduceAdd, bx]; and_intros <;> first | exact trivial | exact VSub.refl _ | exact VSub.any _ | (refine VSub.int ?_; omega))
      | _ => exact False.elim q
    · have d2 : decide ((j : Int) < ((l.map tn).length : Int)) = false := decide_eq_false (by simp; omega)
      repeat (first
        | refine WpItemsF.nil ?_
        | ((first | apply Wp.seqItemsF | apply Wp.itemsF | ((first
            | (refine WpItemsF.pcall ?_ ?_ (lives25_p) ?_; (· simp only [go_sem, reduceIte, Nat.reduceEqDiff, Nat.reduceAdd, bx]); (· simp only [go_sem, reduceIte, Nat.reduceEqDiff, Nat.reduceAdd, bx, List.map, ax, if_true, if_false, Nat.reduceMul, Nat.reduceLeDiff, d2]; first | exact VSubs.refl _ | (repeat (first | exact VSubs.nil | refine VSubs.cons (by first | exact VSub.refl _ | assumption | exact VSub.cap | exact VSub.any _) ?_))))); apply WpItemsF.evF)); (· simp only [go_sem, reduceIte, Nat.reduceEqDiff, Nat.reduceAdd, bx, ax, if_true, if_false, Nat.reduceMul, Nat.reduceLeDiff, d2]; exact rfl))
        | (apply Wp.cond_lit; (· simp only [go_sem, reduceIte, Nat.reduceEqDiff, Nat.reduceAdd, bx, ax, if_true, if_false, Nat.reduceMul, Nat.reduceLeDiff, d2]; exact rfl); (· rfl))
        | refine Wp.skip ?_
        | refine Wp.label ?_
        | refine Wp.block ?_
        | refine Wp.exit ?_
        | refine Wp.seq ?_)
      refine Wp.ret ⟨trivial, _, rfl, ?_⟩
      simp only [go_sem, reduceIte, Nat.reduceEqDiff, Nat.reduceAdd, bx]
      exact VSub.refl _
theorem turn_row {k : Nat} {cs : List AV} (h : Fits Tryz.prog (k + 3) 92 cs) : ∃ l : List (Int × Int), cs = [.sl 2 (l.map tn) .any] := by
  obtain ⟨ys, rfl, h1, h2⟩ := fit_row Tryz.underlying92 h
  have c1 : Tryz.prog.cellsOf 97 = 2 := by kernel_rfl
  have key : ∀ ys : List AV, (∀ y ∈ ys, ∃ cs, Fits Tryz.prog (k + 2) 97 cs ∧ y = wrapE Tryz.prog 97 cs) → ∃ l : List (Int × Int), ys = l.map tn := by
    intro ys
    induction ys with
    | nil => intro _; exact ⟨[], rfl⟩
    | cons y ys ih =>
      intro h
      obtain ⟨l, rfl⟩ := ih fun z hz => h z (by simp [hz])
      obtain ⟨cs, g1, g2⟩ := h y (by simp)
      obtain ⟨xss, e, g⟩ := fit_struct Tryz.underlying97 g1
      subst e
      cases g with | cons g3 g => cases g with | cons g4 g =>
      cases g
      obtain ⟨a, rfl, -⟩ := fit_int Tryz.underlying3 g3
      obtain ⟨b, rfl, -⟩ := fit_int Tryz.underlying3 g4
      refine ⟨(a, b) :: l, ?_⟩
      rw [g2, agg_of (by kernel_rfl)]
      rfl
  obtain ⟨l, rfl⟩ := key ys h2
  exact ⟨l, by rw [c1]⟩
theorem law_DeskTable {b : Nat} (avs : List AV) (h : Av.All2 (ArgFits Tryz.prog 6) Tryz.f6.params.toList avs) (_ : bulkAs avs ≤ b) : PCalls Tryz.prog 6 avs (.bool true) := by
  rw [Tryz.params6] at h
  cases h with | cons h0 h =>
  cases h
  obtain ⟨cs, h0, rfl⟩ := h0
  obtain ⟨l, rfl⟩ := turn_row h0
  unfold wrapE; rw [if_neg (by rw [show isAggT Tryz.prog 92 = false by kernel_rfl]; simp)]
  exact deskTable_p l
end Go.Proofs.YtkcgpcbpieofnaaGreatDoor.Desk
end
section
set_option linter.unusedSimpArgs false
set_option linter.unusedVariables false
namespace Go.Proofs.YtkcgpcbpieofnaaGreatDoor.Desk
open Go Go.Av Go.Proofs Go.Proofs.YtkcgpcbpieofnaaGreatDoor.C
open Go.ChangeShapes Go.WideShapes Go.ChangeAt Go.RowKit
set_option maxRecDepth 100000 in
theorem met_DeskTable (os : Os) : laidMet Tryz.prog Rows.deskTableRow.laid ((laidWorld os).forCall (fun _ _ => 0) ⟨#[], #[.slice none 0 0], []⟩).memory :=
  laidMet_of_run' 8 (by kernel_rfl) (by kernel_rfl)
set_option maxRecDepth 100000 in
theorem reads_DeskTable (os : Os) {H : Type} (enc : TypeId × Value → H) : ∃ places, DataW.whole enc Tryz.prog ((laidWorld os).forCall (fun _ _ => 0) ⟨#[], #[.slice none 0 0], []⟩).memory Tryz.f6.params.toList Rows.deskTableSpec.vars false (#[.slice none 0 0] : Array Value).toList 8 = some ([.nil], [], places) :=
  ⟨[], by kernel_rfl⟩
set_option maxRecDepth 100000 in
theorem lifted_DeskTable (os : Os) (started : os.Started) (H : Type) (enc : TypeId × Value → H) (F : Stop.Interp) :
    ReturnsInHanded {} Tryz.checked os 6 .any ((OpenSpec.ofChange Rows.deskTableSpec).preRow enc Tryz.prog Tryz.f6 Rows.deskTableRow.domain false Rows.deskTableRow.laid) (((OpenSpec.ofChange Rows.deskTableSpec).at F).post enc Tryz.prog Tryz.f6 false true false false) := by
  obtain ⟨places, hx⟩ := reads_DeskTable os enc
  refine returnsInHanded_of_row (C := Tryz.checked) (s := OpenSpec.ofChange Rows.deskTableSpec) own started (by kernel_rfl) Tryz.func6
    (witness_row_at (enc := enc) (C := Tryz.checked) false (laidWorld os) #[.slice none 0 0] rfl (by kernel_rfl) (by kernel_rfl) (by kernel_rfl)
      (OpenSpec.preRow_of_cond 8 hx (by kernel_rfl) (fun k hk => by cases hk) (by kernel_rfl) (met_DeskTable os))) ?_
  intro Wd base args ds gs before hval hW _ _ hwt _ _ _
  exact calls_row laid bulk rowed full rfl (fun l hl => by match l, hl with | [_], _ => rfl) rfl Tryz.underlying4 (by kernel_rfl) (by kernel_rfl) hval hW hwt (fun avs h hb => law_DeskTable avs h hb)
theorem said_DeskTable : Rows.DeskTableSaid :=
  OpenClaim.holds_of_cond 6 Tryz.f6 rfl rfl rfl rfl rfl rfl rfl ⟨rfl, rfl, rfl, rfl, rfl⟩ rfl rfl rfl rfl rfl (by kernel_rfl) Tryz.func6 (by kernel_rfl)
    (of_decide_eq_true (by kernel_rfl)) (by unfold Func.isWrapper; first | (rw [if_pos (by decide +kernel)]; kernel_rfl) | (rw [if_neg (by decide +kernel)]; exact ⟨rfl, rfl⟩))
    (fun os started H enc _ F => by rw [OpenClaim.pre_eq_preRow]; exact lifted_DeskTable os started H enc F)
theorem plain_DeskTable (f : FuncId) (fn : Func) (hf : Tryz.pinned.checked.prog.funcNamed "ambry/ambrylaw25.DeskTable" = some f) (hfn : Tryz.pinned.checked.prog.funcs[f]? = some fn) :
    false = Tryz.pinned.checked.prog.looks [] ∧ ∀ (j : Nat) t, fn.params[j]? = some t → Tryz.pinned.checked.prog.wantsStandIn t = false := by
  obtain rfl : f = 6 := Option.some.inj ((show Tryz.prog.funcNamed "ambry/ambrylaw25.DeskTable" = some 6 by kernel_rfl).symm.trans hf) |>.symm
  obtain rfl : fn = Tryz.f6 := (Option.some.inj (Tryz.func6.symm.trans hfn)).symm
  refine ⟨by kernel_rfl, fun j t ht => ?_⟩
  have hall : Tryz.f6.params.toList.all (fun t => !Tryz.prog.wantsStandIn t) = true := by kernel_rfl
  have := List.all_eq_true.1 hall t (by simpa using Array.mem_of_getElem? ht)
  exact (by simpa using this : Tryz.prog.wantsStandIn t = false)
theorem card_DeskTable : Rows.DeskTableCardSaid :=
  Claim7.holds_tied_plain_at .later [] _ _ _ _ said_DeskTable (fun _ h => by cases h) (by kernel_rfl) (fun _ h => by cases h) deskTable_row_tie rfl ⟨rfl, rfl⟩ (by kernel_rfl) rfl plain_DeskTable (by kernel_rfl)
#print axioms card_DeskTable
end Go.Proofs.YtkcgpcbpieofnaaGreatDoor.Desk
end
