/- Parts of a proof: a layer of abstract values over the model, the functions' walks, plain laws. -/
import Derived.Deep.CondSized
import Derived.IntWalk
import Derived.KernelRfl
import Derived.Laws.Append
import Derived.Laws.AppendOwn
import Derived.Laws.BytesArg
import Derived.Laws.Cover3
import Derived.Laws.Entries
import Derived.Laws.IdiomCopy
import Derived.Laws.IdiomStrings
import Derived.Laws.Pointers
import Derived.Laws.Small
import Derived.Laws.Strings
import Derived.Laws.StructEq
import Derived.MapKept
import Derived.OpenShut
import Derived.Orders
import Derived.OrdersIn
import Derived.ProofKit
import Derived.RangeFuncRecord
import Derived.RangeFuncSeq
import Derived.ReadAgain
import Derived.Scope
import Derived.Shelf.Slices.Cells
import Derived.Shelf.Slices.Delete
import Derived.Shelf.Spec.SlicesInsertGrow
import Derived.SizedLaws
import Derived.Test.YtpehfflehebmbaaRows
import Derived.Test.YtpehfflehebmbaaMlD
section
set_option linter.unusedSimpArgs false
set_option linter.unusedVariables false
set_option maxRecDepth 10000
namespace Go.Proofs.Ytpehfflehebmbaa.Space
open Go Go.Av Go.Proofs Go.Proofs.Ytpehfflehebmbaa.C Go.Proofs.Ytpehfflehebmbaa.Batch
theorem patch_new {L : List Fr} {n m id : Nat} {T : List Nat} {o o2 : Av.Obj} (h : lay L id = some o) : H.patch ⟨lay L, n, T, m⟩ (.only (upd none' id (some o)) [] n m) (.only (upd (upd none' id (some o)) n (some o2)) [] (n + 1) m) = ⟨lay (ob n o2 :: L), n + 1, T, m⟩ := by
  refine H.ext (fun j => ?_) rfl ?_ rfl
  · simp only [H.patch, H.only, upd, none', lay, ob_o]
    by_cases e1 : j = n
    · subst e1; simp
    · by_cases e2 : j = id
      · subst e2; simp [e1, h]
      · have : ¬ (n ≤ j ∧ j < n + 1) := by omega
        simp [e1, e2, this]
  · simp [H.patch, H.only]
theorem sl0_any {G G' : Ghost} {w : World} {v : Value} (h : VRel G w (.sl 1 [] (.exact 0)) v) : VRel G' w (.sl 1 [] (.exact 0)) v := by
  simp only [VRel, CapOk] at h ⊢
  rcases h with h | ⟨B, off, C, vs, q1, q2, q3, q4, q5, q6⟩
  · exact .inl h
  · left
    subst q6
    simpa [CapNil] using ⟨_, q1⟩
theorem clone0 {K : AV} {o : Objs} {s c : Nat} (hK : RowIs K [] o s c) : ∃ (objs : Objs) (ids : List Nat), (∀ id p, objs id = some p → o id = some p) ∧ (∀ id, (objs id).isSome → id ∈ ids) ∧ RCalls Try.prog 61 [K] objs (.sl 1 [] (.exact 0)) := by
  have hb := cloneE_gen (sz := 1) (bytes := 16) f61
  rcases hK with ⟨rfl, h⟩ | ⟨k, rfl, h1, h2, h3⟩
  · refine ⟨none', [], fun id p h => by simp [none'] at h, fun id h => by simp [none'] at h, fun n m => ?_⟩
    intro G w vs hv R F
    exact hb n m G w vs ((VSubs.cons VSub.cap VSubs.nil) G w vs hv) R F
  · refine ⟨upd none' k (some (.cells [])), [k], fun id p h => ?_, fun id h => ?_, ?_⟩
    · simp only [upd, none'] at h
      split at h
      · rename_i e; subst e; cases h; exact h1
      · cases h
    · simp only [upd, none'] at h
      split at h
      · rename_i e; simp [e]
      · cases h
    · exact hb.look (fun G G' w v h => sl0_any h) none k
theorem strs_any {G G' : Ghost} {w : World} : ∀ (l : List Bs) (vs : List Value), VRels G w (strs l) vs → VRels G' w (strs l) vs
  | [], vs, h => by simpa [strs, VRels] using h
  | s :: l, vs, h => by
    simp only [strs, List.map_cons, VRels] at h ⊢
    obtain ⟨v, us, e, h1, h2⟩ := h
    exact ⟨v, us, e, by simpa only [VRel] using h1, strs_any l us h2⟩
theorem cloneK_look (l : List Bs) (h0 : l ≠ []) (hl : l.length ≤ 1000000) (id n m : Nat) (hid : id < n) : ACalls Try.prog 61 [.tsl 1 id 0 l.length none] (.only (upd none' id (some (.cells (strs l)))) [] n m) (.tsl 1 n 0 l.length none) (.only (upd (upd none' id (some (.cells (strs l)))) n (some (.cells (strs l)))) [] (n + 1) m) := by
  have := ACalls.lookT (args := []) (fun n m => Reads.cloneK_p l h0 hl n m) (fun G G' w vs h => strs_any l vs h) none id n m hid
  rwa [strs_length] at this
def vacStep (mark : Int) (S : Spc) (k : Bs) : Spc := setS S k (vacB (mget S.L k) mark)
def vacS (mark : Int) (S : Spc) (ks : List Bs) : Spc := ks.foldl (vacStep mark) S
def vacuumB (S : Spc) (mark : Int) : Spc × Int := if mark < S.mark ∨ S.last < mark then (S, 2) else ({ vacS mark S (keysOf S.L) with mark := mark }, 0)
theorem vac_len (v : List Ver) (m : Int) : (vacB v m).length ≤ v.length := by
  unfold vacB
  split
  · rw [List.length_take]; omega
  · simp
theorem vacStep_ok {S : Spc} (h : Small S) (hr : RiseL S.L) (m : Int) (k : Bs) : Small (vacStep m S k) ∧ RiseL (vacStep m S k).L := by
  refine ⟨⟨?_, fun q => ?_⟩, setL_rise hr _ _⟩
  · show (setL S.L k (vacB (mget S.L k) m)).length ≤ _
    have hp := plK_le (keysOf S.L) k
    have hk : (keysOf S.L).length = S.L.length := by simp [keysOf]
    have := h.1
    by_cases ht : thK (keysOf S.L) k = true
    · unfold setL
      simp only [ht, if_true]
      have ht2 := ht
      simp only [thK, Bool.and_eq_true, decide_eq_true_eq] at ht2
      have := ht2.1
      split
      · simp; omega
      · simp; omega
    · have hm : mget S.L k = [] := by
        refine mget_none _ _ fun hm => ?_
        have := thK_iff hr k
        rw [decide_eq_true (show k ∈ keysOf S.L from hm)] at this
        exact ht this
      have hv : vacB (mget S.L k) m = [] := by
        have := vac_len (mget S.L k) m
        rw [hm] at this ⊢
        exact List.length_eq_zero_iff.1 (by simpa using this)
      rw [hv, setL, if_pos rfl, if_neg ht]; exact this
  · show (mget (setL _ _ _) q).length ≤ _
    rw [setL_get hr]
    split
    · have := vac_len (mget S.L k) m
      have := h.2 k
      omega
    · exact h.2 q
theorem vacS_ok (m : Int) : ∀ (l : List Bs) (S : Spc), Small S → RiseL S.L → Small (vacS m S l) ∧ RiseL (vacS m S l).L
  | [], S, h, hr => ⟨h, hr⟩
  | k :: l, S, h, hr => by
    obtain ⟨h1, h2⟩ := vacStep_ok h hr m k
    exact vacS_ok m l _ h1 h2
theorem vacS_snoc (m : Int) (S : Spc) (l : List Bs) {j : Nat} (h : j < l.length) : vacS m S (l.take (j + 1)) = vacStep m (vacS m S (l.take j)) (l.getD j []) := by
  rw [take_snoc [] h, vacS, List.foldl_append]; rfl
set_option maxHeartbeats 1000000 in
theorem vacuum_g {s : Nat} {S : Spc} {F : Fr} (hF : SpcF s S F) (hr : RiseL S.L) (hS : Small S) (mark : Int) : GCalls Try.prog 21 [.ptr s 0, .int .i64 mark] [F] (fun r L => r = .int .i64 (vacuumB S mark).2 ∧ ∃ F', L = [F'] ∧ SpcF s (vacuumB S mark).1 F') := by
  obtain ⟨c, M, K, hM, hsc, hs, hc, hK⟩ := hF.go
  refine f21.gcalls (by simp) fun n m ok => ?_
  unfold c21
  have fs := ok.at0 hs
  have stop : ∀ (e : Int), vacuumB S mark = (S, e) → ∃ r l', Av.Ends [F] n m (fun r L => r = .int .i64 (vacuumB S mark).2 ∧ ∃ F', L = [F'] ∧ SpcF s (vacuumB S mark).1 F') (.int .i64 e) ⟨lay [F], n, ks [F], m⟩ r l' := by
    intro e h
    rw [h]
    exact ⟨_, _, (On.refl ok).ends (VSub.refl _) ⟨rfl, F, rfl, hF⟩⟩
  by_cases p1 : mark < S.mark
  · have d1 := decide_eq_true p1
    have hres : vacuumB S mark = (S, 2) := by rw [vacuumB, if_pos (.inl p1)]
    repeat (first
      | ((first | apply Wp.seqItemsR | apply Wp.itemsR); (· simp only [go_sem, reduceIte, Nat.reduceEqDiff, Nat.reduceAdd, bx, ax, if_true, if_false, Nat.reduceMul, Nat.reduceLeDiff, fs, d1]; exact rfl))
      | (refine WpItems.nil ⟨?_, ?_⟩; (· first | trivial | simp [pairsQ, pairsOk, apart, ent0]))
      | ((refine WpItems.glook ?_ ?_ (made_r hF) (by first | exact fun j o h => h | exact ok.sub (by simp) | assumption) (fun ids => ?_); (· simp only [go_sem, reduceIte, Nat.reduceEqDiff, Nat.reduceAdd, bx]); (· simp only [go_sem, reduceIte, Nat.reduceEqDiff, Nat.reduceAdd, bx, List.map]; first | exact VSubs.refl _ | (repeat (first | exact VSubs.nil | refine VSubs.cons (by first | exact VSub.refl _ | assumption | exact VSub.cap | exact VSub.any _) ?_)))); apply WpItems.evR; (· simp only [go_sem, reduceIte, Nat.reduceEqDiff, Nat.reduceAdd, bx, ax, if_true, if_false, Nat.reduceMul, Nat.reduceLeDiff, fs, d1]; exact rfl))
      | (refine Wp.cond_true ?_ ?_; (· simp only [go_sem, reduceIte, Nat.reduceEqDiff, Nat.reduceAdd, bx, ax, if_true, if_false, Nat.reduceMul, Nat.reduceLeDiff, fs, d1]))
      | (refine Wp.cond_false ?_ ?_; (· simp only [go_sem, reduceIte, Nat.reduceEqDiff, Nat.reduceAdd, bx, ax, if_true, if_false, Nat.reduceMul, Nat.reduceLeDiff, fs, d1]))
      | refine Wp.skip ?_
      | refine Wp.label ?_
      | refine Wp.block ?_
      | refine Wp.exit ?_
      | refine Wp.seq ?_)
    exact Wp.ret ⟨trivial, _, rfl, stop 2 hres⟩
  · have d1 := decide_eq_false p1
    by_cases p2 : S.last < mark
    · have d2 := decide_eq_true p2
      have hres : vacuumB S mark = (S, 2) := by rw [vacuumB, if_pos (.inr p2)]
      repeat (first
        | ((first | apply Wp.seqItemsR | apply Wp.itemsR); (· simp only [go_sem, reduceIte, Nat.reduceEqDiff, Nat.reduceAdd, bx, ax, if_true, if_false, Nat.reduceMul, Nat.reduceLeDiff, fs, d1, d2]; exact rfl))
        | (refine WpItems.nil ⟨?_, ?_⟩; (· first | trivial | simp [pairsQ, pairsOk, apart, ent0]))
        | ((refine WpItems.glook ?_ ?_ (made_r hF) (by first | exact fun j o h => h | exact ok.sub (by simp) | assumption) (fun ids => ?_); (· simp only [go_sem, reduceIte, Nat.reduceEqDiff, Nat.reduceAdd, bx]); (· simp only [go_sem, reduceIte, Nat.reduceEqDiff, Nat.reduceAdd, bx, List.map]; first | exact VSubs.refl _ | (repeat (first | exact VSubs.nil | refine VSubs.cons (by first | exact VSub.refl _ | assumption | exact VSub.cap | exact VSub.any _) ?_)))); apply WpItems.evR; (· simp only [go_sem, reduceIte, Nat.reduceEqDiff, Nat.reduceAdd, bx, ax, if_true, if_false, Nat.reduceMul, Nat.reduceLeDiff, fs, d1, d2]; exact rfl))
        | (refine Wp.cond_true ?_ ?_; (· simp only [go_sem, reduceIte, Nat.reduceEqDiff, Nat.reduceAdd, bx, ax, if_true, if_false, Nat.reduceMul, Nat.reduceLeDiff, fs, d1, d2]))
        | (refine Wp.cond_false ?_ ?_; (· simp only [go_sem, reduceIte, Nat.reduceEqDiff, Nat.reduceAdd, bx, ax, if_true, if_false, Nat.reduceMul, Nat.reduceLeDiff, fs, d1, d2]))
        | refine Wp.skip ?_
        | refine Wp.label ?_
        | refine Wp.block ?_
        | refine Wp.exit ?_
        | refine Wp.seq ?_)
      exact Wp.ret ⟨trivial, _, rfl, stop 2 hres⟩
    · have d2 := decide_eq_false p2
      have hres : vacuumB S mark = ({ vacS mark S (keysOf S.L) with mark := mark }, 0) := by rw [vacuumB, if_neg (by omega)]
      have hkl : (keysOf S.L).length = S.L.length := by simp [keysOf]
      have hS1 := hS.1
      by_cases hz : keysOf S.L = []
      · rw [hz] at hK
        obtain ⟨objs, idk, ho, hi, hb⟩ := clone0 hK
        have g1 : decide ((0 : Int) < ((0 : Nat) : Int)) = false := rfl
        repeat (first
          | ((first | apply Wp.seqItemsR | apply Wp.itemsR); (· simp only [go_sem, reduceIte, Nat.reduceEqDiff, Nat.reduceAdd, bx, ax, if_true, if_false, Nat.reduceMul, Nat.reduceLeDiff, fs, d1, d2]; exact rfl))
          | (refine WpItems.nil ⟨?_, ?_⟩; (· first | trivial | simp [pairsQ, pairsOk, apart, ent0]))
          | ((refine WpItems.glook ?_ ?_ (made_r hF) (by first | exact fun j o h => h | exact ok.sub (by simp) | assumption) (fun ids => ?_); (· simp only [go_sem, reduceIte, Nat.reduceEqDiff, Nat.reduceAdd, bx]); (· simp only [go_sem, reduceIte, Nat.reduceEqDiff, Nat.reduceAdd, bx, List.map]; first | exact VSubs.refl _ | (repeat (first | exact VSubs.nil | refine VSubs.cons (by first | exact VSub.refl _ | assumption | exact VSub.cap | exact VSub.any _) ?_)))); apply WpItems.evR; (· simp only [go_sem, reduceIte, Nat.reduceEqDiff, Nat.reduceAdd, bx, ax, if_true, if_false, Nat.reduceMul, Nat.reduceLeDiff, fs, d1, d2]; exact rfl))
          | (refine Wp.cond_true ?_ ?_; (· simp only [go_sem, reduceIte, Nat.reduceEqDiff, Nat.reduceAdd, bx, ax, if_true, if_false, Nat.reduceMul, Nat.reduceLeDiff, fs, d1, d2]))
          | (refine Wp.cond_false ?_ ?_; (· simp only [go_sem, reduceIte, Nat.reduceEqDiff, Nat.reduceAdd, bx, ax, if_true, if_false, Nat.reduceMul, Nat.reduceLeDiff, fs, d1, d2]))
          | refine Wp.skip ?_
          | refine Wp.label ?_
          | refine Wp.block ?_
          | refine Wp.exit ?_
          | refine Wp.seq ?_)
        refine WpItems.rcall idk (by simp only [go_sem]) (by simp only [go_sem, reduceIte, Nat.reduceEqDiff, List.map]; exact VSubs.refl _) (fun id o h => ok.sub (by simp) id o (ho id o h)) hi hb ?_
        refine WpItems.evR (by simp only [go_sem, reduceIte, Nat.reduceEqDiff, Nat.reduceAdd, bx]; exact rfl) ?_
        refine WpItems.nil ⟨by trivial, ?_⟩
        repeat (first
          | ((first | apply Wp.seqItemsR | apply Wp.itemsR); (· simp only [go_sem, reduceIte, Nat.reduceEqDiff, Nat.reduceAdd, bx, ax, if_true, if_false, Nat.reduceMul, Nat.reduceLeDiff, g1]; exact rfl))
          | (refine WpItems.nil ⟨?_, ?_⟩; (· first | trivial | simp [pairsQ, pairsOk, apart, ent0]))
          | (refine Wp.cond_true ?_ ?_; (· simp only [go_sem, reduceIte, Nat.reduceEqDiff, Nat.reduceAdd, bx, ax, if_true, if_false, Nat.reduceMul, Nat.reduceLeDiff, g1]))
          | (refine Wp.cond_false ?_ ?_; (· simp only [go_sem, reduceIte, Nat.reduceEqDiff, Nat.reduceAdd, bx, ax, if_true, if_false, Nat.reduceMul, Nat.reduceLeDiff, g1]))
          | refine Wp.skip ?_
          | refine Wp.label ?_
          | refine Wp.block ?_
          | refine Wp.exit ?_
          | refine Wp.seq ?_)
        refine Wp.loopL (WpL.next ?_)
        repeat (first
          | ((first | apply Wp.seqItemsR | apply Wp.itemsR); (· simp only [go_sem, reduceIte, Nat.reduceEqDiff, Nat.reduceAdd, bx, ax, if_true, if_false, Nat.reduceMul, Nat.reduceLeDiff, g1, fs]; exact rfl))
          | (refine WpItems.nil ⟨?_, ?_⟩; (· first | trivial | simp [pairsQ, pairsOk, apart, ent0]))
          | (refine Wp.cond_true ?_ ?_; (· simp only [go_sem, reduceIte, Nat.reduceEqDiff, Nat.reduceAdd, bx, ax, if_true, if_false, Nat.reduceMul, Nat.reduceLeDiff, g1, fs]))
          | (refine Wp.cond_false ?_ ?_; (· simp only [go_sem, reduceIte, Nat.reduceEqDiff, Nat.reduceAdd, bx, ax, if_true, if_false, Nat.reduceMul, Nat.reduceLeDiff, g1, fs]))
          | refine Wp.skip ?_
          | refine Wp.label ?_
          | refine Wp.block ?_
          | refine Wp.exit ?_
          | refine Wp.seq ?_)
        have hz2 : vacS mark S (keysOf S.L) = S := by rw [hz]; rfl
        rw [hz2] at hres
        have on3 := On.put (o := .cells [K, .mp c, .int .i64 S.last, .int .i64 mark]) ok (by rw [hs]; rfl)
        have hF3 := hF.times hs S.last mark
        refine Wp.ret ⟨trivial, .int .i64 0, rfl, .int .i64 (vacuumB S mark).2, [⟨upd F.o s (some (.cells [K, .mp c, .int .i64 S.last, .int .i64 mark])), F.k⟩], ?_⟩
        rw [upd_lay]
        refine on3.ends (by rw [hres]; exact VSub.refl _) ⟨rfl, _, rfl, ?_⟩
        rw [hres]; exact hF3
      · rcases hK with ⟨rfl, h2⟩ | ⟨k, rfl, h2, h3, h4⟩
        · exact absurd h2 hz
        · repeat (first
            | ((first | apply Wp.seqItemsR | apply Wp.itemsR); (· simp only [go_sem, reduceIte, Nat.reduceEqDiff, Nat.reduceAdd, bx, ax, if_true, if_false, Nat.reduceMul, Nat.reduceLeDiff, fs, d1, d2]; exact rfl))
            | (refine WpItems.nil ⟨?_, ?_⟩; (· first | trivial | simp [pairsQ, pairsOk, apart, ent0]))
            | ((refine WpItems.glook ?_ ?_ (made_r hF) (by first | exact fun j o h => h | exact ok.sub (by simp) | assumption) (fun ids => ?_); (· simp only [go_sem, reduceIte, Nat.reduceEqDiff, Nat.reduceAdd, bx]); (· simp only [go_sem, reduceIte, Nat.reduceEqDiff, Nat.reduceAdd, bx, List.map]; first | exact VSubs.refl _ | (repeat (first | exact VSubs.nil | refine VSubs.cons (by first | exact VSub.refl _ | assumption | exact VSub.cap | exact VSub.any _) ?_)))); apply WpItems.evR; (· simp only [go_sem, reduceIte, Nat.reduceEqDiff, Nat.reduceAdd, bx, ax, if_true, if_false, Nat.reduceMul, Nat.reduceLeDiff, fs, d1, d2]; exact rfl))
            | (refine Wp.cond_true ?_ ?_; (· simp only [go_sem, reduceIte, Nat.reduceEqDiff, Nat.reduceAdd, bx, ax, if_true, if_false, Nat.reduceMul, Nat.reduceLeDiff, fs, d1, d2]))
            | (refine Wp.cond_false ?_ ?_; (· simp only [go_sem, reduceIte, Nat.reduceEqDiff, Nat.reduceAdd, bx, ax, if_true, if_false, Nat.reduceMul, Nat.reduceLeDiff, fs, d1, d2]))
            | refine Wp.skip ?_
            | refine Wp.label ?_
            | refine Wp.block ?_
            | refine Wp.exit ?_
            | refine Wp.seq ?_)
          have fk := ok.at0 h2
          have hkn := ok.lt (by simp) h2
          refine WpItems.acall (by simp only [go_sem]) (by simp only [go_sem, reduceIte, Nat.reduceEqDiff, List.map]; exact VSubs.refl _) (cloneK_look (keysOf S.L) hz (by omega) k n m hkn) (touch_gen _ _ _ (ids := [k]) ⟨fun j o h => ?_, fun t h => by simp [H.only] at h⟩ rfl rfl (fun id h => ?_) (by simp [H.only]) (by simp [H.only])) ?_
          · simp only [H.only, upd, none'] at h
            split at h
            · rename_i e; subst e; cases h; exact fk
            · cases h
          · simp only [H.only, upd, none'] at h
            split at h
            · rename_i e; simp [e]
            · cases h
          rw [patch_new fk]
          refine WpItems.evR (by simp only [go_sem, reduceIte, Nat.reduceEqDiff, Nat.reduceAdd, bx]; exact rfl) ?_
          refine WpItems.nil ⟨by trivial, ?_⟩
          refine Wp.block ?_
          have ok2 := ok.more (.cells (strs (keysOf S.L)))
          refine Wp.loopG (β := Nat) [0, 1, 30, 31] (by simp only [go_sem, reduceIte, Nat.reduceEqDiff, List.map]; exact rfl) (fun i => [(32, .int .i64 (i : Nat))]) (fun i L => i ≤ (keysOf S.L).length ∧ ∃ F', L = [ob n (.cells (strs (keysOf S.L))), F'] ∧ SpcF s (vacS mark S ((keysOf S.L).take i)) F') (fun i => (keysOf S.L).length - i) 0 ⟨Nat.zero_le _, F, rfl, hF⟩ ok2 (by simp only [AllSub, go_sem, reduceIte, Nat.reduceEqDiff]; exact ⟨VSub.refl _, trivial⟩) ?_
          rintro i L n1 T1 m1 on ⟨hi, F', rfl, hF'⟩
          obtain ⟨c', M', K', hM', hsc', hs', hc', hK'⟩ := hF'.go
          by_cases hi2 : i < (keysOf S.L).length
          · have g1 : decide (((i : Nat) : Int) < (((keysOf S.L).length : Nat) : Int)) = true := decide_eq_true (by omega)
            have h2 : (0 : Int) ≤ ((i : Nat) : Int) := by omega
            have h3 : ((i : Nat) : Int) < (((keysOf S.L).length : Nat) : Int) := by omega
            have e1 : IntKind.i64.wrap (((i : Nat) : Int) + 1) = ((i + 1 : Nat) : Int) := by rw [IntWalk.i64_in _ (by omega)]; omega
            have gk := lay_ob_at n (.cells (strs (keysOf S.L))) [F']
            have gs := on.ok.sub (F := F') (by simp) _ _ hs'
            have gc := on.ok.sub (F := F') (by simp) _ _ hc'
            have hget : (strs (keysOf S.L))[i]? = some (.str ((keysOf S.L).getD i [])) := by
              simp [strs, hi2]
            have hdo := vacS_snoc mark S (keysOf S.L) hi2
            obtain ⟨hS', hr'⟩ := vacS_ok mark ((keysOf S.L).take i) S hS hr
            generalize (keysOf S.L).getD i [] = q at *
            generalize vacS mark S ((keysOf S.L).take i) = S' at *
            have hv := vacuum_p (mget S'.L q) (by have := hS'.2 q; omega) mark
            have hlk := look_sub M' q
            rw [hM'.eq] at hlk
            unfold vAV at hlk
            have fit : VSubs [lookAV (.sl 3 [] (.exact 0)) false (mres M' q), .int .i64 mark] [.sl 3 ((mget S'.L q).map encV) .any, .int .i64 mark] := VSubs.cons hlk (VSubs.refl _)
            repeat (first
              | ((first | apply Wp.seqItemsR | apply Wp.itemsR); (· simp only [go_sem, reduceIte, Nat.reduceEqDiff, Nat.reduceAdd, bx, ax, if_true, if_false, Nat.reduceMul, Nat.reduceLeDiff, g1, h2, h3, gk, hget, gs, gc, mfind_enc, Nat.zero_add, Nat.mul_one]; exact rfl))
              | (refine WpItems.nil ⟨?_, ?_⟩; (· first | trivial | simp [pairsQ, pairsOk, apart, ent0]))
              | ((refine WpItems.pcall ?_ ?_ (hv) ?_; (· simp only [go_sem, reduceIte, Nat.reduceEqDiff, Nat.reduceAdd, bx]); (· simp only [go_sem, reduceIte, Nat.reduceEqDiff, Nat.reduceAdd, bx, List.map]; exact fit)); apply WpItems.evR; (· simp only [go_sem, reduceIte, Nat.reduceEqDiff, Nat.reduceAdd, bx, ax, if_true, if_false, Nat.reduceMul, Nat.reduceLeDiff, g1, h2, h3, gk, hget, gs, gc, mfind_enc, Nat.zero_add, Nat.mul_one]; exact rfl))
              | (refine Wp.cond_true ?_ ?_; (· simp only [go_sem, reduceIte, Nat.reduceEqDiff, Nat.reduceAdd, bx, ax, if_true, if_false, Nat.reduceMul, Nat.reduceLeDiff, g1, h2, h3, gk, hget, gs, gc, mfind_enc, Nat.zero_add, Nat.mul_one]))
              | (refine Wp.cond_false ?_ ?_; (· simp only [go_sem, reduceIte, Nat.reduceEqDiff, Nat.reduceAdd, bx, ax, if_true, if_false, Nat.reduceMul, Nat.reduceLeDiff, g1, h2, h3, gk, hget, gs, gc, mfind_enc, Nat.zero_add, Nat.mul_one]))
              | refine Wp.skip ?_
              | refine Wp.label ?_
              | refine Wp.block ?_
              | refine Wp.exit ?_
              | refine Wp.seq ?_)
            refine WpItems.gcall [_] [F'] [] (by simp only [go_sem]) (by simp only [go_sem, reduceIte, Nat.reduceEqDiff, List.map]; exact VSubs.refl _) (set_g hF' hr' hS'.1 q (vacB (mget S'.L q) mark)) on.ok fun r G' n' m' ids hq hn' hm' ok3 wi ki => ?_
            obtain ⟨rfl, F2, rfl, hF2⟩ := hq
            refine WpItems.evR (by simp only [go_sem, reduceIte, Nat.reduceEqDiff, Nat.reduceAdd, bx]; exact rfl) ?_
            refine WpItems.nil ⟨by trivial, ?_⟩
            repeat (first
              | ((first | apply Wp.seqItemsR | apply Wp.itemsR); (· simp only [go_sem, reduceIte, Nat.reduceEqDiff, Nat.reduceAdd, bx, ax, if_true, if_false, Nat.reduceMul, Nat.reduceLeDiff, e1]; exact rfl))
              | (refine WpItems.nil ⟨?_, ?_⟩; (· first | trivial | simp [pairsQ, pairsOk, apart, ent0]))
              | (refine Wp.cond_true ?_ ?_; (· simp only [go_sem, reduceIte, Nat.reduceEqDiff, Nat.reduceAdd, bx, ax, if_true, if_false, Nat.reduceMul, Nat.reduceLeDiff, e1]))
              | (refine Wp.cond_false ?_ ?_; (· simp only [go_sem, reduceIte, Nat.reduceEqDiff, Nat.reduceAdd, bx, ax, if_true, if_false, Nat.reduceMul, Nat.reduceLeDiff, e1]))
              | refine Wp.skip ?_
              | refine Wp.label ?_
              | refine Wp.block ?_
              | refine Wp.exit ?_
              | refine Wp.seq ?_)
            refine ⟨i + 1, [_, F2], n', _, m', ⟨hn', hm', ok3, wi, ki⟩, ⟨by omega, F2, rfl, ?_⟩, by omega, ?_⟩
            · rw [hdo]; exact hF2
            · refine StLe.tm (by simp only [AllSub, go_sem, reduceIte, Nat.reduceEqDiff, Nat.reduceAdd, bx]; and_intros <;> first | exact trivial | exact VSub.refl _ | exact VSub.any _ | (refine VSub.int ?_; omega))
          · have hie : i = (keysOf S.L).length := by omega
            subst hie
            have g1 : decide ((((keysOf S.L).length : Nat) : Int) < (((keysOf S.L).length : Nat) : Int)) = false := decide_eq_false (by omega)
            rw [List.take_length] at hF' hs'
            repeat (first
              | ((first | apply Wp.seqItemsR | apply Wp.itemsR); (· simp only [go_sem, reduceIte, Nat.reduceEqDiff, Nat.reduceAdd, bx, ax, if_true, if_false, Nat.reduceMul, Nat.reduceLeDiff, g1]; exact rfl))
              | (refine WpItems.nil ⟨?_, ?_⟩; (· first | trivial | simp [pairsQ, pairsOk, apart, ent0]))
              | (refine Wp.cond_true ?_ ?_; (· simp only [go_sem, reduceIte, Nat.reduceEqDiff, Nat.reduceAdd, bx, ax, if_true, if_false, Nat.reduceMul, Nat.reduceLeDiff, g1]))
              | (refine Wp.cond_false ?_ ?_; (· simp only [go_sem, reduceIte, Nat.reduceEqDiff, Nat.reduceAdd, bx, ax, if_true, if_false, Nat.reduceMul, Nat.reduceLeDiff, g1]))
              | refine Wp.skip ?_
              | refine Wp.label ?_
              | refine Wp.block ?_
              | refine Wp.exit ?_
              | refine Wp.seq ?_)
            refine Wp.le (StLe.of (fun i => VSub.refl _) (ole_drop_ob (Ok.alone on.ok)) (fun _ h => h) (Nat.le_refl _) (Nat.le_refl _)) ?_
            have on2 := On.under on
            have gs := on2.ok.at0 hs'
            repeat (first
              | ((first | apply Wp.seqItemsR | apply Wp.itemsR); (· simp only [go_sem, reduceIte, Nat.reduceEqDiff, Nat.reduceAdd, bx, ax, if_true, if_false, Nat.reduceMul, Nat.reduceLeDiff, gs]; exact rfl))
              | (refine WpItems.nil ⟨?_, ?_⟩; (· first | trivial | simp [pairsQ, pairsOk, apart, ent0]))
              | (refine Wp.cond_true ?_ ?_; (· simp only [go_sem, reduceIte, Nat.reduceEqDiff, Nat.reduceAdd, bx, ax, if_true, if_false, Nat.reduceMul, Nat.reduceLeDiff, gs]))
              | (refine Wp.cond_false ?_ ?_; (· simp only [go_sem, reduceIte, Nat.reduceEqDiff, Nat.reduceAdd, bx, ax, if_true, if_false, Nat.reduceMul, Nat.reduceLeDiff, gs]))
              | refine Wp.skip ?_
              | refine Wp.label ?_
              | refine Wp.block ?_
              | refine Wp.exit ?_
              | refine Wp.seq ?_)
            have on3 := on2.step (On.put (o := .cells [K', .mp c', .int .i64 (vacS mark S (keysOf S.L)).last, .int .i64 mark]) on2.ok (by rw [hs']; rfl))
            have hF3 := hF'.times hs' (vacS mark S (keysOf S.L)).last mark
            refine Wp.ret ⟨trivial, .int .i64 0, rfl, .int .i64 (vacuumB S mark).2, [⟨upd F'.o s (some (.cells [K', .mp c', .int .i64 (vacS mark S (keysOf S.L)).last, .int .i64 mark])), F'.k⟩], ?_⟩
            rw [upd_lay]
            refine on3.ends (by rw [hres]; exact VSub.refl _) ⟨rfl, _, rfl, ?_⟩
            rw [hres]; exact hF3
end Go.Proofs.Ytpehfflehebmbaa.Space
end
section
set_option linter.unusedSimpArgs false
set_option linter.unusedVariables false
set_option maxRecDepth 10000
namespace Go.Proofs.Ytpehfflehebmbaa.Space
open Go Go.Av Go.Proofs Go.Proofs.Ytpehfflehebmbaa.C Go.Proofs.Ytpehfflehebmbaa.Batch
instance : Inhabited It := ⟨([], [])⟩
def encI (p : It) : AV := .agg [.str p.1, vAV p.2]
theorem mget_at {L : List It} (h : RiseL L) {i : Nat} (hi : i < L.length) : mget L ((keysOf L).getD i []) = (L.getD i default).2 := by
  have hk : (keysOf L).length = L.length := by simp [keysOf]
  have key : ∀ (L : List It), (L.map (·.1)).Pairwise (fun a b => a ≠ b) → ∀ i (hi : i < L.length), mget L (L[i]).1 = (L[i]).2 := by
    intro L
    induction L with
    | nil => intro _ i hi; simp at hi
    | cons p L ih =>
      intro hp i hi
      rw [List.map_cons, List.pairwise_cons] at hp
      cases i with
      | zero => simp [mget]
      | succ i =>
        have hi' : i < L.length := by simpa using hi
        have : p.1 ≠ (L[i]).1 := hp.1 _ (List.mem_map.2 ⟨L[i], List.getElem_mem hi', rfl⟩)
        simp only [List.getElem_cons_succ, mget, if_neg this]
        exact ih hp.2 i hi'
  have hp : (L.map (·.1)).Pairwise (fun a b => a ≠ b) := List.Pairwise.imp (fun {a b} h e => by rw [e, less_irrefl] at h; cases h) h
  rw [getD_el (by omega), getD_el hi]
  have := key L hp i hi
  simpa [keysOf] using this
set_option maxHeartbeats 1000000 in
theorem items_g {s : Nat} {S : Spc} {F : Fr} (hF : SpcF s S F) (hr : RiseL S.L) (hS : Small S) : GCalls Try.prog 24 [.ptr s 0] [F] (fun r l => r = .sl 2 (S.L.map encI) .any ∧ l = [F]) := by
  obtain ⟨c, M, K, hM, hsc, hs, hc, hK⟩ := hF.go
  refine f24.gsame (by simp) fun n m ok => ?_
  unfold c24
  have ksF : ks [F] = [] := by simp [ks, hF.k]
  rw [ksF] at ok ⊢
  have fs := ok.at0 hs
  have fc := ok.at0 hc
  have hkl : (keysOf S.L).length = S.L.length := by simp [keysOf]
  have hS1 := hS.1
  rcases hK with ⟨rfl, h2⟩ | ⟨k, rfl, h2, h3, h4⟩
  · have g1 : decide ((0 : Int) < ((0 : Nat) : Int)) = false := rfl
    have hL : S.L = [] := by simpa [keysOf] using h2
    repeat (first
      | ((first | apply Wp.seqItemsR | apply Wp.itemsR); (· simp only [go_sem, reduceIte, Nat.reduceEqDiff, Nat.reduceAdd, bx, ax, if_true, if_false, Nat.reduceMul, Nat.reduceLeDiff, fs]; exact rfl))
      | (refine WpItems.nil ⟨?_, ?_⟩; (· first | trivial | simp [pairsQ, pairsOk, apart, ent0]))
      | ((refine WpItems.glook ?_ ?_ (made_r hF) (by first | exact fun j o h => h | exact ok.sub (by simp) | assumption) (fun ids => ?_); (· simp only [go_sem, reduceIte, Nat.reduceEqDiff, Nat.reduceAdd, bx]); (· simp only [go_sem, reduceIte, Nat.reduceEqDiff, Nat.reduceAdd, bx, List.map]; first | exact VSubs.refl _ | (repeat (first | exact VSubs.nil | refine VSubs.cons (by first | exact VSub.refl _ | assumption | exact VSub.cap | exact VSub.any _) ?_)))); apply WpItems.evR; (· simp only [go_sem, reduceIte, Nat.reduceEqDiff, Nat.reduceAdd, bx, ax, if_true, if_false, Nat.reduceMul, Nat.reduceLeDiff, fs]; exact rfl))
      | (refine Wp.cond_true ?_ ?_; (· simp only [go_sem, reduceIte, Nat.reduceEqDiff, Nat.reduceAdd, bx, ax, if_true, if_false, Nat.reduceMul, Nat.reduceLeDiff, fs]))
      | (refine Wp.cond_false ?_ ?_; (· simp only [go_sem, reduceIte, Nat.reduceEqDiff, Nat.reduceAdd, bx, ax, if_true, if_false, Nat.reduceMul, Nat.reduceLeDiff, fs]))
      | refine Wp.skip ?_
      | refine Wp.label ?_
      | refine Wp.block ?_
      | refine Wp.exit ?_
      | refine Wp.seq ?_)
    refine Wp.loopL (WpL.next ?_)
    repeat (first
      | ((first | apply Wp.seqItemsR | apply Wp.itemsR); (· simp only [go_sem, reduceIte, Nat.reduceEqDiff, Nat.reduceAdd, bx, ax, if_true, if_false, Nat.reduceMul, Nat.reduceLeDiff, g1]; exact rfl))
      | (refine WpItems.nil ⟨?_, ?_⟩; (· first | trivial | simp [pairsQ, pairsOk, apart, ent0]))
      | (refine Wp.cond_true ?_ ?_; (· simp only [go_sem, reduceIte, Nat.reduceEqDiff, Nat.reduceAdd, bx, ax, if_true, if_false, Nat.reduceMul, Nat.reduceLeDiff, g1]))
      | (refine Wp.cond_false ?_ ?_; (· simp only [go_sem, reduceIte, Nat.reduceEqDiff, Nat.reduceAdd, bx, ax, if_true, if_false, Nat.reduceMul, Nat.reduceLeDiff, g1]))
      | refine Wp.skip ?_
      | refine Wp.label ?_
      | refine Wp.block ?_
      | refine Wp.exit ?_
      | refine Wp.seq ?_)
    refine Wp.ret ⟨trivial, _, rfl, ?_, fun j hj => rfl, fun t ht => ht⟩
    rw [hL]; exact VSub.cap
  · have fk := ok.at0 h2
    repeat (first
      | ((first | apply Wp.seqItemsR | apply Wp.itemsR); (· simp only [go_sem, reduceIte, Nat.reduceEqDiff, Nat.reduceAdd, bx, ax, if_true, if_false, Nat.reduceMul, Nat.reduceLeDiff, fs]; exact rfl))
      | (refine WpItems.nil ⟨?_, ?_⟩; (· first | trivial | simp [pairsQ, pairsOk, apart, ent0]))
      | ((refine WpItems.glook ?_ ?_ (made_r hF) (by first | exact fun j o h => h | exact ok.sub (by simp) | assumption) (fun ids => ?_); (· simp only [go_sem, reduceIte, Nat.reduceEqDiff, Nat.reduceAdd, bx]); (· simp only [go_sem, reduceIte, Nat.reduceEqDiff, Nat.reduceAdd, bx, List.map]; first | exact VSubs.refl _ | (repeat (first | exact VSubs.nil | refine VSubs.cons (by first | exact VSub.refl _ | assumption | exact VSub.cap | exact VSub.any _) ?_)))); apply WpItems.evR; (· simp only [go_sem, reduceIte, Nat.reduceEqDiff, Nat.reduceAdd, bx, ax, if_true, if_false, Nat.reduceMul, Nat.reduceLeDiff, fs]; exact rfl))
      | (refine Wp.cond_true ?_ ?_; (· simp only [go_sem, reduceIte, Nat.reduceEqDiff, Nat.reduceAdd, bx, ax, if_true, if_false, Nat.reduceMul, Nat.reduceLeDiff, fs]))
      | (refine Wp.cond_false ?_ ?_; (· simp only [go_sem, reduceIte, Nat.reduceEqDiff, Nat.reduceAdd, bx, ax, if_true, if_false, Nat.reduceMul, Nat.reduceLeDiff, fs]))
      | refine Wp.skip ?_
      | refine Wp.label ?_
      | refine Wp.block ?_
      | refine Wp.exit ?_
      | refine Wp.seq ?_)
    refine Wp.le (StLe.tok _ _) ?_
    refine Wp.loopTok (β := Nat) [0, 12, 13] (by simp only [go_sem, reduceIte, Nat.reduceEqDiff, List.map]; exact rfl) (fun j tk => [(14, .int .i64 (j : Nat)), (3, .sl 2 ((S.L.take j).map encI) (.own tk))]) (fun j => j ≤ S.L.length) (fun j => S.L.length - j) 0 m (Nat.zero_le _) rfl ?_ ?_
    · simp only [AllSub, go_sem, reduceIte, Nat.reduceEqDiff]
      exact ⟨VSub.refl _, VSub.own_of rfl, trivial⟩
    intro j tk m1 hj
    by_cases hj2 : j < S.L.length
    · have g1 : decide (((j : Nat) : Int) < (((keysOf S.L).length : Nat) : Int)) = true := decide_eq_true (by omega)
      have h2 : (0 : Int) ≤ ((j : Nat) : Int) := by omega
      have h3 : ((j : Nat) : Int) < (((keysOf S.L).length : Nat) : Int) := by omega
      have e1 : IntKind.i64.wrap (((j : Nat) : Int) + 1) = ((j + 1 : Nat) : Int) := by rw [IntWalk.i64_in _ (by omega)]; omega
      have hget : (strs (keysOf S.L))[j]? = some (.str ((keysOf S.L).getD j [])) := by
        have : j < (keysOf S.L).length := by omega
        simp [strs, this]
      have hmg := mget_at hr hj2
      have hkj : (keysOf S.L).getD j [] = (S.L.getD j default).1 := by
        rw [getD_el (by omega), getD_el hj2]; simp [keysOf]
      have hstep : (S.L.take (j + 1)).map encI = (S.L.take j).map encI ++ [encI (S.L.getD j default)] := by
        rw [take_snoc default hj2, List.map_append]; rfl
      have hlk := look_sub M ((keysOf S.L).getD j [])
      rw [hM.eq, hmg] at hlk
      have hlen := hS.2 ((keysOf S.L).getD j [])
      rw [hmg] at hlen
      rw [hkj] at hlk hget
      generalize S.L.getD j default = x at *
      have hcl := clone_p x.2 (by omega)
      unfold vAV at hlk
      have fit : VSubs [lookAV (.sl 3 [] (.exact 0)) false (mres M x.1)] [.sl 3 (x.2.map encV) .any] := VSubs.cons hlk VSubs.nil
      have hm : ((S.L.take j).map encI).length = j := by simp; omega
      have rm1 : (j + 1) * 40 ≤ 140737488355328 := by omega
      have rm2 : j + 1 < 4611686018427387904 := by omega
      repeat (first
        | ((first | apply Wp.seqItemsR | apply Wp.itemsR); (· simp only [go_sem, reduceIte, Nat.reduceEqDiff, Nat.reduceAdd, bx, ax, if_true, if_false, Nat.reduceMul, Nat.reduceLeDiff, g1, h2, h3, fk, hget, fs, fc, mfind_enc, Nat.zero_add, Nat.mul_one, hm, rm1, rm2, List.mem_singleton, List.length_cons, List.length_nil, e1]; exact rfl))
        | (refine WpItems.nil ⟨?_, ?_⟩; (· first | trivial | simp [pairsQ, pairsOk, apart, ent0]))
        | ((refine WpItems.pcall ?_ ?_ (hcl) ?_; (· simp only [go_sem, reduceIte, Nat.reduceEqDiff, Nat.reduceAdd, bx]); (· simp only [go_sem, reduceIte, Nat.reduceEqDiff, Nat.reduceAdd, bx, List.map]; exact fit)); apply WpItems.evR; (· simp only [go_sem, reduceIte, Nat.reduceEqDiff, Nat.reduceAdd, bx, ax, if_true, if_false, Nat.reduceMul, Nat.reduceLeDiff, g1, h2, h3, fk, hget, fs, fc, mfind_enc, Nat.zero_add, Nat.mul_one, hm, rm1, rm2, List.mem_singleton, List.length_cons, List.length_nil, e1]; exact rfl))
        | (refine Wp.cond_true ?_ ?_; (· simp only [go_sem, reduceIte, Nat.reduceEqDiff, Nat.reduceAdd, bx, ax, if_true, if_false, Nat.reduceMul, Nat.reduceLeDiff, g1, h2, h3, fk, hget, fs, fc, mfind_enc, Nat.zero_add, Nat.mul_one, hm, rm1, rm2, List.mem_singleton, List.length_cons, List.length_nil, e1]))
        | (refine Wp.cond_false ?_ ?_; (· simp only [go_sem, reduceIte, Nat.reduceEqDiff, Nat.reduceAdd, bx, ax, if_true, if_false, Nat.reduceMul, Nat.reduceLeDiff, g1, h2, h3, fk, hget, fs, fc, mfind_enc, Nat.zero_add, Nat.mul_one, hm, rm1, rm2, List.mem_singleton, List.length_cons, List.length_nil, e1]))
        | refine Wp.skip ?_
        | refine Wp.label ?_
        | refine Wp.block ?_
        | refine Wp.exit ?_
        | refine Wp.seq ?_)
      refine ⟨j + 1, m1, m1 + 1, by omega, by omega, ?_⟩
      rw [hstep]
      refine StLe.tm (by simp only [AllSub, go_sem, reduceIte, Nat.reduceEqDiff, Nat.reduceAdd, bx]; and_intros <;> first | exact trivial | exact VSub.refl _ | exact VSub.any _ | (refine VSub.int ?_; omega))
    · have hje : j = S.L.length := by omega
      subst hje
      rw [hkl]
      have g1 : decide (((S.L.length : Nat) : Int) < ((S.L.length : Nat) : Int)) = false := decide_eq_false (by omega)
      repeat (first
        | ((first | apply Wp.seqItemsR | apply Wp.itemsR); (· simp only [go_sem, reduceIte, Nat.reduceEqDiff, Nat.reduceAdd, bx, ax, if_true, if_false, Nat.reduceMul, Nat.reduceLeDiff, g1]; exact rfl))
        | (refine WpItems.nil ⟨?_, ?_⟩; (· first | trivial | simp [pairsQ, pairsOk, apart, ent0]))
        | (refine Wp.cond_true ?_ ?_; (· simp only [go_sem, reduceIte, Nat.reduceEqDiff, Nat.reduceAdd, bx, ax, if_true, if_false, Nat.reduceMul, Nat.reduceLeDiff, g1]))
        | (refine Wp.cond_false ?_ ?_; (· simp only [go_sem, reduceIte, Nat.reduceEqDiff, Nat.reduceAdd, bx, ax, if_true, if_false, Nat.reduceMul, Nat.reduceLeDiff, g1]))
        | refine Wp.skip ?_
        | refine Wp.label ?_
        | refine Wp.block ?_
        | refine Wp.exit ?_
        | refine Wp.seq ?_)
      refine Wp.ret ⟨trivial, _, rfl, ?_, fun j hj => rfl, fun t ht => by simp at ht⟩
      rw [List.take_length]; exact VSub.cap
end Go.Proofs.Ytpehfflehebmbaa.Space
end
section
set_option linter.unusedSimpArgs false
set_option linter.unusedVariables false
set_option maxRecDepth 10000
namespace Go.Proofs.Ytpehfflehebmbaa.Space
open Go Go.Av Go.Proofs Go.Proofs.Ytpehfflehebmbaa.C Go.Proofs.Ytpehfflehebmbaa.Batch
def layL (A : List It) (l : List It) : List It := l.foldl (fun A p => setL A p.1 p.2) A
theorem layL_snoc (A l : List It) {j : Nat} (h : j < l.length) : layL A (l.take (j + 1)) = setL (layL A (l.take j)) (l.getD j default).1 (l.getD j default).2 := by
  rw [take_snoc default h, layL, List.foldl_append]; rfl
theorem layL_ok : ∀ (l A : List It), RiseL A → RiseL (layL A l) ∧ (layL A l).length ≤ A.length + l.length
  | [], A, h => ⟨h, Nat.le_refl _⟩
  | p :: l, A, h => by
    obtain ⟨h1, h2⟩ := layL_ok l (setL A p.1 p.2) (setL_rise h _ _)
    have := setL_len A p.1 p.2
    refine ⟨h1, ?_⟩
    show (layL (setL A p.1 p.2) l).length ≤ _
    simp only [List.length_cons]; omega
end Go.Proofs.Ytpehfflehebmbaa.Space
end
section
set_option linter.unusedSimpArgs false
set_option linter.unusedVariables false
set_option maxRecDepth 10000
namespace Go.Proofs.Ytpehfflehebmbaa.Space
open Go Go.Av Go.Proofs Go.Proofs.Ytpehfflehebmbaa.C Go.Proofs.Ytpehfflehebmbaa.Batch
def mayB (x : It) (ahead : Bs) (first : Bool) (last : Int) : Bool := decide ((x.1.length : Int) ≤ 128) && (first || Op.bytesLess ahead x.1) && decide (0 < x.2.length) && chB x.2 && decide ((x.2.getD 0 default).t ≤ last)
theorem may_p (x : It) (hl : x.2.length ≤ 1000000) (ahead : Bs) (first : Bool) (last : Int) : PCalls Try.prog 65 [encI x, .str ahead, .bool first, .int .i64 last] (.bool (mayB x ahead first last)) := by
  refine f65.pcalls0 (by simp) (by simp [allPure, isPure, capPure, encI, vAV, vers_pure]) rfl ?_
  unfold c65
  obtain ⟨q, vs⟩ := x
  have hck := check_p vs (by simp only at hl; omega)
  have i0 : (0 : Int) ≤ 0 := by omega
  have t0 : Int.toNat 0 = 0 := rfl
  by_cases h1 : (q.length : Int) ≤ 128
  · have d1 := decide_eq_true h1
    cases h2 : (first || Op.bytesLess ahead q) with
    | false =>
      rw [Bool.or_eq_false_iff] at h2
      repeat' (first
        | (refine WpItems.nil ⟨?_, ?_⟩; (· first | trivial | simp [pairsQ, pairsOk, apart, ent0]))
        | (apply WpItems.evU; (· simp only [go_sem, reduceIte, Nat.reduceEqDiff, Nat.reduceAdd, bx, ax, if_true, if_false, Nat.reduceMul, Nat.reduceLeDiff, encI, vAV, d1, h2.1, h2.2, List.length_map]; exact rfl); (· simp only [go_sem, reduceIte, Nat.reduceEqDiff, Nat.reduceAdd, bx, ax, if_true, if_false, Nat.reduceMul, Nat.reduceLeDiff, encI, vAV, d1, h2.1, h2.2, List.length_map]; exact rfl))
        | (apply WpItems.part 1; (· simp only [go_sem, reduceIte, Nat.reduceEqDiff, Nat.reduceAdd, bx, ax, if_true, if_false, Nat.reduceMul, Nat.reduceLeDiff, encI, vAV, d1, h2.1, h2.2, List.length_map]; exact rfl); (try simp only [List.drop_succ_cons, List.drop_zero, List.drop_nil]))
        | (refine WpItems.gsplit_dec (p := ?_) ?_ (fun hc => ?_) (fun hc => ?_); rotate_left; (· simp only [go_sem, reduceIte, Nat.reduceEqDiff, Nat.reduceAdd, bx, ax, if_true, if_false, Nat.reduceMul, Nat.reduceLeDiff, encI, vAV, d1, h2.1, h2.2, List.length_map]; exact rfl))
        | (refine WpItems.gsplit_ndec (p := ?_) ?_ (fun hc => ?_) (fun hc => ?_); rotate_left; (· simp only [go_sem, reduceIte, Nat.reduceEqDiff, Nat.reduceAdd, bx, ax, if_true, if_false, Nat.reduceMul, Nat.reduceLeDiff, encI, vAV, d1, h2.1, h2.2, List.length_map]; exact rfl))
        | (refine WpItems.gsplit (b := ?_) ?_ (fun hc => ?_) (fun hc => ?_); rotate_left; (· simp only [go_sem, reduceIte, Nat.reduceEqDiff, Nat.reduceAdd, bx, ax, if_true, if_false, Nat.reduceMul, Nat.reduceLeDiff, encI, vAV, d1, h2.1, h2.2, List.length_map]; exact rfl))
        | refine Wp.seqRegS ?_
        | refine Wp.regS ?_
        | (refine Wp.cond_true ?_ ?_; (· simp only [go_sem, reduceIte, Nat.reduceEqDiff, Nat.reduceAdd, bx, ax, if_true, if_false, Nat.reduceMul, Nat.reduceLeDiff, encI, vAV, d1, h2.1, h2.2, List.length_map]))
        | (refine Wp.cond_false ?_ ?_; (· simp only [go_sem, reduceIte, Nat.reduceEqDiff, Nat.reduceAdd, bx, ax, if_true, if_false, Nat.reduceMul, Nat.reduceLeDiff, encI, vAV, d1, h2.1, h2.2, List.length_map]))
        | (refine Wp.cond_dec (p := ?_) ?_ (fun hc => ?_) (fun hc => ?_); rotate_left; (· simp only [go_sem, reduceIte, Nat.reduceEqDiff, Nat.reduceAdd, bx, ax, if_true, if_false, Nat.reduceMul, Nat.reduceLeDiff, encI, vAV, d1, h2.1, h2.2, List.length_map]; exact rfl))
        | (refine Wp.cond_ndec (p := ?_) ?_ (fun hc => ?_) (fun hc => ?_); rotate_left; (· simp only [go_sem, reduceIte, Nat.reduceEqDiff, Nat.reduceAdd, bx, ax, if_true, if_false, Nat.reduceMul, Nat.reduceLeDiff, encI, vAV, d1, h2.1, h2.2, List.length_map]; exact rfl))
        | (refine Wp.cond_split (b := ?_) ?_ (fun hc => ?_) (fun hc => ?_); rotate_left; (· simp only [go_sem, reduceIte, Nat.reduceEqDiff, Nat.reduceAdd, bx, ax, if_true, if_false, Nat.reduceMul, Nat.reduceLeDiff, encI, vAV, d1, h2.1, h2.2, List.length_map]; exact rfl))
        | refine Wp.skip ?_
        | refine Wp.label ?_
        | refine Wp.block ?_
        | refine Wp.exit ?_
        | refine Wp.seq ?_)
      refine Wp.ret ⟨trivial, _, rfl, ?_⟩
      simp only [go_sem, reduceIte, Nat.reduceEqDiff, Nat.reduceAdd, bx]
      simp [mayB, h2]; exact VSub.refl _
    | true =>
      cases first with
      | true =>
        cases vs with
        | nil =>
          have e1 : decide ((0 : Int) < ((0 : Nat) : Int)) = false := rfl
          repeat' (first
            | (refine WpItems.nil ⟨?_, ?_⟩; (· first | trivial | simp [pairsQ, pairsOk, apart, ent0]))
            | (apply WpItems.evU; (· simp only [go_sem, reduceIte, Nat.reduceEqDiff, Nat.reduceAdd, bx, ax, if_true, if_false, Nat.reduceMul, Nat.reduceLeDiff, encI, vAV, d1, Bool.true_or, List.map_nil, List.length_nil, e1, List.length_map]; exact rfl); (· simp only [go_sem, reduceIte, Nat.reduceEqDiff, Nat.reduceAdd, bx, ax, if_true, if_false, Nat.reduceMul, Nat.reduceLeDiff, encI, vAV, d1, Bool.true_or, List.map_nil, List.length_nil, e1, List.length_map]; exact rfl))
            | (apply WpItems.part 1; (· simp only [go_sem, reduceIte, Nat.reduceEqDiff, Nat.reduceAdd, bx, ax, if_true, if_false, Nat.reduceMul, Nat.reduceLeDiff, encI, vAV, d1, Bool.true_or, List.map_nil, List.length_nil, e1, List.length_map]; exact rfl); (try simp only [List.drop_succ_cons, List.drop_zero, List.drop_nil]))
            | (refine WpItems.gsplit_dec (p := ?_) ?_ (fun hc => ?_) (fun hc => ?_); rotate_left; (· simp only [go_sem, reduceIte, Nat.reduceEqDiff, Nat.reduceAdd, bx, ax, if_true, if_false, Nat.reduceMul, Nat.reduceLeDiff, encI, vAV, d1, Bool.true_or, List.map_nil, List.length_nil, e1, List.length_map]; exact rfl))
            | (refine WpItems.gsplit_ndec (p := ?_) ?_ (fun hc => ?_) (fun hc => ?_); rotate_left; (· simp only [go_sem, reduceIte, Nat.reduceEqDiff, Nat.reduceAdd, bx, ax, if_true, if_false, Nat.reduceMul, Nat.reduceLeDiff, encI, vAV, d1, Bool.true_or, List.map_nil, List.length_nil, e1, List.length_map]; exact rfl))
            | (refine WpItems.gsplit (b := ?_) ?_ (fun hc => ?_) (fun hc => ?_); rotate_left; (· simp only [go_sem, reduceIte, Nat.reduceEqDiff, Nat.reduceAdd, bx, ax, if_true, if_false, Nat.reduceMul, Nat.reduceLeDiff, encI, vAV, d1, Bool.true_or, List.map_nil, List.length_nil, e1, List.length_map]; exact rfl))
            | refine Wp.seqRegS ?_
            | refine Wp.regS ?_
            | (refine Wp.cond_true ?_ ?_; (· simp only [go_sem, reduceIte, Nat.reduceEqDiff, Nat.reduceAdd, bx, ax, if_true, if_false, Nat.reduceMul, Nat.reduceLeDiff, encI, vAV, d1, Bool.true_or, List.map_nil, List.length_nil, e1, List.length_map]))
            | (refine Wp.cond_false ?_ ?_; (· simp only [go_sem, reduceIte, Nat.reduceEqDiff, Nat.reduceAdd, bx, ax, if_true, if_false, Nat.reduceMul, Nat.reduceLeDiff, encI, vAV, d1, Bool.true_or, List.map_nil, List.length_nil, e1, List.length_map]))
            | (refine Wp.cond_dec (p := ?_) ?_ (fun hc => ?_) (fun hc => ?_); rotate_left; (· simp only [go_sem, reduceIte, Nat.reduceEqDiff, Nat.reduceAdd, bx, ax, if_true, if_false, Nat.reduceMul, Nat.reduceLeDiff, encI, vAV, d1, Bool.true_or, List.map_nil, List.length_nil, e1, List.length_map]; exact rfl))
            | (refine Wp.cond_ndec (p := ?_) ?_ (fun hc => ?_) (fun hc => ?_); rotate_left; (· simp only [go_sem, reduceIte, Nat.reduceEqDiff, Nat.reduceAdd, bx, ax, if_true, if_false, Nat.reduceMul, Nat.reduceLeDiff, encI, vAV, d1, Bool.true_or, List.map_nil, List.length_nil, e1, List.length_map]; exact rfl))
            | (refine Wp.cond_split (b := ?_) ?_ (fun hc => ?_) (fun hc => ?_); rotate_left; (· simp only [go_sem, reduceIte, Nat.reduceEqDiff, Nat.reduceAdd, bx, ax, if_true, if_false, Nat.reduceMul, Nat.reduceLeDiff, encI, vAV, d1, Bool.true_or, List.map_nil, List.length_nil, e1, List.length_map]; exact rfl))
            | refine Wp.skip ?_
            | refine Wp.label ?_
            | refine Wp.block ?_
            | refine Wp.exit ?_
            | refine Wp.seq ?_)
          refine Wp.ret ⟨trivial, _, rfl, ?_⟩
          simp only [go_sem, reduceIte, Nat.reduceEqDiff, Nat.reduceAdd, bx]
          simp [mayB]; exact VSub.refl _
        | cons v l =>
          have e1 : decide ((0 : Int) < ((l.length + 1 : Nat) : Int)) = true := decide_eq_true (by omega)
          have e3 : (0 : Int) < ((l.length + 1 : Nat) : Int) := by omega
          cases h3 : chB (v :: l) with
          | false =>
            have e2 : decide ((4 : Int) = 0) = false := rfl
            rw [h3] at hck
            repeat' (first
              | (refine WpItems.nil ⟨?_, ?_⟩; (· first | trivial | simp [pairsQ, pairsOk, apart, ent0]))
              | (apply WpItems.evU; (· simp only [go_sem, reduceIte, Nat.reduceEqDiff, Nat.reduceAdd, bx, ax, if_true, if_false, Nat.reduceMul, Nat.reduceLeDiff, encI, vAV, d1, Bool.true_or, List.length_map, List.length_cons, e1, e2, Bool.false_eq_true, if_false, List.length_map]; exact rfl); (· simp only [go_sem, reduceIte, Nat.reduceEqDiff, Nat.reduceAdd, bx, ax, if_true, if_false, Nat.reduceMul, Nat.reduceLeDiff, encI, vAV, d1, Bool.true_or, List.length_map, List.length_cons, e1, e2, Bool.false_eq_true, if_false, List.length_map]; exact rfl))
              | (apply WpItems.part 1; (· simp only [go_sem, reduceIte, Nat.reduceEqDiff, Nat.reduceAdd, bx, ax, if_true, if_false, Nat.reduceMul, Nat.reduceLeDiff, encI, vAV, d1, Bool.true_or, List.length_map, List.length_cons, e1, e2, Bool.false_eq_true, if_false, List.length_map]; exact rfl); (try simp only [List.drop_succ_cons, List.drop_zero, List.drop_nil]))
              | (refine WpItems.pcall ?_ ?_ (hck) ?_; (· simp only [go_sem, reduceIte, Nat.reduceEqDiff, Nat.reduceAdd, bx]); (· simp only [go_sem, reduceIte, Nat.reduceEqDiff, Nat.reduceAdd, bx, List.map, ax, if_true, if_false, Nat.reduceMul, Nat.reduceLeDiff, encI, vAV, d1, Bool.true_or, List.length_map, List.length_cons, e1, e2, Bool.false_eq_true, if_false, List.length_map]; first | exact VSubs.refl _ | (repeat (first | exact VSubs.nil | refine VSubs.cons (by first | exact VSub.refl _ | assumption | exact VSub.cap | exact VSub.any _) ?_))))
              | (refine WpItems.gsplit_dec (p := ?_) ?_ (fun hc => ?_) (fun hc => ?_); rotate_left; (· simp only [go_sem, reduceIte, Nat.reduceEqDiff, Nat.reduceAdd, bx, ax, if_true, if_false, Nat.reduceMul, Nat.reduceLeDiff, encI, vAV, d1, Bool.true_or, List.length_map, List.length_cons, e1, e2, Bool.false_eq_true, if_false, List.length_map]; exact rfl))
              | (refine WpItems.gsplit_ndec (p := ?_) ?_ (fun hc => ?_) (fun hc => ?_); rotate_left; (· simp only [go_sem, reduceIte, Nat.reduceEqDiff, Nat.reduceAdd, bx, ax, if_true, if_false, Nat.reduceMul, Nat.reduceLeDiff, encI, vAV, d1, Bool.true_or, List.length_map, List.length_cons, e1, e2, Bool.false_eq_true, if_false, List.length_map]; exact rfl))
              | (refine WpItems.gsplit (b := ?_) ?_ (fun hc => ?_) (fun hc => ?_); rotate_left; (· simp only [go_sem, reduceIte, Nat.reduceEqDiff, Nat.reduceAdd, bx, ax, if_true, if_false, Nat.reduceMul, Nat.reduceLeDiff, encI, vAV, d1, Bool.true_or, List.length_map, List.length_cons, e1, e2, Bool.false_eq_true, if_false, List.length_map]; exact rfl))
              | refine Wp.seqRegS ?_
              | refine Wp.regS ?_
              | (refine Wp.cond_true ?_ ?_; (· simp only [go_sem, reduceIte, Nat.reduceEqDiff, Nat.reduceAdd, bx, ax, if_true, if_false, Nat.reduceMul, Nat.reduceLeDiff, encI, vAV, d1, Bool.true_or, List.length_map, List.length_cons, e1, e2, Bool.false_eq_true, if_false, List.length_map]))
              | (refine Wp.cond_false ?_ ?_; (· simp only [go_sem, reduceIte, Nat.reduceEqDiff, Nat.reduceAdd, bx, ax, if_true, if_false, Nat.reduceMul, Nat.reduceLeDiff, encI, vAV, d1, Bool.true_or, List.length_map, List.length_cons, e1, e2, Bool.false_eq_true, if_false, List.length_map]))
              | (refine Wp.cond_dec (p := ?_) ?_ (fun hc => ?_) (fun hc => ?_); rotate_left; (· simp only [go_sem, reduceIte, Nat.reduceEqDiff, Nat.reduceAdd, bx, ax, if_true, if_false, Nat.reduceMul, Nat.reduceLeDiff, encI, vAV, d1, Bool.true_or, List.length_map, List.length_cons, e1, e2, Bool.false_eq_true, if_false, List.length_map]; exact rfl))
              | (refine Wp.cond_ndec (p := ?_) ?_ (fun hc => ?_) (fun hc => ?_); rotate_left; (· simp only [go_sem, reduceIte, Nat.reduceEqDiff, Nat.reduceAdd, bx, ax, if_true, if_false, Nat.reduceMul, Nat.reduceLeDiff, encI, vAV, d1, Bool.true_or, List.length_map, List.length_cons, e1, e2, Bool.false_eq_true, if_false, List.length_map]; exact rfl))
              | (refine Wp.cond_split (b := ?_) ?_ (fun hc => ?_) (fun hc => ?_); rotate_left; (· simp only [go_sem, reduceIte, Nat.reduceEqDiff, Nat.reduceAdd, bx, ax, if_true, if_false, Nat.reduceMul, Nat.reduceLeDiff, encI, vAV, d1, Bool.true_or, List.length_map, List.length_cons, e1, e2, Bool.false_eq_true, if_false, List.length_map]; exact rfl))
              | refine Wp.skip ?_
              | refine Wp.label ?_
              | refine Wp.block ?_
              | refine Wp.exit ?_
              | refine Wp.seq ?_)
            refine Wp.ret ⟨trivial, _, rfl, ?_⟩
            simp only [go_sem, reduceIte, Nat.reduceEqDiff, Nat.reduceAdd, bx]
            simp [mayB, h3]; exact VSub.refl _
          | true =>
            have e2 : decide ((0 : Int) = 0) = true := rfl
            rw [h3] at hck
            repeat' (first
              | (refine WpItems.nil ⟨?_, ?_⟩; (· first | trivial | simp [pairsQ, pairsOk, apart, ent0]))
              | (apply WpItems.evU; (· simp only [go_sem, reduceIte, Nat.reduceEqDiff, Nat.reduceAdd, bx, ax, if_true, if_false, Nat.reduceMul, Nat.reduceLeDiff, encI, vAV, d1, Bool.true_or, List.length_map, List.length_cons, e1, e2, e3, i0, t0, List.map_cons, List.getD_cons_zero, encV, if_true, List.length_map]; exact rfl); (· simp only [go_sem, reduceIte, Nat.reduceEqDiff, Nat.reduceAdd, bx, ax, if_true, if_false, Nat.reduceMul, Nat.reduceLeDiff, encI, vAV, d1, Bool.true_or, List.length_map, List.length_cons, e1, e2, e3, i0, t0, List.map_cons, List.getD_cons_zero, encV, if_true, List.length_map]; exact rfl))
              | (apply WpItems.part 1; (· simp only [go_sem, reduceIte, Nat.reduceEqDiff, Nat.reduceAdd, bx, ax, if_true, if_false, Nat.reduceMul, Nat.reduceLeDiff, encI, vAV, d1, Bool.true_or, List.length_map, List.length_cons, e1, e2, e3, i0, t0, List.map_cons, List.getD_cons_zero, encV, if_true, List.length_map]; exact rfl); (try simp only [List.drop_succ_cons, List.drop_zero, List.drop_nil]))
              | (refine WpItems.pcall ?_ ?_ (hck) ?_; (· simp only [go_sem, reduceIte, Nat.reduceEqDiff, Nat.reduceAdd, bx]); (· simp only [go_sem, reduceIte, Nat.reduceEqDiff, Nat.reduceAdd, bx, List.map, ax, if_true, if_false, Nat.reduceMul, Nat.reduceLeDiff, encI, vAV, d1, Bool.true_or, List.length_map, List.length_cons, e1, e2, e3, i0, t0, List.map_cons, List.getD_cons_zero, encV, if_true, List.length_map]; first | exact VSubs.refl _ | (repeat (first | exact VSubs.nil | refine VSubs.cons (by first | exact VSub.refl _ | assumption | exact VSub.cap | exact VSub.any _) ?_))))
              | (refine WpItems.gsplit_dec (p := ?_) ?_ (fun hc => ?_) (fun hc => ?_); rotate_left; (· simp only [go_sem, reduceIte, Nat.reduceEqDiff, Nat.reduceAdd, bx, ax, if_true, if_false, Nat.reduceMul, Nat.reduceLeDiff, encI, vAV, d1, Bool.true_or, List.length_map, List.length_cons, e1, e2, e3, i0, t0, List.map_cons, List.getD_cons_zero, encV, if_true, List.length_map]; exact rfl))
              | (refine WpItems.gsplit_ndec (p := ?_) ?_ (fun hc => ?_) (fun hc => ?_); rotate_left; (· simp only [go_sem, reduceIte, Nat.reduceEqDiff, Nat.reduceAdd, bx, ax, if_true, if_false, Nat.reduceMul, Nat.reduceLeDiff, encI, vAV, d1, Bool.true_or, List.length_map, List.length_cons, e1, e2, e3, i0, t0, List.map_cons, List.getD_cons_zero, encV, if_true, List.length_map]; exact rfl))
              | (refine WpItems.gsplit (b := ?_) ?_ (fun hc => ?_) (fun hc => ?_); rotate_left; (· simp only [go_sem, reduceIte, Nat.reduceEqDiff, Nat.reduceAdd, bx, ax, if_true, if_false, Nat.reduceMul, Nat.reduceLeDiff, encI, vAV, d1, Bool.true_or, List.length_map, List.length_cons, e1, e2, e3, i0, t0, List.map_cons, List.getD_cons_zero, encV, if_true, List.length_map]; exact rfl))
              | refine Wp.seqRegS ?_
              | refine Wp.regS ?_
              | (refine Wp.cond_true ?_ ?_; (· simp only [go_sem, reduceIte, Nat.reduceEqDiff, Nat.reduceAdd, bx, ax, if_true, if_false, Nat.reduceMul, Nat.reduceLeDiff, encI, vAV, d1, Bool.true_or, List.length_map, List.length_cons, e1, e2, e3, i0, t0, List.map_cons, List.getD_cons_zero, encV, if_true, List.length_map]))
              | (refine Wp.cond_false ?_ ?_; (· simp only [go_sem, reduceIte, Nat.reduceEqDiff, Nat.reduceAdd, bx, ax, if_true, if_false, Nat.reduceMul, Nat.reduceLeDiff, encI, vAV, d1, Bool.true_or, List.length_map, List.length_cons, e1, e2, e3, i0, t0, List.map_cons, List.getD_cons_zero, encV, if_true, List.length_map]))
              | (refine Wp.cond_dec (p := ?_) ?_ (fun hc => ?_) (fun hc => ?_); rotate_left; (· simp only [go_sem, reduceIte, Nat.reduceEqDiff, Nat.reduceAdd, bx, ax, if_true, if_false, Nat.reduceMul, Nat.reduceLeDiff, encI, vAV, d1, Bool.true_or, List.length_map, List.length_cons, e1, e2, e3, i0, t0, List.map_cons, List.getD_cons_zero, encV, if_true, List.length_map]; exact rfl))
              | (refine Wp.cond_ndec (p := ?_) ?_ (fun hc => ?_) (fun hc => ?_); rotate_left; (· simp only [go_sem, reduceIte, Nat.reduceEqDiff, Nat.reduceAdd, bx, ax, if_true, if_false, Nat.reduceMul, Nat.reduceLeDiff, encI, vAV, d1, Bool.true_or, List.length_map, List.length_cons, e1, e2, e3, i0, t0, List.map_cons, List.getD_cons_zero, encV, if_true, List.length_map]; exact rfl))
              | (refine Wp.cond_split (b := ?_) ?_ (fun hc => ?_) (fun hc => ?_); rotate_left; (· simp only [go_sem, reduceIte, Nat.reduceEqDiff, Nat.reduceAdd, bx, ax, if_true, if_false, Nat.reduceMul, Nat.reduceLeDiff, encI, vAV, d1, Bool.true_or, List.length_map, List.length_cons, e1, e2, e3, i0, t0, List.map_cons, List.getD_cons_zero, encV, if_true, List.length_map]; exact rfl))
              | refine Wp.skip ?_
              | refine Wp.label ?_
              | refine Wp.block ?_
              | refine Wp.exit ?_
              | refine Wp.seq ?_)
            refine Wp.ret ⟨trivial, _, rfl, ?_⟩
            simp only [go_sem, reduceIte, Nat.reduceEqDiff, Nat.reduceAdd, bx]
            simp [mayB, h1, h3, h2]; exact VSub.refl _
      | false =>
        rw [Bool.false_or] at h2
        cases vs with
        | nil =>
          have e1 : decide ((0 : Int) < ((0 : Nat) : Int)) = false := rfl
          repeat' (first
            | (refine WpItems.nil ⟨?_, ?_⟩; (· first | trivial | simp [pairsQ, pairsOk, apart, ent0]))
            | (apply WpItems.evU; (· simp only [go_sem, reduceIte, Nat.reduceEqDiff, Nat.reduceAdd, bx, ax, if_true, if_false, Nat.reduceMul, Nat.reduceLeDiff, encI, vAV, d1, h2, List.map_nil, List.length_nil, e1, List.length_map]; exact rfl); (· simp only [go_sem, reduceIte, Nat.reduceEqDiff, Nat.reduceAdd, bx, ax, if_true, if_false, Nat.reduceMul, Nat.reduceLeDiff, encI, vAV, d1, h2, List.map_nil, List.length_nil, e1, List.length_map]; exact rfl))
            | (apply WpItems.part 1; (· simp only [go_sem, reduceIte, Nat.reduceEqDiff, Nat.reduceAdd, bx, ax, if_true, if_false, Nat.reduceMul, Nat.reduceLeDiff, encI, vAV, d1, h2, List.map_nil, List.length_nil, e1, List.length_map]; exact rfl); (try simp only [List.drop_succ_cons, List.drop_zero, List.drop_nil]))
            | (refine WpItems.gsplit_dec (p := ?_) ?_ (fun hc => ?_) (fun hc => ?_); rotate_left; (· simp only [go_sem, reduceIte, Nat.reduceEqDiff, Nat.reduceAdd, bx, ax, if_true, if_false, Nat.reduceMul, Nat.reduceLeDiff, encI, vAV, d1, h2, List.map_nil, List.length_nil, e1, List.length_map]; exact rfl))
            | (refine WpItems.gsplit_ndec (p := ?_) ?_ (fun hc => ?_) (fun hc => ?_); rotate_left; (· simp only [go_sem, reduceIte, Nat.reduceEqDiff, Nat.reduceAdd, bx, ax, if_true, if_false, Nat.reduceMul, Nat.reduceLeDiff, encI, vAV, d1, h2, List.map_nil, List.length_nil, e1, List.length_map]; exact rfl))
            | (refine WpItems.gsplit (b := ?_) ?_ (fun hc => ?_) (fun hc => ?_); rotate_left; (· simp only [go_sem, reduceIte, Nat.reduceEqDiff, Nat.reduceAdd, bx, ax, if_true, if_false, Nat.reduceMul, Nat.reduceLeDiff, encI, vAV, d1, h2, List.map_nil, List.length_nil, e1, List.length_map]; exact rfl))
            | refine Wp.seqRegS ?_
            | refine Wp.regS ?_
            | (refine Wp.cond_true ?_ ?_; (· simp only [go_sem, reduceIte, Nat.reduceEqDiff, Nat.reduceAdd, bx, ax, if_true, if_false, Nat.reduceMul, Nat.reduceLeDiff, encI, vAV, d1, h2, List.map_nil, List.length_nil, e1, List.length_map]))
            | (refine Wp.cond_false ?_ ?_; (· simp only [go_sem, reduceIte, Nat.reduceEqDiff, Nat.reduceAdd, bx, ax, if_true, if_false, Nat.reduceMul, Nat.reduceLeDiff, encI, vAV, d1, h2, List.map_nil, List.length_nil, e1, List.length_map]))
            | (refine Wp.cond_dec (p := ?_) ?_ (fun hc => ?_) (fun hc => ?_); rotate_left; (· simp only [go_sem, reduceIte, Nat.reduceEqDiff, Nat.reduceAdd, bx, ax, if_true, if_false, Nat.reduceMul, Nat.reduceLeDiff, encI, vAV, d1, h2, List.map_nil, List.length_nil, e1, List.length_map]; exact rfl))
            | (refine Wp.cond_ndec (p := ?_) ?_ (fun hc => ?_) (fun hc => ?_); rotate_left; (· simp only [go_sem, reduceIte, Nat.reduceEqDiff, Nat.reduceAdd, bx, ax, if_true, if_false, Nat.reduceMul, Nat.reduceLeDiff, encI, vAV, d1, h2, List.map_nil, List.length_nil, e1, List.length_map]; exact rfl))
            | (refine Wp.cond_split (b := ?_) ?_ (fun hc => ?_) (fun hc => ?_); rotate_left; (· simp only [go_sem, reduceIte, Nat.reduceEqDiff, Nat.reduceAdd, bx, ax, if_true, if_false, Nat.reduceMul, Nat.reduceLeDiff, encI, vAV, d1, h2, List.map_nil, List.length_nil, e1, List.length_map]; exact rfl))
            | refine Wp.skip ?_
            | refine Wp.label ?_
            | refine Wp.block ?_
            | refine Wp.exit ?_
            | refine Wp.seq ?_)
          refine Wp.ret ⟨trivial, _, rfl, ?_⟩
          simp only [go_sem, reduceIte, Nat.reduceEqDiff, Nat.reduceAdd, bx]
          simp [mayB]; exact VSub.refl _
        | cons v l =>
          have e1 : decide ((0 : Int) < ((l.length + 1 : Nat) : Int)) = true := decide_eq_true (by omega)
          have e3 : (0 : Int) < ((l.length + 1 : Nat) : Int) := by omega
          cases h3 : chB (v :: l) with
          | false =>
            have e2 : decide ((4 : Int) = 0) = false := rfl
            rw [h3] at hck
            repeat' (first
              | (refine WpItems.nil ⟨?_, ?_⟩; (· first | trivial | simp [pairsQ, pairsOk, apart, ent0]))
              | (apply WpItems.evU; (· simp only [go_sem, reduceIte, Nat.reduceEqDiff, Nat.reduceAdd, bx, ax, if_true, if_false, Nat.reduceMul, Nat.reduceLeDiff, encI, vAV, d1, h2, List.length_map, List.length_cons, e1, e2, Bool.false_eq_true, if_false, List.length_map]; exact rfl); (· simp only [go_sem, reduceIte, Nat.reduceEqDiff, Nat.reduceAdd, bx, ax, if_true, if_false, Nat.reduceMul, Nat.reduceLeDiff, encI, vAV, d1, h2, List.length_map, List.length_cons, e1, e2, Bool.false_eq_true, if_false, List.length_map]; exact rfl))
              | (apply WpItems.part 1; (· simp only [go_sem, reduceIte, Nat.reduceEqDiff, Nat.reduceAdd, bx, ax, if_true, if_false, Nat.reduceMul, Nat.reduceLeDiff, encI, vAV, d1, h2, List.length_map, List.length_cons, e1, e2, Bool.false_eq_true, if_false, List.length_map]; exact rfl); (try simp only [List.drop_succ_cons, List.drop_zero, List.drop_nil]))
              | (refine WpItems.pcall ?_ ?_ (hck) ?_; (· simp only [go_sem, reduceIte, Nat.reduceEqDiff, Nat.reduceAdd, bx]); (· simp only [go_sem, reduceIte, Nat.reduceEqDiff, Nat.reduceAdd, bx, List.map, ax, if_true, if_false, Nat.reduceMul, Nat.reduceLeDiff, encI, vAV, d1, h2, List.length_map, List.length_cons, e1, e2, Bool.false_eq_true, if_false, List.length_map]; first | exact VSubs.refl _ | (repeat (first | exact VSubs.nil | refine VSubs.cons (by first | exact VSub.refl _ | assumption | exact VSub.cap | exact VSub.any _) ?_))))
              | (refine WpItems.gsplit_dec (p := ?_) ?_ (fun hc => ?_) (fun hc => ?_); rotate_left; (· simp only [go_sem, reduceIte, Nat.reduceEqDiff, Nat.reduceAdd, bx, ax, if_true, if_false, Nat.reduceMul, Nat.reduceLeDiff, encI, vAV, d1, h2, List.length_map, List.length_cons, e1, e2, Bool.false_eq_true, if_false, List.length_map]; exact rfl))
              | (refine WpItems.gsplit_ndec (p := ?_) ?_ (fun hc => ?_) (fun hc => ?_); rotate_left; (· simp only [go_sem, reduceIte, Nat.reduceEqDiff, Nat.reduceAdd, bx, ax, if_true, if_false, Nat.reduceMul, Nat.reduceLeDiff, encI, vAV, d1, h2, List.length_map, List.length_cons, e1, e2, Bool.false_eq_true, if_false, List.length_map]; exact rfl))
              | (refine WpItems.gsplit (b := ?_) ?_ (fun hc => ?_) (fun hc => ?_); rotate_left; (· simp only [go_sem, reduceIte, Nat.reduceEqDiff, Nat.reduceAdd, bx, ax, if_true, if_false, Nat.reduceMul, Nat.reduceLeDiff, encI, vAV, d1, h2, List.length_map, List.length_cons, e1, e2, Bool.false_eq_true, if_false, List.length_map]; exact rfl))
              | refine Wp.seqRegS ?_
              | refine Wp.regS ?_
              | (refine Wp.cond_true ?_ ?_; (· simp only [go_sem, reduceIte, Nat.reduceEqDiff, Nat.reduceAdd, bx, ax, if_true, if_false, Nat.reduceMul, Nat.reduceLeDiff, encI, vAV, d1, h2, List.length_map, List.length_cons, e1, e2, Bool.false_eq_true, if_false, List.length_map]))
              | (refine Wp.cond_false ?_ ?_; (· simp only [go_sem, reduceIte, Nat.reduceEqDiff, Nat.reduceAdd, bx, ax, if_true, if_false, Nat.reduceMul, Nat.reduceLeDiff, encI, vAV, d1, h2, List.length_map, List.length_cons, e1, e2, Bool.false_eq_true, if_false, List.length_map]))
              | (refine Wp.cond_dec (p := ?_) ?_ (fun hc => ?_) (fun hc => ?_); rotate_left; (· simp only [go_sem, reduceIte, Nat.reduceEqDiff, Nat.reduceAdd, bx, ax, if_true, if_false, Nat.reduceMul, Nat.reduceLeDiff, encI, vAV, d1, h2, List.length_map, List.length_cons, e1, e2, Bool.false_eq_true, if_false, List.length_map]; exact rfl))
              | (refine Wp.cond_ndec (p := ?_) ?_ (fun hc => ?_) (fun hc => ?_); rotate_left; (· simp only [go_sem, reduceIte, Nat.reduceEqDiff, Nat.reduceAdd, bx, ax, if_true, if_false, Nat.reduceMul, Nat.reduceLeDiff, encI, vAV, d1, h2, List.length_map, List.length_cons, e1, e2, Bool.false_eq_true, if_false, List.length_map]; exact rfl))
              | (refine Wp.cond_split (b := ?_) ?_ (fun hc => ?_) (fun hc => ?_); rotate_left; (· simp only [go_sem, reduceIte, Nat.reduceEqDiff, Nat.reduceAdd, bx, ax, if_true, if_false, Nat.reduceMul, Nat.reduceLeDiff, encI, vAV, d1, h2, List.length_map, List.length_cons, e1, e2, Bool.false_eq_true, if_false, List.length_map]; exact rfl))
              | refine Wp.skip ?_
              | refine Wp.label ?_
              | refine Wp.block ?_
              | refine Wp.exit ?_
              | refine Wp.seq ?_)
            refine Wp.ret ⟨trivial, _, rfl, ?_⟩
            simp only [go_sem, reduceIte, Nat.reduceEqDiff, Nat.reduceAdd, bx]
            simp [mayB, h3]; exact VSub.refl _
          | true =>
            have e2 : decide ((0 : Int) = 0) = true := rfl
            rw [h3] at hck
            repeat' (first
              | (refine WpItems.nil ⟨?_, ?_⟩; (· first | trivial | simp [pairsQ, pairsOk, apart, ent0]))
              | (apply WpItems.evU; (· simp only [go_sem, reduceIte, Nat.reduceEqDiff, Nat.reduceAdd, bx, ax, if_true, if_false, Nat.reduceMul, Nat.reduceLeDiff, encI, vAV, d1, h2, List.length_map, List.length_cons, e1, e2, e3, i0, t0, List.map_cons, List.getD_cons_zero, encV, if_true, List.length_map]; exact rfl); (· simp only [go_sem, reduceIte, Nat.reduceEqDiff, Nat.reduceAdd, bx, ax, if_true, if_false, Nat.reduceMul, Nat.reduceLeDiff, encI, vAV, d1, h2, List.length_map, List.length_cons, e1, e2, e3, i0, t0, List.map_cons, List.getD_cons_zero, encV, if_true, List.length_map]; exact rfl))
              | (apply WpItems.part 1; (· simp only [go_sem, reduceIte, Nat.reduceEqDiff, Nat.reduceAdd, bx, ax, if_true, if_false, Nat.reduceMul, Nat.reduceLeDiff, encI, vAV, d1, h2, List.length_map, List.length_cons, e1, e2, e3, i0, t0, List.map_cons, List.getD_cons_zero, encV, if_true, List.length_map]; exact rfl); (try simp only [List.drop_succ_cons, List.drop_zero, List.drop_nil]))
              | (refine WpItems.pcall ?_ ?_ (hck) ?_; (· simp only [go_sem, reduceIte, Nat.reduceEqDiff, Nat.reduceAdd, bx]); (· simp only [go_sem, reduceIte, Nat.reduceEqDiff, Nat.reduceAdd, bx, List.map, ax, if_true, if_false, Nat.reduceMul, Nat.reduceLeDiff, encI, vAV, d1, h2, List.length_map, List.length_cons, e1, e2, e3, i0, t0, List.map_cons, List.getD_cons_zero, encV, if_true, List.length_map]; first | exact VSubs.refl _ | (repeat (first | exact VSubs.nil | refine VSubs.cons (by first | exact VSub.refl _ | assumption | exact VSub.cap | exact VSub.any _) ?_))))
              | (refine WpItems.gsplit_dec (p := ?_) ?_ (fun hc => ?_) (fun hc => ?_); rotate_left; (· simp only [go_sem, reduceIte, Nat.reduceEqDiff, Nat.reduceAdd, bx, ax, if_true, if_false, Nat.reduceMul, Nat.reduceLeDiff, encI, vAV, d1, h2, List.length_map, List.length_cons, e1, e2, e3, i0, t0, List.map_cons, List.getD_cons_zero, encV, if_true, List.length_map]; exact rfl))
              | (refine WpItems.gsplit_ndec (p := ?_) ?_ (fun hc => ?_) (fun hc => ?_); rotate_left; (· simp only [go_sem, reduceIte, Nat.reduceEqDiff, Nat.reduceAdd, bx, ax, if_true, if_false, Nat.reduceMul, Nat.reduceLeDiff, encI, vAV, d1, h2, List.length_map, List.length_cons, e1, e2, e3, i0, t0, List.map_cons, List.getD_cons_zero, encV, if_true, List.length_map]; exact rfl))
              | (refine WpItems.gsplit (b := ?_) ?_ (fun hc => ?_) (fun hc => ?_); rotate_left; (· simp only [go_sem, reduceIte, Nat.reduceEqDiff, Nat.reduceAdd, bx, ax, if_true, if_false, Nat.reduceMul, Nat.reduceLeDiff, encI, vAV, d1, h2, List.length_map, List.length_cons, e1, e2, e3, i0, t0, List.map_cons, List.getD_cons_zero, encV, if_true, List.length_map]; exact rfl))
              | refine Wp.seqRegS ?_
              | refine Wp.regS ?_
              | (refine Wp.cond_true ?_ ?_; (· simp only [go_sem, reduceIte, Nat.reduceEqDiff, Nat.reduceAdd, bx, ax, if_true, if_false, Nat.reduceMul, Nat.reduceLeDiff, encI, vAV, d1, h2, List.length_map, List.length_cons, e1, e2, e3, i0, t0, List.map_cons, List.getD_cons_zero, encV, if_true, List.length_map]))
              | (refine Wp.cond_false ?_ ?_; (· simp only [go_sem, reduceIte, Nat.reduceEqDiff, Nat.reduceAdd, bx, ax, if_true, if_false, Nat.reduceMul, Nat.reduceLeDiff, encI, vAV, d1, h2, List.length_map, List.length_cons, e1, e2, e3, i0, t0, List.map_cons, List.getD_cons_zero, encV, if_true, List.length_map]))
              | (refine Wp.cond_dec (p := ?_) ?_ (fun hc => ?_) (fun hc => ?_); rotate_left; (· simp only [go_sem, reduceIte, Nat.reduceEqDiff, Nat.reduceAdd, bx, ax, if_true, if_false, Nat.reduceMul, Nat.reduceLeDiff, encI, vAV, d1, h2, List.length_map, List.length_cons, e1, e2, e3, i0, t0, List.map_cons, List.getD_cons_zero, encV, if_true, List.length_map]; exact rfl))
              | (refine Wp.cond_ndec (p := ?_) ?_ (fun hc => ?_) (fun hc => ?_); rotate_left; (· simp only [go_sem, reduceIte, Nat.reduceEqDiff, Nat.reduceAdd, bx, ax, if_true, if_false, Nat.reduceMul, Nat.reduceLeDiff, encI, vAV, d1, h2, List.length_map, List.length_cons, e1, e2, e3, i0, t0, List.map_cons, List.getD_cons_zero, encV, if_true, List.length_map]; exact rfl))
              | (refine Wp.cond_split (b := ?_) ?_ (fun hc => ?_) (fun hc => ?_); rotate_left; (· simp only [go_sem, reduceIte, Nat.reduceEqDiff, Nat.reduceAdd, bx, ax, if_true, if_false, Nat.reduceMul, Nat.reduceLeDiff, encI, vAV, d1, h2, List.length_map, List.length_cons, e1, e2, e3, i0, t0, List.map_cons, List.getD_cons_zero, encV, if_true, List.length_map]; exact rfl))
              | refine Wp.skip ?_
              | refine Wp.label ?_
              | refine Wp.block ?_
              | refine Wp.exit ?_
              | refine Wp.seq ?_)
            refine Wp.ret ⟨trivial, _, rfl, ?_⟩
            simp only [go_sem, reduceIte, Nat.reduceEqDiff, Nat.reduceAdd, bx]
            simp [mayB, h1, h3, h2]; exact VSub.refl _
  · have d1 := decide_eq_false h1
    repeat' (first
      | (refine WpItems.nil ⟨?_, ?_⟩; (· first | trivial | simp [pairsQ, pairsOk, apart, ent0]))
      | (apply WpItems.evU; (· simp only [go_sem, reduceIte, Nat.reduceEqDiff, Nat.reduceAdd, bx, ax, if_true, if_false, Nat.reduceMul, Nat.reduceLeDiff, encI, vAV, d1, List.length_map]; exact rfl); (· simp only [go_sem, reduceIte, Nat.reduceEqDiff, Nat.reduceAdd, bx, ax, if_true, if_false, Nat.reduceMul, Nat.reduceLeDiff, encI, vAV, d1, List.length_map]; exact rfl))
      | (apply WpItems.part 1; (· simp only [go_sem, reduceIte, Nat.reduceEqDiff, Nat.reduceAdd, bx, ax, if_true, if_false, Nat.reduceMul, Nat.reduceLeDiff, encI, vAV, d1, List.length_map]; exact rfl); (try simp only [List.drop_succ_cons, List.drop_zero, List.drop_nil]))
      | (refine WpItems.gsplit_dec (p := ?_) ?_ (fun hc => ?_) (fun hc => ?_); rotate_left; (· simp only [go_sem, reduceIte, Nat.reduceEqDiff, Nat.reduceAdd, bx, ax, if_true, if_false, Nat.reduceMul, Nat.reduceLeDiff, encI, vAV, d1, List.length_map]; exact rfl))
      | (refine WpItems.gsplit_ndec (p := ?_) ?_ (fun hc => ?_) (fun hc => ?_); rotate_left; (· simp only [go_sem, reduceIte, Nat.reduceEqDiff, Nat.reduceAdd, bx, ax, if_true, if_false, Nat.reduceMul, Nat.reduceLeDiff, encI, vAV, d1, List.length_map]; exact rfl))
      | (refine WpItems.gsplit (b := ?_) ?_ (fun hc => ?_) (fun hc => ?_); rotate_left; (· simp only [go_sem, reduceIte, Nat.reduceEqDiff, Nat.reduceAdd, bx, ax, if_true, if_false, Nat.reduceMul, Nat.reduceLeDiff, encI, vAV, d1, List.length_map]; exact rfl))
      | refine Wp.seqRegS ?_
      | refine Wp.regS ?_
      | (refine Wp.cond_true ?_ ?_; (· simp only [go_sem, reduceIte, Nat.reduceEqDiff, Nat.reduceAdd, bx, ax, if_true, if_false, Nat.reduceMul, Nat.reduceLeDiff, encI, vAV, d1, List.length_map]))
      | (refine Wp.cond_false ?_ ?_; (· simp only [go_sem, reduceIte, Nat.reduceEqDiff, Nat.reduceAdd, bx, ax, if_true, if_false, Nat.reduceMul, Nat.reduceLeDiff, encI, vAV, d1, List.length_map]))
      | (refine Wp.cond_dec (p := ?_) ?_ (fun hc => ?_) (fun hc => ?_); rotate_left; (· simp only [go_sem, reduceIte, Nat.reduceEqDiff, Nat.reduceAdd, bx, ax, if_true, if_false, Nat.reduceMul, Nat.reduceLeDiff, encI, vAV, d1, List.length_map]; exact rfl))
      | (refine Wp.cond_ndec (p := ?_) ?_ (fun hc => ?_) (fun hc => ?_); rotate_left; (· simp only [go_sem, reduceIte, Nat.reduceEqDiff, Nat.reduceAdd, bx, ax, if_true, if_false, Nat.reduceMul, Nat.reduceLeDiff, encI, vAV, d1, List.length_map]; exact rfl))
      | (refine Wp.cond_split (b := ?_) ?_ (fun hc => ?_) (fun hc => ?_); rotate_left; (· simp only [go_sem, reduceIte, Nat.reduceEqDiff, Nat.reduceAdd, bx, ax, if_true, if_false, Nat.reduceMul, Nat.reduceLeDiff, encI, vAV, d1, List.length_map]; exact rfl))
      | refine Wp.skip ?_
      | refine Wp.label ?_
      | refine Wp.block ?_
      | refine Wp.exit ?_
      | refine Wp.seq ?_)
    refine Wp.ret ⟨trivial, _, rfl, ?_⟩
    simp only [go_sem, reduceIte, Nat.reduceEqDiff, Nat.reduceAdd, bx]
    simp [mayB, h1]; exact VSub.refl _
end Go.Proofs.Ytpehfflehebmbaa.Space
end
section
set_option linter.unusedSimpArgs false
set_option linter.unusedVariables false
set_option maxRecDepth 10000
namespace Go.Proofs.Ytpehfflehebmbaa.Space
open Go Go.Av Go.Proofs Go.Proofs.Ytpehfflehebmbaa.C Go.Proofs.Ytpehfflehebmbaa.Batch
def aheadAt (l : List It) (i : Nat) : Bs := if i = 0 then [] else (l.getD (i - 1) default).1
def ldAt (l : List It) (last : Int) (i : Nat) : Bool := mayB (l.getD i default) (aheadAt l i) (decide (i = 0)) last
def ldB (l : List It) (last mark : Int) : Bool := !decide (last < 0) && !decide (1152921504606846976 < last) && !decide (mark < 0) && !decide (last < mark) && (List.range l.length).all (ldAt l last)
set_option maxHeartbeats 1000000 in
theorem load_g (l : List It) (hl : l.length ≤ 500000) (hv : ∀ p ∈ l, p.2.length ≤ 500000) (last mark : Int) : GCalls Try.prog 26 [.sl 2 (l.map encI) .any, .int .i64 last, .int .i64 mark] [] (fun r L => if ldB l last mark = true then ∃ s F, r = .tup [.ptr s 0, .int .i64 0] ∧ L = [F] ∧ SpcF s ⟨layL [] l, last, mark⟩ F else r = .tup [.sc (.pointer none), .int .i64 4] ∧ L = []) := by
  refine f26.gcalls (by simp) fun n m ok => ?_
  unfold c26
  have bad : ∀ (h : H), n ≤ h.n → m ≤ h.m → ldB l last mark = false → ∃ r l', Av.Ends [] n m (fun r L => if ldB l last mark = true then ∃ s F, r = .tup [.ptr s 0, .int .i64 0] ∧ L = [F] ∧ SpcF s ⟨layL [] l, last, mark⟩ F else r = .tup [.sc (.pointer none), .int .i64 4] ∧ L = []) (.tup [.sc (.pointer none), .int .i64 4]) h r l' := by
    intro h h1 h2 h3
    refine ⟨_, [], ⟨VSub.refl _, OLe.lay_nil _, fun t ht => by simp [ks] at ht, Ok.nil, fun j => .inr (.inr rfl), fun t ht => by simp [ks] at ht, ?_⟩⟩
    rw [h3]; exact ⟨rfl, rfl⟩
  by_cases p1 : last < 0
  · have d1 := decide_eq_true p1
    repeat (first
      | ((first | apply Wp.seqItemsR | apply Wp.itemsR); (· simp only [go_sem, reduceIte, Nat.reduceEqDiff, Nat.reduceAdd, bx, ax, if_true, if_false, Nat.reduceMul, Nat.reduceLeDiff, d1]; exact rfl))
      | (refine WpItems.nil ⟨?_, ?_⟩; (· first | trivial | simp [pairsQ, pairsOk, apart, ent0]))
      | (refine Wp.cond_true ?_ ?_; (· simp only [go_sem, reduceIte, Nat.reduceEqDiff, Nat.reduceAdd, bx, ax, if_true, if_false, Nat.reduceMul, Nat.reduceLeDiff, d1]))
      | (refine Wp.cond_false ?_ ?_; (· simp only [go_sem, reduceIte, Nat.reduceEqDiff, Nat.reduceAdd, bx, ax, if_true, if_false, Nat.reduceMul, Nat.reduceLeDiff, d1]))
      | refine Wp.skip ?_
      | refine Wp.label ?_
      | refine Wp.block ?_
      | refine Wp.exit ?_
      | refine Wp.seq ?_)
    exact Wp.ret ⟨trivial, _, rfl, bad _ (Nat.le_refl _) (Nat.le_refl _) (by simp [ldB, p1])⟩
  have d1 := decide_eq_false p1
  by_cases p2 : 1152921504606846976 < last
  · have d2 := decide_eq_true p2
    repeat (first
      | ((first | apply Wp.seqItemsR | apply Wp.itemsR); (· simp only [go_sem, reduceIte, Nat.reduceEqDiff, Nat.reduceAdd, bx, ax, if_true, if_false, Nat.reduceMul, Nat.reduceLeDiff, d1, d2]; exact rfl))
      | (refine WpItems.nil ⟨?_, ?_⟩; (· first | trivial | simp [pairsQ, pairsOk, apart, ent0]))
      | (refine Wp.cond_true ?_ ?_; (· simp only [go_sem, reduceIte, Nat.reduceEqDiff, Nat.reduceAdd, bx, ax, if_true, if_false, Nat.reduceMul, Nat.reduceLeDiff, d1, d2]))
      | (refine Wp.cond_false ?_ ?_; (· simp only [go_sem, reduceIte, Nat.reduceEqDiff, Nat.reduceAdd, bx, ax, if_true, if_false, Nat.reduceMul, Nat.reduceLeDiff, d1, d2]))
      | refine Wp.skip ?_
      | refine Wp.label ?_
      | refine Wp.block ?_
      | refine Wp.exit ?_
      | refine Wp.seq ?_)
    exact Wp.ret ⟨trivial, _, rfl, bad _ (Nat.le_refl _) (Nat.le_refl _) (by simp [ldB, p2])⟩
  have d2 := decide_eq_false p2
  by_cases p3 : mark < 0
  · have d3 := decide_eq_true p3
    repeat (first
      | ((first | apply Wp.seqItemsR | apply Wp.itemsR); (· simp only [go_sem, reduceIte, Nat.reduceEqDiff, Nat.reduceAdd, bx, ax, if_true, if_false, Nat.reduceMul, Nat.reduceLeDiff, d1, d2, d3]; exact rfl))
      | (refine WpItems.nil ⟨?_, ?_⟩; (· first | trivial | simp [pairsQ, pairsOk, apart, ent0]))
      | (refine Wp.cond_true ?_ ?_; (· simp only [go_sem, reduceIte, Nat.reduceEqDiff, Nat.reduceAdd, bx, ax, if_true, if_false, Nat.reduceMul, Nat.reduceLeDiff, d1, d2, d3]))
      | (refine Wp.cond_false ?_ ?_; (· simp only [go_sem, reduceIte, Nat.reduceEqDiff, Nat.reduceAdd, bx, ax, if_true, if_false, Nat.reduceMul, Nat.reduceLeDiff, d1, d2, d3]))
      | refine Wp.skip ?_
      | refine Wp.label ?_
      | refine Wp.block ?_
      | refine Wp.exit ?_
      | refine Wp.seq ?_)
    exact Wp.ret ⟨trivial, _, rfl, bad _ (Nat.le_refl _) (Nat.le_refl _) (by simp [ldB, p3])⟩
  have d3 := decide_eq_false p3
  by_cases p4 : last < mark
  · have d4 := decide_eq_true p4
    repeat (first
      | ((first | apply Wp.seqItemsR | apply Wp.itemsR); (· simp only [go_sem, reduceIte, Nat.reduceEqDiff, Nat.reduceAdd, bx, ax, if_true, if_false, Nat.reduceMul, Nat.reduceLeDiff, d1, d2, d3, d4]; exact rfl))
      | (refine WpItems.nil ⟨?_, ?_⟩; (· first | trivial | simp [pairsQ, pairsOk, apart, ent0]))
      | (refine Wp.cond_true ?_ ?_; (· simp only [go_sem, reduceIte, Nat.reduceEqDiff, Nat.reduceAdd, bx, ax, if_true, if_false, Nat.reduceMul, Nat.reduceLeDiff, d1, d2, d3, d4]))
      | (refine Wp.cond_false ?_ ?_; (· simp only [go_sem, reduceIte, Nat.reduceEqDiff, Nat.reduceAdd, bx, ax, if_true, if_false, Nat.reduceMul, Nat.reduceLeDiff, d1, d2, d3, d4]))
      | refine Wp.skip ?_
      | refine Wp.label ?_
      | refine Wp.block ?_
      | refine Wp.exit ?_
      | refine Wp.seq ?_)
    exact Wp.ret ⟨trivial, _, rfl, bad _ (Nat.le_refl _) (Nat.le_refl _) (by simp [ldB, p4])⟩
  have d4 := decide_eq_false p4
  repeat (first
    | ((first | apply Wp.seqItemsR | apply Wp.itemsR); (· simp only [go_sem, reduceIte, Nat.reduceEqDiff, Nat.reduceAdd, bx, ax, if_true, if_false, Nat.reduceMul, Nat.reduceLeDiff, d1, d2, d3, d4]; exact rfl))
    | (refine WpItems.nil ⟨?_, ?_⟩; (· first | trivial | simp [pairsQ, pairsOk, apart, ent0]))
    | (refine Wp.cond_true ?_ ?_; (· simp only [go_sem, reduceIte, Nat.reduceEqDiff, Nat.reduceAdd, bx, ax, if_true, if_false, Nat.reduceMul, Nat.reduceLeDiff, d1, d2, d3, d4]))
    | (refine Wp.cond_false ?_ ?_; (· simp only [go_sem, reduceIte, Nat.reduceEqDiff, Nat.reduceAdd, bx, ax, if_true, if_false, Nat.reduceMul, Nat.reduceLeDiff, d1, d2, d3, d4]))
    | refine Wp.skip ?_
    | refine Wp.label ?_
    | refine Wp.block ?_
    | refine Wp.exit ?_
    | refine Wp.seq ?_)
  refine WpItems.gcall [] [] [] (by simp only [go_sem]) (by simp only [go_sem, reduceIte, Nat.reduceEqDiff, List.map]; exact VSubs.refl _) new_g ok fun r G' n1 m1 ids1 hq hn1 hm1 ok1 wi1 ki1 => ?_
  obtain ⟨s, F1, rfl, rfl, hF1⟩ := hq
  obtain ⟨c1, M1, K1, hM1, hsc1, hs1, hc1, hK1⟩ := hF1.go
  have on1 : On [] n m [F1] n1 _ m1 := ⟨hn1, hm1, ok1, wi1, ki1⟩
  have gs1 := on1.ok.at0 hs1
  refine WpItems.evR (by simp only [go_sem, reduceIte, Nat.reduceEqDiff, Nat.reduceAdd, bx]; exact rfl) ?_
  refine WpItems.nil ⟨by trivial, ?_⟩
  repeat (first
    | ((first | apply Wp.seqItemsR | apply Wp.itemsR); (· simp only [go_sem, reduceIte, Nat.reduceEqDiff, Nat.reduceAdd, bx, ax, if_true, if_false, Nat.reduceMul, Nat.reduceLeDiff, gs1, List.length_map]; exact rfl))
    | (refine WpItems.nil ⟨?_, ?_⟩; (· first | trivial | simp [pairsQ, pairsOk, apart, ent0]))
    | (refine Wp.cond_true ?_ ?_; (· simp only [go_sem, reduceIte, Nat.reduceEqDiff, Nat.reduceAdd, bx, ax, if_true, if_false, Nat.reduceMul, Nat.reduceLeDiff, gs1, List.length_map]))
    | (refine Wp.cond_false ?_ ?_; (· simp only [go_sem, reduceIte, Nat.reduceEqDiff, Nat.reduceAdd, bx, ax, if_true, if_false, Nat.reduceMul, Nat.reduceLeDiff, gs1, List.length_map]))
    | refine Wp.skip ?_
    | refine Wp.label ?_
    | refine Wp.block ?_
    | refine Wp.exit ?_
    | refine Wp.seq ?_)
  rw [upd_lay]
  have hF2 : SpcF s ⟨[], last, 0⟩ _ := hF1.times hs1 last 0
  have on2 := on1.step (On.put (o := .cells [K1, .mp c1, .int .i64 last, .int .i64 0]) on1.ok (by rw [hs1]; rfl))
  generalize hf2 : (⟨upd F1.o s (some (.cells [K1, .mp c1, .int .i64 last, .int .i64 0])), F1.k⟩ : Fr) = F2 at *
  have f2 : F2.o s = some (.cells [K1, .mp c1, .int .i64 last, .int .i64 0]) := by rw [← hf2]; simp [upd]
  rw [upd_lay]
  have hF3 : SpcF s ⟨[], last, mark⟩ _ := hF2.times f2 last mark
  have on3 := on2.step (On.put (o := .cells [K1, .mp c1, .int .i64 last, .int .i64 mark]) on2.ok (by rw [f2]; rfl))
  generalize hf3 : (⟨upd F2.o s (some (.cells [K1, .mp c1, .int .i64 last, .int .i64 mark])), F2.k⟩ : Fr) = F3 at *
  have hil : (l.map encI).length = l.length := by simp
  refine Wp.loopG (β := Nat) [1, 8, 36, 37] (by simp only [go_sem, reduceIte, Nat.reduceEqDiff, List.map]; exact rfl) (fun i => [(38, .int .i64 (i : Nat)), (9, .str (aheadAt l i))]) (fun i L => i ≤ l.length ∧ (∀ j, j < i → ldAt l last j = true) ∧ ∃ F', L = [F'] ∧ SpcF s ⟨layL [] (l.take i), last, mark⟩ F') (fun i => l.length - i) 0 ⟨Nat.zero_le _, fun j h => absurd h (by omega), F3, rfl, hF3⟩ on3.ok (by simp only [AllSub, go_sem, reduceIte, Nat.reduceEqDiff]; exact ⟨VSub.refl _, VSub.refl _, trivial⟩) ?_
  rintro i L n5 T5 m5 on ⟨hi, hall, F', rfl, hF'⟩
  by_cases hi2 : i < l.length
  · have g1 : decide (((i : Nat) : Int) < ((l.length : Nat) : Int)) = true := decide_eq_true (by omega)
    have h2 : (0 : Int) ≤ ((i : Nat) : Int) := by omega
    have h3 : ((i : Nat) : Int) < ((l.length : Nat) : Int) := by omega
    have e1 : IntKind.i64.wrap (((i : Nat) : Int) + 1) = ((i + 1 : Nat) : Int) := by rw [IntWalk.i64_in _ (by omega)]; omega
    have hat := enc_at encI l i .any hi2
    have hdo := layL_snoc [] l hi2
    obtain ⟨hr', hl'⟩ := layL_ok (l.take i) [] (by simp [RiseL, Rise, keysOf])
    have hl2 : (layL [] (l.take i)).length ≤ 500000 := by
      rw [List.length_take] at hl'
      simp only [List.length_nil] at hl'
      omega
    have hvx : (l.getD i default).2.length ≤ 500000 := hv _ (by rw [getD_el hi2]; exact List.getElem_mem hi2)
    have hmay := may_p (l.getD i default) (by omega) (aheadAt l i) (decide (i = 0)) last
    have hah : aheadAt l (i + 1) = (l.getD i default).1 := by simp [aheadAt]
    have hz : decide ((i : Int) = 0) = decide (i = 0) := by simp
    have hcl := clone_p (l.getD i default).2 (by omega)
    cases hm : ldAt l last i with
    | false =>
      have hm' := hm
      unfold ldAt at hm'
      rw [hm'] at hmay
      generalize l.getD i default = x at *
      repeat (first
        | ((first | apply Wp.seqItemsR | apply Wp.itemsR); (· simp only [go_sem, reduceIte, Nat.reduceEqDiff, Nat.reduceAdd, bx, ax, if_true, if_false, Nat.reduceMul, Nat.reduceLeDiff, g1, h2, h3, hat, hil, encI, vAV, hz]; exact rfl))
        | (refine WpItems.nil ⟨?_, ?_⟩; (· first | trivial | simp [pairsQ, pairsOk, apart, ent0]))
        | (refine Wp.cond_true ?_ ?_; (· simp only [go_sem, reduceIte, Nat.reduceEqDiff, Nat.reduceAdd, bx, ax, if_true, if_false, Nat.reduceMul, Nat.reduceLeDiff, g1, h2, h3, hat, hil, encI, vAV, hz]))
        | (refine Wp.cond_false ?_ ?_; (· simp only [go_sem, reduceIte, Nat.reduceEqDiff, Nat.reduceAdd, bx, ax, if_true, if_false, Nat.reduceMul, Nat.reduceLeDiff, g1, h2, h3, hat, hil, encI, vAV, hz]))
        | refine Wp.skip ?_
        | refine Wp.label ?_
        | refine Wp.block ?_
        | refine Wp.exit ?_
        | refine Wp.seq ?_)
      refine WpItems.pcall (by simp only [go_sem]) (by simp only [go_sem, reduceIte, Nat.reduceEqDiff, List.map]; exact VSubs.refl _) hmay ?_
      refine WpItems.evR (by simp only [go_sem, reduceIte, Nat.reduceEqDiff, Nat.reduceAdd, bx]; exact rfl) ?_
      refine WpItems.nil ⟨by trivial, ?_⟩
      repeat (first
        | ((first | apply Wp.seqItemsR | apply Wp.itemsR); (· simp only [go_sem, reduceIte, Nat.reduceEqDiff, Nat.reduceAdd, bx, ax, if_true, if_false, Nat.reduceMul, Nat.reduceLeDiff]; exact rfl))
        | (refine WpItems.nil ⟨?_, ?_⟩; (· first | trivial | simp [pairsQ, pairsOk, apart, ent0]))
        | (refine Wp.cond_true ?_ ?_; (· simp only [go_sem, reduceIte, Nat.reduceEqDiff, Nat.reduceAdd, bx, ax, if_true, if_false, Nat.reduceMul, Nat.reduceLeDiff]))
        | (refine Wp.cond_false ?_ ?_; (· simp only [go_sem, reduceIte, Nat.reduceEqDiff, Nat.reduceAdd, bx, ax, if_true, if_false, Nat.reduceMul, Nat.reduceLeDiff]))
        | refine Wp.skip ?_
        | refine Wp.label ?_
        | refine Wp.block ?_
        | refine Wp.exit ?_
        | refine Wp.seq ?_)
      have on4 := on3.step on
      exact Wp.ret ⟨trivial, _, rfl, bad _ (by have := on4.gn; simp only; omega) on4.gm (by
        have : (List.range l.length).all (ldAt l last) = false := all_no hi2 hm
        simp [ldB, this])⟩
    | true =>
      have hm' := hm
      unfold ldAt at hm'
      rw [hm'] at hmay
      generalize l.getD i default = x at *
      repeat (first
        | ((first | apply Wp.seqItemsR | apply Wp.itemsR); (· simp only [go_sem, reduceIte, Nat.reduceEqDiff, Nat.reduceAdd, bx, ax, if_true, if_false, Nat.reduceMul, Nat.reduceLeDiff, g1, h2, h3, hat, hil, encI, vAV, hz]; exact rfl))
        | (refine WpItems.nil ⟨?_, ?_⟩; (· first | trivial | simp [pairsQ, pairsOk, apart, ent0]))
        | (refine Wp.cond_true ?_ ?_; (· simp only [go_sem, reduceIte, Nat.reduceEqDiff, Nat.reduceAdd, bx, ax, if_true, if_false, Nat.reduceMul, Nat.reduceLeDiff, g1, h2, h3, hat, hil, encI, vAV, hz]))
        | (refine Wp.cond_false ?_ ?_; (· simp only [go_sem, reduceIte, Nat.reduceEqDiff, Nat.reduceAdd, bx, ax, if_true, if_false, Nat.reduceMul, Nat.reduceLeDiff, g1, h2, h3, hat, hil, encI, vAV, hz]))
        | refine Wp.skip ?_
        | refine Wp.label ?_
        | refine Wp.block ?_
        | refine Wp.exit ?_
        | refine Wp.seq ?_)
      refine WpItems.pcall (by simp only [go_sem]) (by simp only [go_sem, reduceIte, Nat.reduceEqDiff, List.map]; exact VSubs.refl _) hmay ?_
      refine WpItems.evR (by simp only [go_sem, reduceIte, Nat.reduceEqDiff, Nat.reduceAdd, bx]; exact rfl) ?_
      refine WpItems.nil ⟨by trivial, ?_⟩
      repeat (first
        | ((first | apply Wp.seqItemsR | apply Wp.itemsR); (· simp only [go_sem, reduceIte, Nat.reduceEqDiff, Nat.reduceAdd, bx, ax, if_true, if_false, Nat.reduceMul, Nat.reduceLeDiff, hcl]; exact rfl))
        | (refine WpItems.nil ⟨?_, ?_⟩; (· first | trivial | simp [pairsQ, pairsOk, apart, ent0]))
        | (refine Wp.cond_true ?_ ?_; (· simp only [go_sem, reduceIte, Nat.reduceEqDiff, Nat.reduceAdd, bx, ax, if_true, if_false, Nat.reduceMul, Nat.reduceLeDiff, hcl]))
        | (refine Wp.cond_false ?_ ?_; (· simp only [go_sem, reduceIte, Nat.reduceEqDiff, Nat.reduceAdd, bx, ax, if_true, if_false, Nat.reduceMul, Nat.reduceLeDiff, hcl]))
        | refine Wp.skip ?_
        | refine Wp.label ?_
        | refine Wp.block ?_
        | refine Wp.exit ?_
        | refine Wp.seq ?_)
      rw [upd_new, upd_ob]
      refine WpItems.pcall (by simp only [go_sem]) (by simp only [go_sem, reduceIte, Nat.reduceEqDiff, List.map]; exact VSubs.refl _) hcl ?_
      refine WpItems.evR (by simp only [go_sem, reduceIte, Nat.reduceEqDiff, Nat.reduceAdd, bx]; exact rfl) ?_
      have ok6 := on.ok.more (.cells [.str x.1, vAV x.2])
      refine WpItems.gcall [_] [F'] [] (by simp only [go_sem]) (by simp only [go_sem, reduceIte, Nat.reduceEqDiff, List.map]; exact VSubs.refl _) (set_g hF' hr' hl2 x.1 x.2) ok6 fun r G' n' m' ids hq hn' hm' ok7 wi ki => ?_
      obtain ⟨rfl, F5, rfl, hF5⟩ := hq
      have on7 : On [F'] n5 m5 [F5] n' _ m' := On.under ⟨hn', hm', ok7, wi, ki⟩
      have g5 : lay ([ob n5 (.cells [.str x.1, vAV x.2])] ++ [F5] ++ []) n5 = some (.cells [.str x.1, vAV x.2]) := lay_ob_at n5 _ [F5]
      refine WpItems.evR (by simp only [go_sem, reduceIte, Nat.reduceEqDiff, Nat.reduceAdd, bx]; exact rfl) ?_
      refine WpItems.nil ⟨by simp [pairsQ, pairsOk, apart, ent0], ?_⟩
      simp only [List.cons_append, List.nil_append, List.append_nil, vAV] at g5 ⊢
      repeat (first
        | ((first | apply Wp.seqItemsR | apply Wp.itemsR); (· simp only [go_sem, reduceIte, Nat.reduceEqDiff, Nat.reduceAdd, bx, ax, if_true, if_false, Nat.reduceMul, Nat.reduceLeDiff, e1, g5]; exact rfl))
        | (refine WpItems.nil ⟨?_, ?_⟩; (· first | trivial | simp [pairsQ, pairsOk, apart, ent0]))
        | (refine Wp.cond_true ?_ ?_; (· simp only [go_sem, reduceIte, Nat.reduceEqDiff, Nat.reduceAdd, bx, ax, if_true, if_false, Nat.reduceMul, Nat.reduceLeDiff, e1, g5]))
        | (refine Wp.cond_false ?_ ?_; (· simp only [go_sem, reduceIte, Nat.reduceEqDiff, Nat.reduceAdd, bx, ax, if_true, if_false, Nat.reduceMul, Nat.reduceLeDiff, e1, g5]))
        | refine Wp.skip ?_
        | refine Wp.label ?_
        | refine Wp.block ?_
        | refine Wp.exit ?_
        | refine Wp.seq ?_)
      refine ⟨i + 1, [F5], n', _, m', on7, ⟨by omega, all_step hall hm, F5, rfl, ?_⟩, by omega, ?_⟩
      · rw [hdo]; exact hF5
      · refine StLe.of (tm_le ?_) (ole_drop_ob (Ok.alone ok7)) (fun _ h => h) (Nat.le_refl _) (Nat.le_refl _)
        rw [hah]
        simp only [AllSub, go_sem, reduceIte, Nat.reduceEqDiff, Nat.reduceAdd, bx]; and_intros <;> first | exact trivial | exact VSub.refl _ | exact VSub.any _ | (refine VSub.int ?_; omega)
  · have hie : i = l.length := by omega
    subst hie
    have g1 : decide (((l.length : Nat) : Int) < ((l.length : Nat) : Int)) = false := decide_eq_false (by omega)
    rw [List.take_length] at hF'
    have hld : ldB l last mark = true := by
      simp only [ldB, d1, d2, d3, d4, Bool.not_false, Bool.true_and]
      exact all_yes hall
    repeat (first
      | ((first | apply Wp.seqItemsR | apply Wp.itemsR); (· simp only [go_sem, reduceIte, Nat.reduceEqDiff, Nat.reduceAdd, bx, ax, if_true, if_false, Nat.reduceMul, Nat.reduceLeDiff, g1]; exact rfl))
      | (refine WpItems.nil ⟨?_, ?_⟩; (· first | trivial | simp [pairsQ, pairsOk, apart, ent0]))
      | (refine Wp.cond_true ?_ ?_; (· simp only [go_sem, reduceIte, Nat.reduceEqDiff, Nat.reduceAdd, bx, ax, if_true, if_false, Nat.reduceMul, Nat.reduceLeDiff, g1]))
      | (refine Wp.cond_false ?_ ?_; (· simp only [go_sem, reduceIte, Nat.reduceEqDiff, Nat.reduceAdd, bx, ax, if_true, if_false, Nat.reduceMul, Nat.reduceLeDiff, g1]))
      | refine Wp.skip ?_
      | refine Wp.label ?_
      | refine Wp.block ?_
      | refine Wp.exit ?_
      | refine Wp.seq ?_)
    refine Wp.ret ⟨trivial, _, rfl, _, _, (on3.step on).ends (VSub.refl _) ?_⟩
    rw [if_pos hld]
    exact ⟨s, F', rfl, rfl, hF'⟩
end Go.Proofs.Ytpehfflehebmbaa.Space
end
section
set_option linter.unusedSimpArgs false
set_option linter.unusedVariables false
set_option maxRecDepth 10000
namespace Go.Proofs.Ytpehfflehebmbaa.Space
open Go Go.Av Go.Proofs Go.Proofs.Ytpehfflehebmbaa.C Go.Proofs.Ytpehfflehebmbaa.Batch
theorem keysOf_cons (p : It) (L : List It) : keysOf (p :: L) = p.1 :: keysOf L := rfl
theorem plK_cons (k : Bs) (ks : List Bs) (q : Bs) : plK (k :: ks) q = if Op.bytesLess k q = true then plK ks q + 1 else 0 := by
  simp only [plK, List.findIdx_cons]
  cases h : Op.bytesLess k q <;> simp
theorem thK_nil (q : Bs) : thK [] q = false := by simp [thK]
theorem thK_cons (k : Bs) (ks : List Bs) (q : Bs) : thK (k :: ks) q = if Op.bytesLess k q = true then thK ks q else decide (k = q) := by
  simp only [thK, plK_cons]
  cases h : Op.bytesLess k q <;> simp
theorem setL_nil (q : Bs) (v : List Ver) : setL [] q v = if v = [] then [] else [(q, v)] := by
  simp [setL, keysOf, thK_nil, plK]
theorem setL_cons (p : It) (L : List It) (q : Bs) (v : List Ver) : setL (p :: L) q v = if Op.bytesLess p.1 q = true then p :: setL L q v else if p.1 = q then (if v = [] then L else (q, v) :: L) else (if v = [] then p :: L else (q, v) :: p :: L) := by
  simp only [setL, keysOf_cons, thK_cons, plK_cons]
  by_cases h : Op.bytesLess p.1 q = true
  · simp only [if_pos h, List.take_succ_cons, List.drop_succ_cons, List.cons_append]
    split <;> split <;> rfl
  · simp only [if_neg h]
    by_cases e : p.1 = q
    · simp [e]
    · simp [e]
theorem setL_mid (q : Bs) (v : List Ver) (B : List It) : ∀ A : List It, (∀ p ∈ A, Op.bytesLess p.1 q = true) → setL (A ++ B) q v = A ++ setL B q v
  | [], _ => rfl
  | p :: A, h => by
    rw [List.cons_append, setL_cons, if_pos (h p (by simp)), setL_mid q v B A (fun x hx => h x (by simp [hx]))]; rfl
theorem rise_cons {p : It} {L : List It} : RiseL (p :: L) ↔ (∀ x ∈ L, Op.bytesLess p.1 x.1 = true) ∧ RiseL L := by
  simp [RiseL, Rise, keysOf, List.pairwise_cons]
theorem rise_app {A B : List It} : RiseL (A ++ B) ↔ RiseL A ∧ RiseL B ∧ ∀ x ∈ A, ∀ y ∈ B, Op.bytesLess x.1 y.1 = true := by
  unfold RiseL Rise keysOf
  rw [List.map_append, List.pairwise_append]
  simp
theorem less_ne {a b : Bs} (h : Op.bytesLess a b = true) : a ≠ b := fun e => by rw [e, less_irrefl] at h; cases h
theorem after {p : It} {L : List It} {q : Bs} (hr : RiseL (p :: L)) (h : Op.bytesLess p.1 q = false) : ∀ x ∈ L, x.1 ≠ q := by
  intro x hx e
  have := (rise_cons.1 hr).1 x hx
  rw [e, h] at this; cases this
def Full (L : List It) : Prop := ∀ p ∈ L, p.2 ≠ []
theorem layL_app : ∀ (l A : List It), RiseL (A ++ l) → Full l → layL A l = A ++ l
  | [], A, _, _ => by simp [layL]
  | p :: l, A, hr, hf => by
    have h1 := (rise_app.1 hr).2.2
    have hs : setL A p.1 p.2 = A ++ [p] := by
      have := setL_mid p.1 p.2 [] A (fun x hx => h1 x hx p (by simp))
      rw [List.append_nil, setL_nil, if_neg (hf p (by simp))] at this
      exact this
    have e : layL A (p :: l) = layL (setL A p.1 p.2) l := rfl
    rw [e, hs, layL_app l (A ++ [p]) (by simpa using hr) (fun x hx => hf x (by simp [hx]))]
    simp
theorem layL_self {L : List It} (hr : RiseL L) (hf : Full L) : layL [] L = L := by
  have := layL_app L [] (by simpa using hr) hf
  simpa using this
theorem setL_full {L : List It} (hf : Full L) (q : Bs) (v : List Ver) : Full (setL L q v) := by
  induction L with
  | nil => rw [setL_nil]; split <;> simp_all [Full]
  | cons p L ih =>
    have h1 : p.2 ≠ [] := hf p (by simp)
    have h2 : Full L := fun x hx => hf x (by simp [hx])
    have h3 := ih h2
    rw [setL_cons]
    intro x hx
    split at hx
    · rcases List.mem_cons.1 hx with rfl | hx
      · exact h1
      · exact h3 x hx
    · split at hx <;> split at hx
      · exact h2 x hx
      · rename_i hv
        rcases List.mem_cons.1 hx with rfl | hx
        · exact hv
        · exact h2 x hx
      · exact hf x hx
      · rename_i hv
        rcases List.mem_cons.1 hx with rfl | hx
        · exact hv
        · exact hf x hx
theorem mget_mem {L : List It} (hr : RiseL L) {p : It} (hp : p ∈ L) : mget L p.1 = p.2 := by
  induction L with
  | nil => simp at hp
  | cons x L ih =>
    obtain ⟨h1, h2⟩ := rise_cons.1 hr
    rcases List.mem_cons.1 hp with rfl | hp
    · simp [mget]
    · rw [mget, if_neg (less_ne (h1 p hp))]; exact ih h2 hp
theorem mget_app_ne {A B : List It} {q : Bs} (h : ∀ x ∈ A, x.1 ≠ q) : mget (A ++ B) q = mget B q := by
  rw [mget_app, if_neg]
  intro hm
  obtain ⟨p, hp, e⟩ := List.mem_map.1 hm
  exact h p hp e
def vacR (mark : Int) (L : List It) : List It := L.filterMap fun p => if vacB p.2 mark = [] then none else some (p.1, vacB p.2 mark)
theorem vacR_keys {mark : Int} {L : List It} {x : It} (h : x ∈ vacR mark L) : ∃ p ∈ L, p.1 = x.1 := by
  obtain ⟨p, hp, e⟩ := List.mem_filterMap.1 h
  split at e
  · cases e
  · cases e; exact ⟨p, hp, rfl⟩
theorem vacS_go (mark : Int) (a b : Int) : ∀ (B A : List It), RiseL (A ++ B) → vacS mark ⟨vacR mark A ++ B, a, b⟩ (keysOf B) = ⟨vacR mark (A ++ B), a, b⟩
  | [], A, _ => by simp [vacS, keysOf]
  | p :: B, A, hr => by
    have h1 := (rise_app.1 hr).2.2
    have hlt : ∀ x ∈ vacR mark A, Op.bytesLess x.1 p.1 = true := fun x hx => by
      obtain ⟨y, hy, e⟩ := vacR_keys hx
      rw [← e]; exact h1 y hy p (by simp)
    have hg : mget (vacR mark A ++ p :: B) p.1 = p.2 := by
      rw [mget_app_ne (fun x hx => less_ne (hlt x hx))]; simp [mget]
    have e1 : vacS mark ⟨vacR mark A ++ p :: B, a, b⟩ (keysOf (p :: B)) = vacS mark (vacStep mark ⟨vacR mark A ++ p :: B, a, b⟩ p.1) (keysOf B) := rfl
    have e2 : vacStep mark ⟨vacR mark A ++ p :: B, a, b⟩ p.1 = ⟨vacR mark (A ++ [p]) ++ B, a, b⟩ := by
      simp only [vacStep, setS, hg, setL_mid _ _ _ _ hlt, setL_cons, less_irrefl, Bool.false_eq_true, if_false, if_true]
      by_cases hv : vacB p.2 mark = []
      · simp [vacR, hv]
      · simp [vacR, hv]
    rw [e1, e2, vacS_go mark a b B (A ++ [p]) (by simpa using hr)]
    simp
theorem vacS_eq {S : Spc} (hr : RiseL S.L) (mark : Int) : vacS mark S (keysOf S.L) = { S with L := vacR mark S.L } := by
  have := vacS_go mark S.last S.mark S.L [] (by simpa using hr)
  simpa [vacR] using this
theorem vacR_full (mark : Int) (L : List It) : Full (vacR mark L) := by
  intro x hx
  obtain ⟨p, hp, e⟩ := List.mem_filterMap.1 hx
  split at e
  · cases e
  · cases e; assumption
def inB (k a b : Bs) : Bool := !Op.bytesLess k a && selP b k
theorem sel_none {b : Bs} : ∀ {ks : List Bs} {k : Bs}, (∀ x ∈ ks, Op.bytesLess k x = true) → selP b k = false → ∀ x ∈ ks, selP b x = false := by
  intro ks k h hk x hx
  simp only [selP, Bool.or_eq_false_iff, decide_eq_false_iff_not] at hk ⊢
  refine ⟨hk.1, ?_⟩
  cases hc : Op.bytesLess x b with
  | false => rfl
  | true => rw [less_trans (h x hx) hc] at hk; cases hk.2
theorem take_filter {b : Bs} : ∀ ks : List Bs, Rise ks → ks.takeWhile (selP b) = ks.filter (selP b)
  | [], _ => rfl
  | k :: ks, hr => by
    obtain ⟨h1, h2⟩ := List.pairwise_cons.1 hr
    rw [List.takeWhile_cons, List.filter_cons]
    cases hk : selP b k with
    | true => simp only [if_true]; rw [take_filter ks h2]
    | false =>
      simp only [Bool.false_eq_true, if_false]
      refine (List.filter_eq_nil_iff.2 fun x hx => ?_).symm
      rw [sel_none h1 hk x hx]; exact Bool.false_ne_true
theorem selK_eq {a b : Bs} : ∀ ks : List Bs, Rise ks → selK ks a b = ks.filter fun k => inB k a b
  | [], _ => by simp [selK]
  | k :: ks, hr => by
    obtain ⟨h1, h2⟩ := List.pairwise_cons.1 hr
    by_cases h : Op.bytesLess k a = true
    · have ih := selK_eq (a := a) (b := b) ks h2
      rw [selK, plK_cons, if_pos h, List.drop_succ_cons, List.filter_cons, if_neg (by simp [inB, h])]
      exact ih
    · have h' : Op.bytesLess k a = false := by simpa using h
      rw [selK, plK_cons, if_neg h, List.drop_zero, take_filter _ hr]
      refine List.filter_congr fun x hx => ?_
      have : Op.bytesLess x a = false := by
        rcases List.mem_cons.1 hx with rfl | hx
        · exact h'
        · cases hc : Op.bytesLess x a with
          | false => rfl
          | true => rw [less_trans (h1 x hx) hc] at h'; cases h'
      simp [inB, this]
theorem fmap_congr {α β : Type} {f g : α → Option β} : ∀ {l : List α}, (∀ x ∈ l, f x = g x) → l.filterMap f = l.filterMap g
  | [], _ => rfl
  | x :: l, h => by
    rw [List.filterMap_cons, List.filterMap_cons, h x (by simp), fmap_congr (fun y hy => h y (by simp [hy]))]
theorem sel_map {α : Type} {a b : Bs} {L : List It} (hr : RiseL L) (f : List Ver → Bs → Option α) : (selK (keysOf L) a b).filterMap (fun k => f (mget L k) k) = (L.filter fun p => inB p.1 a b).filterMap fun p => f p.2 p.1 := by
  rw [selK_eq _ hr, keysOf, List.filter_map, List.filterMap_map]
  refine fmap_congr fun p hp => ?_
  have := mget_mem hr (List.mem_filter.1 hp).1
  simp only [Function.comp, this]
def tellP (t : Int) (p : It) : Option Pr := if (atB p.2 t).2 = true then some ⟨p.1, (atB p.2 t).1⟩ else none
theorem allS_eq {S : Spc} (hr : RiseL S.L) (a b : Bs) (t : Int) : allS S a b t = (S.L.filter fun p => inB p.1 a b).filterMap (tellP t) := by
  have := sel_map (a := a) (b := b) hr (fun v k => if (atB v t).2 = true then some (⟨k, (atB v t).1⟩ : Pr) else none)
  exact this
theorem sinceS_eq {S : Spc} (hr : RiseL S.L) (a b : Bs) (t : Int) : sinceS S a b t = S.L.any fun p => inB p.1 a b && sinceB p.2 t := by
  rw [sinceS, selK_eq _ hr, keysOf, List.filter_map, List.any_map]
  refine Bool.eq_iff_iff.2 ?_
  simp only [List.any_eq_true, List.mem_filter, Function.comp, Bool.and_eq_true]
  constructor
  · rintro ⟨p, ⟨hp, h1⟩, h2⟩
    rw [mget_mem hr hp] at h2
    exact ⟨p, hp, h1, h2⟩
  · rintro ⟨p, hp, h1, h2⟩
    rw [← mget_mem hr hp] at h2
    exact ⟨p, ⟨hp, h1⟩, h2⟩
end Go.Proofs.Ytpehfflehebmbaa.Space
end
section
set_option linter.unusedSimpArgs false
set_option linter.unusedVariables false
set_option maxRecDepth 10000
namespace Go.Proofs.Ytpehfflehebmbaa.Space
open Go Go.Av Go.Proofs Go.Proofs.Ytpehfflehebmbaa.C Go.Proofs.Ytpehfflehebmbaa.Batch
def encS (S : Spc) : AV := .agg [.sl 2 (S.L.map encI) .any, .int .i64 S.last, .int .i64 S.mark]
theorem encI_pure (p : It) : isPure (encI p) = true := by simp [allPure, isPure, capPure, encI, vAV, vers_pure]
theorem its_pure (l : List It) : allPure (l.map encI) = true := Av.allPure_map encI_pure l
theorem encS_pure (S : Spc) : isPure (encS S) = true := by simp [allPure, isPure, capPure, encS, its_pure]
theorem keptR_p (S : Spc) (t : Int) : PCalls Try.prog 110 [encS S, .int .i64 t] (.int .i64 (keptB S t)) := by
  refine f110.pcalls0 (by simp) (by simp [allPure, isPure, encS_pure]) rfl ?_
  unfold c110
  by_cases h1 : t < S.mark
  · have d1 := decide_eq_true h1
    repeat (first
      | ((first | apply Wp.seqItemsR | apply Wp.itemsR); (· simp only [go_sem, reduceIte, Nat.reduceEqDiff, Nat.reduceAdd, bx, ax, if_true, if_false, Nat.reduceMul, Nat.reduceLeDiff, encS, d1]; exact rfl))
      | (refine WpItems.nil ⟨?_, ?_⟩; (· first | trivial | simp [pairsQ, pairsOk, apart, ent0]))
      | (refine Wp.cond_true ?_ ?_; (· simp only [go_sem, reduceIte, Nat.reduceEqDiff, Nat.reduceAdd, bx, ax, if_true, if_false, Nat.reduceMul, Nat.reduceLeDiff, encS, d1]))
      | (refine Wp.cond_false ?_ ?_; (· simp only [go_sem, reduceIte, Nat.reduceEqDiff, Nat.reduceAdd, bx, ax, if_true, if_false, Nat.reduceMul, Nat.reduceLeDiff, encS, d1]))
      | refine Wp.skip ?_
      | refine Wp.label ?_
      | refine Wp.block ?_
      | refine Wp.exit ?_
      | refine Wp.seq ?_)
    refine Wp.ret ⟨trivial, _, rfl, ?_⟩
    simp only [go_sem, reduceIte, Nat.reduceEqDiff, Nat.reduceAdd, bx]
    rw [keptB, if_pos h1]; exact VSub.refl _
  · have d1 := decide_eq_false h1
    by_cases h2 : S.last < t
    · have d2 := decide_eq_true h2
      repeat (first
        | ((first | apply Wp.seqItemsR | apply Wp.itemsR); (· simp only [go_sem, reduceIte, Nat.reduceEqDiff, Nat.reduceAdd, bx, ax, if_true, if_false, Nat.reduceMul, Nat.reduceLeDiff, encS, d1, d2]; exact rfl))
        | (refine WpItems.nil ⟨?_, ?_⟩; (· first | trivial | simp [pairsQ, pairsOk, apart, ent0]))
        | (refine Wp.cond_true ?_ ?_; (· simp only [go_sem, reduceIte, Nat.reduceEqDiff, Nat.reduceAdd, bx, ax, if_true, if_false, Nat.reduceMul, Nat.reduceLeDiff, encS, d1, d2]))
        | (refine Wp.cond_false ?_ ?_; (· simp only [go_sem, reduceIte, Nat.reduceEqDiff, Nat.reduceAdd, bx, ax, if_true, if_false, Nat.reduceMul, Nat.reduceLeDiff, encS, d1, d2]))
        | refine Wp.skip ?_
        | refine Wp.label ?_
        | refine Wp.block ?_
        | refine Wp.exit ?_
        | refine Wp.seq ?_)
      refine Wp.ret ⟨trivial, _, rfl, ?_⟩
      simp only [go_sem, reduceIte, Nat.reduceEqDiff, Nat.reduceAdd, bx]
      rw [keptB, if_neg h1, if_pos h2]; exact VSub.refl _
    · have d2 := decide_eq_false h2
      repeat (first
        | ((first | apply Wp.seqItemsR | apply Wp.itemsR); (· simp only [go_sem, reduceIte, Nat.reduceEqDiff, Nat.reduceAdd, bx, ax, if_true, if_false, Nat.reduceMul, Nat.reduceLeDiff, encS, d1, d2]; exact rfl))
        | (refine WpItems.nil ⟨?_, ?_⟩; (· first | trivial | simp [pairsQ, pairsOk, apart, ent0]))
        | (refine Wp.cond_true ?_ ?_; (· simp only [go_sem, reduceIte, Nat.reduceEqDiff, Nat.reduceAdd, bx, ax, if_true, if_false, Nat.reduceMul, Nat.reduceLeDiff, encS, d1, d2]))
        | (refine Wp.cond_false ?_ ?_; (· simp only [go_sem, reduceIte, Nat.reduceEqDiff, Nat.reduceAdd, bx, ax, if_true, if_false, Nat.reduceMul, Nat.reduceLeDiff, encS, d1, d2]))
        | refine Wp.skip ?_
        | refine Wp.label ?_
        | refine Wp.block ?_
        | refine Wp.exit ?_
        | refine Wp.seq ?_)
      refine Wp.ret ⟨trivial, _, rfl, ?_⟩
      simp only [go_sem, reduceIte, Nat.reduceEqDiff, Nat.reduceAdd, bx]
      rw [keptB, if_neg h1, if_neg h2]; exact VSub.refl _
theorem within_p (k a b : Bs) (lk : Ls k) (la : Ls a) (lb : Ls b) : PCalls Try.prog 113 [.str k, .str a, .str b] (.bool (inB k a b)) := by
  refine f113.pcalls0 (by simp) (by simp [allPure, isPure]) rfl ?_
  unfold c113
  have b1 := below_p k a lk la
  have b2 := below_p k b lk lb
  cases h1 : Op.bytesLess k a with
  | true =>
    rw [h1] at b1
    repeat (first
      | ((first | apply Wp.seqItemsR | apply Wp.itemsR); (· simp only [go_sem, reduceIte, Nat.reduceEqDiff, Nat.reduceAdd, bx, ax, if_true, if_false, Nat.reduceMul, Nat.reduceLeDiff, h1]; exact rfl))
      | (refine WpItems.nil ⟨?_, ?_⟩; (· first | trivial | simp [pairsQ, pairsOk, apart, ent0]))
      | ((refine WpItems.pcall ?_ ?_ (b1) ?_; (· simp only [go_sem, reduceIte, Nat.reduceEqDiff, Nat.reduceAdd, bx]); (· simp only [go_sem, reduceIte, Nat.reduceEqDiff, Nat.reduceAdd, bx, List.map]; first | exact VSubs.refl _ | (repeat (first | exact VSubs.nil | refine VSubs.cons (by first | exact VSub.refl _ | assumption | exact VSub.cap | exact VSub.any _) ?_)))); apply WpItems.evR; (· simp only [go_sem, reduceIte, Nat.reduceEqDiff, Nat.reduceAdd, bx, ax, if_true, if_false, Nat.reduceMul, Nat.reduceLeDiff, h1]; exact rfl))
      | (refine Wp.cond_true ?_ ?_; (· simp only [go_sem, reduceIte, Nat.reduceEqDiff, Nat.reduceAdd, bx, ax, if_true, if_false, Nat.reduceMul, Nat.reduceLeDiff, h1]))
      | (refine Wp.cond_false ?_ ?_; (· simp only [go_sem, reduceIte, Nat.reduceEqDiff, Nat.reduceAdd, bx, ax, if_true, if_false, Nat.reduceMul, Nat.reduceLeDiff, h1]))
      | refine Wp.skip ?_
      | refine Wp.label ?_
      | refine Wp.block ?_
      | refine Wp.exit ?_
      | refine Wp.seq ?_)
    refine Wp.ret ⟨trivial, _, rfl, ?_⟩
    simp only [go_sem, reduceIte, Nat.reduceEqDiff, Nat.reduceAdd, bx]
    rw [inB, h1]; exact VSub.refl _
  | false =>
    rw [h1] at b1
    by_cases h2 : b = []
    · have d2 := decide_eq_true h2
      repeat (first
        | ((first | apply Wp.seqItemsR | apply Wp.itemsR); (· simp only [go_sem, reduceIte, Nat.reduceEqDiff, Nat.reduceAdd, bx, ax, if_true, if_false, Nat.reduceMul, Nat.reduceLeDiff, d2]; exact rfl))
        | (refine WpItems.nil ⟨?_, ?_⟩; (· first | trivial | simp [pairsQ, pairsOk, apart, ent0]))
        | ((refine WpItems.pcall ?_ ?_ (b1) ?_; (· simp only [go_sem, reduceIte, Nat.reduceEqDiff, Nat.reduceAdd, bx]); (· simp only [go_sem, reduceIte, Nat.reduceEqDiff, Nat.reduceAdd, bx, List.map]; first | exact VSubs.refl _ | (repeat (first | exact VSubs.nil | refine VSubs.cons (by first | exact VSub.refl _ | assumption | exact VSub.cap | exact VSub.any _) ?_)))); apply WpItems.evR; (· simp only [go_sem, reduceIte, Nat.reduceEqDiff, Nat.reduceAdd, bx, ax, if_true, if_false, Nat.reduceMul, Nat.reduceLeDiff, d2]; exact rfl))
        | (refine Wp.cond_true ?_ ?_; (· simp only [go_sem, reduceIte, Nat.reduceEqDiff, Nat.reduceAdd, bx, ax, if_true, if_false, Nat.reduceMul, Nat.reduceLeDiff, d2]))
        | (refine Wp.cond_false ?_ ?_; (· simp only [go_sem, reduceIte, Nat.reduceEqDiff, Nat.reduceAdd, bx, ax, if_true, if_false, Nat.reduceMul, Nat.reduceLeDiff, d2]))
        | refine Wp.skip ?_
        | refine Wp.label ?_
        | refine Wp.block ?_
        | refine Wp.exit ?_
        | refine Wp.seq ?_)
      refine Wp.ret ⟨trivial, _, rfl, ?_⟩
      simp only [go_sem, reduceIte, Nat.reduceEqDiff, Nat.reduceAdd, bx]
      rw [inB, selP, h1, d2]; exact VSub.refl _
    · have d2 := decide_eq_false h2
      repeat (first
        | ((first | apply Wp.seqItemsR | apply Wp.itemsR); (· simp only [go_sem, reduceIte, Nat.reduceEqDiff, Nat.reduceAdd, bx, ax, if_true, if_false, Nat.reduceMul, Nat.reduceLeDiff, d2]; exact rfl))
        | (refine WpItems.nil ⟨?_, ?_⟩; (· first | trivial | simp [pairsQ, pairsOk, apart, ent0]))
        | ((first
          | (refine WpItems.pcall ?_ ?_ (b1) ?_; (· simp only [go_sem, reduceIte, Nat.reduceEqDiff, Nat.reduceAdd, bx]); (· simp only [go_sem, reduceIte, Nat.reduceEqDiff, Nat.reduceAdd, bx, List.map]; first | exact VSubs.refl _ | (repeat (first | exact VSubs.nil | refine VSubs.cons (by first | exact VSub.refl _ | assumption | exact VSub.cap | exact VSub.any _) ?_))))
          | (refine WpItems.pcall ?_ ?_ (b2) ?_; (· simp only [go_sem, reduceIte, Nat.reduceEqDiff, Nat.reduceAdd, bx]); (· simp only [go_sem, reduceIte, Nat.reduceEqDiff, Nat.reduceAdd, bx, List.map]; first | exact VSubs.refl _ | (repeat (first | exact VSubs.nil | refine VSubs.cons (by first | exact VSub.refl _ | assumption | exact VSub.cap | exact VSub.any _) ?_))))); apply WpItems.evR; (· simp only [go_sem, reduceIte, Nat.reduceEqDiff, Nat.reduceAdd, bx, ax, if_true, if_false, Nat.reduceMul, Nat.reduceLeDiff, d2]; exact rfl))
        | (refine Wp.cond_true ?_ ?_; (· simp only [go_sem, reduceIte, Nat.reduceEqDiff, Nat.reduceAdd, bx, ax, if_true, if_false, Nat.reduceMul, Nat.reduceLeDiff, d2]))
        | (refine Wp.cond_false ?_ ?_; (· simp only [go_sem, reduceIte, Nat.reduceEqDiff, Nat.reduceAdd, bx, ax, if_true, if_false, Nat.reduceMul, Nat.reduceLeDiff, d2]))
        | refine Wp.skip ?_
        | refine Wp.label ?_
        | refine Wp.block ?_
        | refine Wp.exit ?_
        | refine Wp.seq ?_)
      refine Wp.ret ⟨trivial, _, rfl, ?_⟩
      simp only [go_sem, reduceIte, Nat.reduceEqDiff, Nat.reduceAdd, bx]
      rw [inB, selP, h1, d2]; exact VSub.refl _
theorem mget_first {L : List It} {q : Bs} {j : Nat} (h : ∀ i, i < j → (L.getD i default).1 ≠ q) (hj : j < L.length) (he : (L.getD j default).1 = q) : mget L q = (L.getD j default).2 := by
  induction L generalizing j with
  | nil => simp at hj
  | cons p L ih =>
    cases j with
    | zero => simp only [List.getD_cons_zero] at he ⊢; simp [mget, he]
    | succ j =>
      have h0 := h 0 (by omega)
      simp only [List.getD_cons_zero] at h0
      simp only [List.getD_cons_succ] at he ⊢
      rw [mget, if_neg h0]
      exact ih (fun i hi => by have := h (i + 1) (by omega); simpa using this) (by simpa using hj) he
theorem mget_nowhere {L : List It} {q : Bs} (h : ∀ i, i < L.length → (L.getD i default).1 ≠ q) : mget L q = [] := by
  refine mget_none _ _ fun hm => ?_
  obtain ⟨p, hp, e⟩ := List.mem_map.1 hm
  obtain ⟨i, hi, rfl⟩ := List.mem_iff_getElem.1 hp
  exact h i hi (by rw [getD_el hi]; exact e)
theorem find_p (S : Spc) (hl : S.L.length ≤ 1000000) (q : Bs) : PCalls Try.prog 112 [encS S, .str q] (.sl 3 ((mget S.L q).map encV) .any) := by
  refine f112.pcalls0 (by simp) (by simp [allPure, isPure, encS_pure]) (by simp [isPure, capPure, vers_pure]) ?_
  unfold c112
  have hil : (S.L.map encI).length = S.L.length := by simp
  repeat (first
    | ((first | apply Wp.seqItemsR | apply Wp.itemsR); (· simp only [go_sem, reduceIte, Nat.reduceEqDiff, Nat.reduceAdd, bx, ax, if_true, if_false, Nat.reduceMul, Nat.reduceLeDiff, encS]; exact rfl))
    | (refine WpItems.nil ⟨?_, ?_⟩; (· first | trivial | simp [pairsQ, pairsOk, apart, ent0]))
    | (refine Wp.cond_true ?_ ?_; (· simp only [go_sem, reduceIte, Nat.reduceEqDiff, Nat.reduceAdd, bx, ax, if_true, if_false, Nat.reduceMul, Nat.reduceLeDiff, encS]))
    | (refine Wp.cond_false ?_ ?_; (· simp only [go_sem, reduceIte, Nat.reduceEqDiff, Nat.reduceAdd, bx, ax, if_true, if_false, Nat.reduceMul, Nat.reduceLeDiff, encS]))
    | refine Wp.skip ?_
    | refine Wp.label ?_
    | refine Wp.block ?_
    | refine Wp.exit ?_
    | refine Wp.seq ?_)
  refine Wp.loopK [1, 2] (by simp only [go_sem, reduceIte, Nat.reduceEqDiff, Nat.reduceAdd, bx, List.map]; exact rfl) (fun j : Nat => [(5, .int .i64 (j : Nat))]) (fun j => j ≤ S.L.length ∧ ∀ i, i < j → (S.L.getD i default).1 ≠ q) (fun j => S.L.length - j) 0 ⟨Nat.zero_le _, fun i h => absurd h (by omega)⟩ ?_ ?_
  · simp only [AllSub, go_sem, reduceIte, Nat.reduceEqDiff, Nat.reduceAdd, bx]; and_intros <;> first | exact trivial | exact VSub.refl _ | exact VSub.any _ | (refine VSub.int ?_; omega)
  rintro j ⟨hj, hno⟩
  by_cases hj2 : j < S.L.length
  · have g1 : decide (((j : Nat) : Int) < ((S.L.length : Nat) : Int)) = true := decide_eq_true (by omega)
    have h2 : (0 : Int) ≤ ((j : Nat) : Int) := by omega
    have h3 : ((j : Nat) : Int) < ((S.L.length : Nat) : Int) := by omega
    have e1 : IntKind.i64.wrap (((j : Nat) : Int) + 1) = ((j + 1 : Nat) : Int) := by rw [IntWalk.i64_in _ (by omega)]; omega
    have hat := enc_at encI S.L j .any hj2
    by_cases he : (S.L.getD j default).1 = q
    · have d1 := decide_eq_true he
      have hm := mget_first hno hj2 he
      generalize S.L.getD j default = x at *
      repeat (first
        | ((first | apply Wp.seqItemsR | apply Wp.itemsR); (· simp only [go_sem, reduceIte, Nat.reduceEqDiff, Nat.reduceAdd, bx, ax, if_true, if_false, Nat.reduceMul, Nat.reduceLeDiff, g1, h2, h3, hat, hil, encI, vAV, d1]; exact rfl))
        | (refine WpItems.nil ⟨?_, ?_⟩; (· first | trivial | simp [pairsQ, pairsOk, apart, ent0]))
        | (refine Wp.cond_true ?_ ?_; (· simp only [go_sem, reduceIte, Nat.reduceEqDiff, Nat.reduceAdd, bx, ax, if_true, if_false, Nat.reduceMul, Nat.reduceLeDiff, g1, h2, h3, hat, hil, encI, vAV, d1]))
        | (refine Wp.cond_false ?_ ?_; (· simp only [go_sem, reduceIte, Nat.reduceEqDiff, Nat.reduceAdd, bx, ax, if_true, if_false, Nat.reduceMul, Nat.reduceLeDiff, g1, h2, h3, hat, hil, encI, vAV, d1]))
        | refine Wp.skip ?_
        | refine Wp.label ?_
        | refine Wp.block ?_
        | refine Wp.exit ?_
        | refine Wp.seq ?_)
      refine Wp.ret ⟨trivial, _, rfl, ?_⟩
      simp only [go_sem, reduceIte, Nat.reduceEqDiff, Nat.reduceAdd, bx]
      rw [hm]; exact VSub.refl _
    · have d1 := decide_eq_false he
      have hno2 : ∀ i, i < j + 1 → (S.L.getD i default).1 ≠ q := fun i hi => by
        by_cases e : i = j
        · rw [e]; exact he
        · exact hno i (by omega)
      generalize S.L.getD j default = x at *
      repeat (first
        | ((first | apply Wp.seqItemsR | apply Wp.itemsR); (· simp only [go_sem, reduceIte, Nat.reduceEqDiff, Nat.reduceAdd, bx, ax, if_true, if_false, Nat.reduceMul, Nat.reduceLeDiff, g1, h2, h3, hat, hil, encI, vAV, d1, e1]; exact rfl))
        | (refine WpItems.nil ⟨?_, ?_⟩; (· first | trivial | simp [pairsQ, pairsOk, apart, ent0]))
        | (refine Wp.cond_true ?_ ?_; (· simp only [go_sem, reduceIte, Nat.reduceEqDiff, Nat.reduceAdd, bx, ax, if_true, if_false, Nat.reduceMul, Nat.reduceLeDiff, g1, h2, h3, hat, hil, encI, vAV, d1, e1]))
        | (refine Wp.cond_false ?_ ?_; (· simp only [go_sem, reduceIte, Nat.reduceEqDiff, Nat.reduceAdd, bx, ax, if_true, if_false, Nat.reduceMul, Nat.reduceLeDiff, g1, h2, h3, hat, hil, encI, vAV, d1, e1]))
        | refine Wp.skip ?_
        | refine Wp.label ?_
        | refine Wp.block ?_
        | refine Wp.exit ?_
        | refine Wp.seq ?_)
      refine ⟨j + 1, ⟨by omega, hno2⟩, by omega, ?_⟩
      refine StLe.tm (by simp only [AllSub, go_sem, reduceIte, Nat.reduceEqDiff, Nat.reduceAdd, bx]; and_intros <;> first | exact trivial | exact VSub.refl _ | exact VSub.any _ | (refine VSub.int ?_; omega))
  · have hje : j = S.L.length := by omega
    subst hje
    have g1 : decide (((S.L.length : Nat) : Int) < ((S.L.length : Nat) : Int)) = false := decide_eq_false (by omega)
    repeat (first
      | ((first | apply Wp.seqItemsR | apply Wp.itemsR); (· simp only [go_sem, reduceIte, Nat.reduceEqDiff, Nat.reduceAdd, bx, ax, if_true, if_false, Nat.reduceMul, Nat.reduceLeDiff, g1, hil]; exact rfl))
      | (refine WpItems.nil ⟨?_, ?_⟩; (· first | trivial | simp [pairsQ, pairsOk, apart, ent0]))
      | (refine Wp.cond_true ?_ ?_; (· simp only [go_sem, reduceIte, Nat.reduceEqDiff, Nat.reduceAdd, bx, ax, if_true, if_false, Nat.reduceMul, Nat.reduceLeDiff, g1, hil]))
      | (refine Wp.cond_false ?_ ?_; (· simp only [go_sem, reduceIte, Nat.reduceEqDiff, Nat.reduceAdd, bx, ax, if_true, if_false, Nat.reduceMul, Nat.reduceLeDiff, g1, hil]))
      | refine Wp.skip ?_
      | refine Wp.label ?_
      | refine Wp.block ?_
      | refine Wp.exit ?_
      | refine Wp.seq ?_)
    refine Wp.ret ⟨trivial, _, rfl, ?_⟩
    simp only [go_sem, reduceIte, Nat.reduceEqDiff, Nat.reduceAdd, bx]
    rw [mget_nowhere hno]; exact VSub.cap
theorem getR_p (S : Spc) (hS : Small S) (q : Bs) (t : Int) : PCalls Try.prog 69 [encS S, .str q, .int .i64 t] (.tup [.str (getB S q t).1, .int .i64 (getB S q t).2]) := by
  refine f69.pcalls0 (by simp) (by simp [allPure, isPure, encS_pure]) rfl ?_
  unfold c69
  have hk := keptR_p S t
  have hf := find_p S (by have := hS.1; omega) q
  have hat := atR_p (mget S.L q) (by have := hS.2 q; omega) t
  by_cases h1 : keptB S t = 0
  · have d1 := decide_eq_true h1
    cases ha : (atB (mget S.L q) t).2 with
    | true =>
      rw [ha] at hat
      repeat (first
        | ((first | apply Wp.seqItemsR | apply Wp.itemsR); (· simp only [go_sem, reduceIte, Nat.reduceEqDiff, Nat.reduceAdd, bx, ax, if_true, if_false, Nat.reduceMul, Nat.reduceLeDiff, encS, d1]; exact rfl))
        | (refine WpItems.nil ⟨?_, ?_⟩; (· first | trivial | simp [pairsQ, pairsOk, apart, ent0]))
        | ((first
          | (refine WpItems.pcall ?_ ?_ (hk) ?_; (· simp only [go_sem, reduceIte, Nat.reduceEqDiff, Nat.reduceAdd, bx]); (· simp only [go_sem, reduceIte, Nat.reduceEqDiff, Nat.reduceAdd, bx, List.map]; first | exact VSubs.refl _ | (repeat (first | exact VSubs.nil | refine VSubs.cons (by first | exact VSub.refl _ | assumption | exact VSub.cap | exact VSub.any _) ?_))))
          | (refine WpItems.pcall ?_ ?_ (hf) ?_; (· simp only [go_sem, reduceIte, Nat.reduceEqDiff, Nat.reduceAdd, bx]); (· simp only [go_sem, reduceIte, Nat.reduceEqDiff, Nat.reduceAdd, bx, List.map]; first | exact VSubs.refl _ | (repeat (first | exact VSubs.nil | refine VSubs.cons (by first | exact VSub.refl _ | assumption | exact VSub.cap | exact VSub.any _) ?_))))
          | (refine WpItems.pcall ?_ ?_ (hat) ?_; (· simp only [go_sem, reduceIte, Nat.reduceEqDiff, Nat.reduceAdd, bx]); (· simp only [go_sem, reduceIte, Nat.reduceEqDiff, Nat.reduceAdd, bx, List.map]; first | exact VSubs.refl _ | (repeat (first | exact VSubs.nil | refine VSubs.cons (by first | exact VSub.refl _ | assumption | exact VSub.cap | exact VSub.any _) ?_))))); apply WpItems.evR; (· simp only [go_sem, reduceIte, Nat.reduceEqDiff, Nat.reduceAdd, bx, ax, if_true, if_false, Nat.reduceMul, Nat.reduceLeDiff, encS, d1]; exact rfl))
        | (refine Wp.cond_true ?_ ?_; (· simp only [go_sem, reduceIte, Nat.reduceEqDiff, Nat.reduceAdd, bx, ax, if_true, if_false, Nat.reduceMul, Nat.reduceLeDiff, encS, d1]))
        | (refine Wp.cond_false ?_ ?_; (· simp only [go_sem, reduceIte, Nat.reduceEqDiff, Nat.reduceAdd, bx, ax, if_true, if_false, Nat.reduceMul, Nat.reduceLeDiff, encS, d1]))
        | refine Wp.skip ?_
        | refine Wp.label ?_
        | refine Wp.block ?_
        | refine Wp.exit ?_
        | refine Wp.seq ?_)
      refine Wp.ret ⟨trivial, _, rfl, ?_⟩
      simp only [go_sem, reduceIte, Nat.reduceEqDiff, Nat.reduceAdd, bx]
      rw [getB, if_pos h1, if_pos ha]; exact VSub.refl _
    | false =>
      rw [ha] at hat
      repeat (first
        | ((first | apply Wp.seqItemsR | apply Wp.itemsR); (· simp only [go_sem, reduceIte, Nat.reduceEqDiff, Nat.reduceAdd, bx, ax, if_true, if_false, Nat.reduceMul, Nat.reduceLeDiff, encS, d1]; exact rfl))
        | (refine WpItems.nil ⟨?_, ?_⟩; (· first | trivial | simp [pairsQ, pairsOk, apart, ent0]))
        | ((first
          | (refine WpItems.pcall ?_ ?_ (hk) ?_; (· simp only [go_sem, reduceIte, Nat.reduceEqDiff, Nat.reduceAdd, bx]); (· simp only [go_sem, reduceIte, Nat.reduceEqDiff, Nat.reduceAdd, bx, List.map]; first | exact VSubs.refl _ | (repeat (first | exact VSubs.nil | refine VSubs.cons (by first | exact VSub.refl _ | assumption | exact VSub.cap | exact VSub.any _) ?_))))
          | (refine WpItems.pcall ?_ ?_ (hf) ?_; (· simp only [go_sem, reduceIte, Nat.reduceEqDiff, Nat.reduceAdd, bx]); (· simp only [go_sem, reduceIte, Nat.reduceEqDiff, Nat.reduceAdd, bx, List.map]; first | exact VSubs.refl _ | (repeat (first | exact VSubs.nil | refine VSubs.cons (by first | exact VSub.refl _ | assumption | exact VSub.cap | exact VSub.any _) ?_))))
          | (refine WpItems.pcall ?_ ?_ (hat) ?_; (· simp only [go_sem, reduceIte, Nat.reduceEqDiff, Nat.reduceAdd, bx]); (· simp only [go_sem, reduceIte, Nat.reduceEqDiff, Nat.reduceAdd, bx, List.map]; first | exact VSubs.refl _ | (repeat (first | exact VSubs.nil | refine VSubs.cons (by first | exact VSub.refl _ | assumption | exact VSub.cap | exact VSub.any _) ?_))))); apply WpItems.evR; (· simp only [go_sem, reduceIte, Nat.reduceEqDiff, Nat.reduceAdd, bx, ax, if_true, if_false, Nat.reduceMul, Nat.reduceLeDiff, encS, d1]; exact rfl))
        | (refine Wp.cond_true ?_ ?_; (· simp only [go_sem, reduceIte, Nat.reduceEqDiff, Nat.reduceAdd, bx, ax, if_true, if_false, Nat.reduceMul, Nat.reduceLeDiff, encS, d1]))
        | (refine Wp.cond_false ?_ ?_; (· simp only [go_sem, reduceIte, Nat.reduceEqDiff, Nat.reduceAdd, bx, ax, if_true, if_false, Nat.reduceMul, Nat.reduceLeDiff, encS, d1]))
        | refine Wp.skip ?_
        | refine Wp.label ?_
        | refine Wp.block ?_
        | refine Wp.exit ?_
        | refine Wp.seq ?_)
      refine Wp.ret ⟨trivial, _, rfl, ?_⟩
      simp only [go_sem, reduceIte, Nat.reduceEqDiff, Nat.reduceAdd, bx]
      rw [getB, if_pos h1, if_neg (by simp [ha])]; exact VSub.refl _
  · have d1 := decide_eq_false h1
    repeat (first
      | ((first | apply Wp.seqItemsR | apply Wp.itemsR); (· simp only [go_sem, reduceIte, Nat.reduceEqDiff, Nat.reduceAdd, bx, ax, if_true, if_false, Nat.reduceMul, Nat.reduceLeDiff, encS, d1]; exact rfl))
      | (refine WpItems.nil ⟨?_, ?_⟩; (· first | trivial | simp [pairsQ, pairsOk, apart, ent0]))
      | ((refine WpItems.pcall ?_ ?_ (hk) ?_; (· simp only [go_sem, reduceIte, Nat.reduceEqDiff, Nat.reduceAdd, bx]); (· simp only [go_sem, reduceIte, Nat.reduceEqDiff, Nat.reduceAdd, bx, List.map]; first | exact VSubs.refl _ | (repeat (first | exact VSubs.nil | refine VSubs.cons (by first | exact VSub.refl _ | assumption | exact VSub.cap | exact VSub.any _) ?_)))); apply WpItems.evR; (· simp only [go_sem, reduceIte, Nat.reduceEqDiff, Nat.reduceAdd, bx, ax, if_true, if_false, Nat.reduceMul, Nat.reduceLeDiff, encS, d1]; exact rfl))
      | (refine Wp.cond_true ?_ ?_; (· simp only [go_sem, reduceIte, Nat.reduceEqDiff, Nat.reduceAdd, bx, ax, if_true, if_false, Nat.reduceMul, Nat.reduceLeDiff, encS, d1]))
      | (refine Wp.cond_false ?_ ?_; (· simp only [go_sem, reduceIte, Nat.reduceEqDiff, Nat.reduceAdd, bx, ax, if_true, if_false, Nat.reduceMul, Nat.reduceLeDiff, encS, d1]))
      | refine Wp.skip ?_
      | refine Wp.label ?_
      | refine Wp.block ?_
      | refine Wp.exit ?_
      | refine Wp.seq ?_)
    refine Wp.ret ⟨trivial, _, rfl, ?_⟩
    simp only [go_sem, reduceIte, Nat.reduceEqDiff, Nat.reduceAdd, bx]
    rw [getB, if_neg h1]; exact VSub.refl _
end Go.Proofs.Ytpehfflehebmbaa.Space
end
section
set_option linter.unusedSimpArgs false
set_option linter.unusedVariables false
set_option maxRecDepth 10000
namespace Go.Proofs.Ytpehfflehebmbaa.Space
open Go Go.Av Go.Proofs Go.Proofs.Ytpehfflehebmbaa.C Go.Proofs.Ytpehfflehebmbaa.Batch
theorem rooms32 {n : Nat} (h : n ≤ 2000000) : (n + 1) * 32 ≤ 140737488355328 ∧ n + 1 < 4611686018427387904 ∧ (n + 1 + 1) * 32 ≤ 140737488355328 ∧ n + 1 + 1 < 4611686018427387904 := by omega
theorem lsI {L : List It} (h : ∀ p ∈ L, Ls p.1) {j : Nat} (hj : j < L.length) : Ls (L.getD j default).1 := by
  rw [getD_el hj]; exact h _ (List.getElem_mem hj)
set_option maxHeartbeats 1000000 in
theorem sameI_p (a b : List It) (ha : a.length ≤ 1000000) (hv : ∀ p ∈ a, p.2.length ≤ 1000000) : PCalls Try.prog 68 [.sl 2 (a.map encI) .any, .sl 2 (b.map encI) .any] (.bool (decide (a = b))) := by
  refine f68.pcalls0 (by simp) (by simp [allPure, isPure, capPure, its_pure]) rfl ?_
  unfold c68
  by_cases hab : a.length = b.length
  · have g0 : decide ((a.length : Int) = (b.length : Int)) = true := decide_eq_true (by omega)
    repeat (first
      | ((first | apply Wp.seqItemsR | apply Wp.itemsR); (· simp only [go_sem, reduceIte, Nat.reduceEqDiff, Nat.reduceAdd, bx, ax, if_true, if_false, Nat.reduceMul, Nat.reduceLeDiff, g0, List.length_map]; exact rfl))
      | (refine WpItems.nil ⟨?_, ?_⟩; (· first | trivial | simp [pairsQ, pairsOk, apart, ent0]))
      | (refine Wp.cond_true ?_ ?_; (· simp only [go_sem, reduceIte, Nat.reduceEqDiff, Nat.reduceAdd, bx, ax, if_true, if_false, Nat.reduceMul, Nat.reduceLeDiff, g0, List.length_map]))
      | (refine Wp.cond_false ?_ ?_; (· simp only [go_sem, reduceIte, Nat.reduceEqDiff, Nat.reduceAdd, bx, ax, if_true, if_false, Nat.reduceMul, Nat.reduceLeDiff, g0, List.length_map]))
      | refine Wp.skip ?_
      | refine Wp.label ?_
      | refine Wp.block ?_
      | refine Wp.exit ?_
      | refine Wp.seq ?_)
    refine Wp.loopK [0, 1] (by simp only [go_sem, reduceIte, Nat.reduceEqDiff, Nat.reduceAdd, bx, List.map]; exact rfl) (fun j : Nat => [(5, .int .i64 (j : Nat))]) (fun j => j ≤ a.length ∧ ∀ i, i < j → a.getD i default = b.getD i default) (fun j => a.length - j) 0 ⟨Nat.zero_le _, fun i h => absurd h (by omega)⟩ ?_ ?_
    · simp only [AllSub, go_sem, reduceIte, Nat.reduceEqDiff, Nat.reduceAdd, bx]; and_intros <;> first | exact trivial | exact VSub.refl _ | exact VSub.any _ | (refine VSub.int ?_; omega)
    rintro j ⟨hj, hs⟩
    by_cases hc : j < a.length
    · have g1 : decide (((j : Nat) : Int) < ((a.length : Nat) : Int)) = true := decide_eq_true (by omega)
      have h2 : (0 : Int) ≤ ((j : Nat) : Int) := by omega
      have h3 : ((j : Nat) : Int) < ((a.length : Nat) : Int) := by omega
      have e1 : IntKind.i64.wrap (((j : Nat) : Int) + 1) = ((j + 1 : Nat) : Int) := by rw [IntWalk.i64_in _ (by omega)]; omega
      have h3' : (j : Int) < (b.length : Int) := by omega
      have hat := enc_at encI a j .any hc
      have hat2 := enc_at encI b j .any (by omega)
      have hsm := same_p (a.getD j default).2 (b.getD j default).2 (by have := hv (a.getD j default) (by rw [getD_el hc]; exact List.getElem_mem hc); omega)
      by_cases hk : (a.getD j default).1 = (b.getD j default).1
      · have d1 := decide_eq_true hk
        by_cases hw : (a.getD j default).2 = (b.getD j default).2
        · have d2 := decide_eq_true hw
          rw [d2] at hsm
          have hs2 : ∀ i, i < j + 1 → a.getD i default = b.getD i default := fun i hi => by
            by_cases e : i = j
            · rw [e]; exact Prod.ext hk hw
            · exact hs i (by omega)
          generalize a.getD j default = x at *
          generalize b.getD j default = y at *
          repeat (first
            | ((first | apply Wp.seqItemsR | apply Wp.itemsR); (· simp only [go_sem, reduceIte, Nat.reduceEqDiff, Nat.reduceAdd, bx, ax, if_true, if_false, Nat.reduceMul, Nat.reduceLeDiff, g1, h2, h3, h3', e1, d1, List.length_map, hat, hat2, encI, vAV]; exact rfl))
            | (refine WpItems.nil ⟨?_, ?_⟩; (· first | trivial | simp [pairsQ, pairsOk, apart, ent0]))
            | ((refine WpItems.pcall ?_ ?_ (hsm) ?_; (· simp only [go_sem, reduceIte, Nat.reduceEqDiff, Nat.reduceAdd, bx]); (· simp only [go_sem, reduceIte, Nat.reduceEqDiff, Nat.reduceAdd, bx, List.map]; first | exact VSubs.refl _ | (repeat (first | exact VSubs.nil | refine VSubs.cons (by first | exact VSub.refl _ | assumption | exact VSub.cap | exact VSub.any _) ?_)))); apply WpItems.evR; (· simp only [go_sem, reduceIte, Nat.reduceEqDiff, Nat.reduceAdd, bx, ax, if_true, if_false, Nat.reduceMul, Nat.reduceLeDiff, g1, h2, h3, h3', e1, d1, List.length_map, hat, hat2, encI, vAV]; exact rfl))
            | (refine Wp.cond_true ?_ ?_; (· simp only [go_sem, reduceIte, Nat.reduceEqDiff, Nat.reduceAdd, bx, ax, if_true, if_false, Nat.reduceMul, Nat.reduceLeDiff, g1, h2, h3, h3', e1, d1, List.length_map, hat, hat2, encI, vAV]))
            | (refine Wp.cond_false ?_ ?_; (· simp only [go_sem, reduceIte, Nat.reduceEqDiff, Nat.reduceAdd, bx, ax, if_true, if_false, Nat.reduceMul, Nat.reduceLeDiff, g1, h2, h3, h3', e1, d1, List.length_map, hat, hat2, encI, vAV]))
            | refine Wp.skip ?_
            | refine Wp.label ?_
            | refine Wp.block ?_
            | refine Wp.exit ?_
            | refine Wp.seq ?_)
          refine ⟨j + 1, ⟨by omega, hs2⟩, by omega, ?_⟩
          refine StLe.tm (by simp only [AllSub, go_sem, reduceIte, Nat.reduceEqDiff, Nat.reduceAdd, bx]; and_intros <;> first | exact trivial | exact VSub.refl _ | exact VSub.any _ | (refine VSub.int ?_; omega))
        · have d2 := decide_eq_false hw
          rw [d2] at hsm
          have hne : a ≠ b := fun e => hw (by rw [e])
          generalize a.getD j default = x at *
          generalize b.getD j default = y at *
          repeat (first
            | ((first | apply Wp.seqItemsR | apply Wp.itemsR); (· simp only [go_sem, reduceIte, Nat.reduceEqDiff, Nat.reduceAdd, bx, ax, if_true, if_false, Nat.reduceMul, Nat.reduceLeDiff, g1, h2, h3, h3', e1, d1, List.length_map, hat, hat2, encI, vAV]; exact rfl))
            | (refine WpItems.nil ⟨?_, ?_⟩; (· first | trivial | simp [pairsQ, pairsOk, apart, ent0]))
            | ((refine WpItems.pcall ?_ ?_ (hsm) ?_; (· simp only [go_sem, reduceIte, Nat.reduceEqDiff, Nat.reduceAdd, bx]); (· simp only [go_sem, reduceIte, Nat.reduceEqDiff, Nat.reduceAdd, bx, List.map]; first | exact VSubs.refl _ | (repeat (first | exact VSubs.nil | refine VSubs.cons (by first | exact VSub.refl _ | assumption | exact VSub.cap | exact VSub.any _) ?_)))); apply WpItems.evR; (· simp only [go_sem, reduceIte, Nat.reduceEqDiff, Nat.reduceAdd, bx, ax, if_true, if_false, Nat.reduceMul, Nat.reduceLeDiff, g1, h2, h3, h3', e1, d1, List.length_map, hat, hat2, encI, vAV]; exact rfl))
            | (refine Wp.cond_true ?_ ?_; (· simp only [go_sem, reduceIte, Nat.reduceEqDiff, Nat.reduceAdd, bx, ax, if_true, if_false, Nat.reduceMul, Nat.reduceLeDiff, g1, h2, h3, h3', e1, d1, List.length_map, hat, hat2, encI, vAV]))
            | (refine Wp.cond_false ?_ ?_; (· simp only [go_sem, reduceIte, Nat.reduceEqDiff, Nat.reduceAdd, bx, ax, if_true, if_false, Nat.reduceMul, Nat.reduceLeDiff, g1, h2, h3, h3', e1, d1, List.length_map, hat, hat2, encI, vAV]))
            | refine Wp.skip ?_
            | refine Wp.label ?_
            | refine Wp.block ?_
            | refine Wp.exit ?_
            | refine Wp.seq ?_)
          refine Wp.ret ⟨trivial, _, rfl, ?_⟩
          simp only [go_sem, reduceIte, Nat.reduceEqDiff, Nat.reduceAdd, bx]
          rw [decide_eq_false hne]; exact VSub.refl _
      · have d1 := decide_eq_false hk
        have hne : a ≠ b := fun e => hk (by rw [e])
        generalize a.getD j default = x at *
        generalize b.getD j default = y at *
        repeat (first
          | ((first | apply Wp.seqItemsR | apply Wp.itemsR); (· simp only [go_sem, reduceIte, Nat.reduceEqDiff, Nat.reduceAdd, bx, ax, if_true, if_false, Nat.reduceMul, Nat.reduceLeDiff, g1, h2, h3, h3', e1, d1, List.length_map, hat, hat2, encI, vAV]; exact rfl))
          | (refine WpItems.nil ⟨?_, ?_⟩; (· first | trivial | simp [pairsQ, pairsOk, apart, ent0]))
          | (refine Wp.cond_true ?_ ?_; (· simp only [go_sem, reduceIte, Nat.reduceEqDiff, Nat.reduceAdd, bx, ax, if_true, if_false, Nat.reduceMul, Nat.reduceLeDiff, g1, h2, h3, h3', e1, d1, List.length_map, hat, hat2, encI, vAV]))
          | (refine Wp.cond_false ?_ ?_; (· simp only [go_sem, reduceIte, Nat.reduceEqDiff, Nat.reduceAdd, bx, ax, if_true, if_false, Nat.reduceMul, Nat.reduceLeDiff, g1, h2, h3, h3', e1, d1, List.length_map, hat, hat2, encI, vAV]))
          | refine Wp.skip ?_
          | refine Wp.label ?_
          | refine Wp.block ?_
          | refine Wp.exit ?_
          | refine Wp.seq ?_)
        refine Wp.ret ⟨trivial, _, rfl, ?_⟩
        simp only [go_sem, reduceIte, Nat.reduceEqDiff, Nat.reduceAdd, bx]
        rw [decide_eq_false hne]; exact VSub.refl _
    · obtain rfl : j = a.length := by omega
      have g1 : decide (((a.length : Nat) : Int) < ((a.length : Nat) : Int)) = false := decide_eq_false (by omega)
      repeat (first
        | ((first | apply Wp.seqItemsR | apply Wp.itemsR); (· simp only [go_sem, reduceIte, Nat.reduceEqDiff, Nat.reduceAdd, bx, ax, if_true, if_false, Nat.reduceMul, Nat.reduceLeDiff, g1, List.length_map]; exact rfl))
        | (refine WpItems.nil ⟨?_, ?_⟩; (· first | trivial | simp [pairsQ, pairsOk, apart, ent0]))
        | (refine Wp.cond_true ?_ ?_; (· simp only [go_sem, reduceIte, Nat.reduceEqDiff, Nat.reduceAdd, bx, ax, if_true, if_false, Nat.reduceMul, Nat.reduceLeDiff, g1, List.length_map]))
        | (refine Wp.cond_false ?_ ?_; (· simp only [go_sem, reduceIte, Nat.reduceEqDiff, Nat.reduceAdd, bx, ax, if_true, if_false, Nat.reduceMul, Nat.reduceLeDiff, g1, List.length_map]))
        | refine Wp.skip ?_
        | refine Wp.label ?_
        | refine Wp.block ?_
        | refine Wp.exit ?_
        | refine Wp.seq ?_)
      refine Wp.ret ⟨trivial, _, rfl, ?_⟩
      simp only [go_sem, reduceIte, Nat.reduceEqDiff, Nat.reduceAdd, bx]
      have : a = b := by
        refine List.ext_getElem hab fun i h1 h2 => ?_
        have := hs i h1
        rwa [getD_el h1, getD_el h2] at this
      rw [decide_eq_true this]; exact VSub.refl _
  · have g0 : decide ((a.length : Int) = (b.length : Int)) = false := decide_eq_false (by omega)
    repeat (first
      | ((first | apply Wp.seqItemsR | apply Wp.itemsR); (· simp only [go_sem, reduceIte, Nat.reduceEqDiff, Nat.reduceAdd, bx, ax, if_true, if_false, Nat.reduceMul, Nat.reduceLeDiff, g0, List.length_map]; exact rfl))
      | (refine WpItems.nil ⟨?_, ?_⟩; (· first | trivial | simp [pairsQ, pairsOk, apart, ent0]))
      | (refine Wp.cond_true ?_ ?_; (· simp only [go_sem, reduceIte, Nat.reduceEqDiff, Nat.reduceAdd, bx, ax, if_true, if_false, Nat.reduceMul, Nat.reduceLeDiff, g0, List.length_map]))
      | (refine Wp.cond_false ?_ ?_; (· simp only [go_sem, reduceIte, Nat.reduceEqDiff, Nat.reduceAdd, bx, ax, if_true, if_false, Nat.reduceMul, Nat.reduceLeDiff, g0, List.length_map]))
      | refine Wp.skip ?_
      | refine Wp.label ?_
      | refine Wp.block ?_
      | refine Wp.exit ?_
      | refine Wp.seq ?_)
    refine Wp.ret ⟨trivial, _, rfl, ?_⟩
    simp only [go_sem, reduceIte, Nat.reduceEqDiff, Nat.reduceAdd, bx]
    rw [decide_eq_false (fun e => hab (by rw [e]))]; exact VSub.refl _
theorem samePr_p (a b : List Pr) (ha : a.length ≤ 1000000) : PCalls Try.prog 18 [.sl 2 (prs a) .any, .sl 2 (prs b) .any] (.bool (decide (a = b))) := by
  refine f18.pcalls0 (by simp) (by simp [allPure, isPure, capPure, prs_pure]) rfl ?_
  unfold c18
  by_cases hab : a.length = b.length
  · have g0 : decide ((a.length : Int) = (b.length : Int)) = true := decide_eq_true (by omega)
    repeat (first
      | ((first | apply Wp.seqItemsR | apply Wp.itemsR); (· simp only [go_sem, reduceIte, Nat.reduceEqDiff, Nat.reduceAdd, bx, ax, if_true, if_false, Nat.reduceMul, Nat.reduceLeDiff, g0, prs_length]; exact rfl))
      | (refine WpItems.nil ⟨?_, ?_⟩; (· first | trivial | simp [pairsQ, pairsOk, apart, ent0]))
      | (refine Wp.cond_true ?_ ?_; (· simp only [go_sem, reduceIte, Nat.reduceEqDiff, Nat.reduceAdd, bx, ax, if_true, if_false, Nat.reduceMul, Nat.reduceLeDiff, g0, prs_length]))
      | (refine Wp.cond_false ?_ ?_; (· simp only [go_sem, reduceIte, Nat.reduceEqDiff, Nat.reduceAdd, bx, ax, if_true, if_false, Nat.reduceMul, Nat.reduceLeDiff, g0, prs_length]))
      | refine Wp.skip ?_
      | refine Wp.label ?_
      | refine Wp.block ?_
      | refine Wp.exit ?_
      | refine Wp.seq ?_)
    refine Wp.loopK [0, 1] (by simp only [go_sem, reduceIte, Nat.reduceEqDiff, Nat.reduceAdd, bx, List.map]; exact rfl) (fun j : Nat => [(5, .int .i64 (j : Nat))]) (fun j => j ≤ a.length ∧ ∀ i, i < j → a.getD i default = b.getD i default) (fun j => a.length - j) 0 ⟨Nat.zero_le _, fun i h => absurd h (by omega)⟩ ?_ ?_
    · simp only [AllSub, go_sem, reduceIte, Nat.reduceEqDiff, Nat.reduceAdd, bx]; and_intros <;> first | exact trivial | exact VSub.refl _ | exact VSub.any _ | (refine VSub.int ?_; omega)
    rintro j ⟨hj, hs⟩
    by_cases hc : j < a.length
    · have g1 : decide (((j : Nat) : Int) < ((a.length : Nat) : Int)) = true := decide_eq_true (by omega)
      have h2 : (0 : Int) ≤ ((j : Nat) : Int) := by omega
      have h3 : ((j : Nat) : Int) < ((a.length : Nat) : Int) := by omega
      have e1 : IntKind.i64.wrap (((j : Nat) : Int) + 1) = ((j + 1 : Nat) : Int) := by rw [IntWalk.i64_in _ (by omega)]; omega
      have h3' : (j : Int) < (b.length : Int) := by omega
      have he : ∀ (x y : Pr), (decide (x.k = y.k) && decide (x.v = y.v)) = decide (x = y) := by
        rintro ⟨x1, x2⟩ ⟨y1, y2⟩
        rw [Bool.eq_iff_iff]; simp
      cases hp : decide (a.getD j default = b.getD j default) with
      | true =>
        have hp' := (he _ _).trans hp
        repeat (first
          | ((first | apply Wp.seqItemsR | apply Wp.itemsR); (· simp only [go_sem, reduceIte, Nat.reduceEqDiff, Nat.reduceAdd, bx, ax, if_true, if_false, Nat.reduceMul, Nat.reduceLeDiff, g1, h2, h3, h3', e1, hp', prs_length, prs_getD _ _ _ hc, prs_getD b j _ (show j < b.length by omega), encPr]; exact rfl))
          | (refine WpItems.nil ⟨?_, ?_⟩; (· first | trivial | simp [pairsQ, pairsOk, apart, ent0]))
          | (refine Wp.cond_true ?_ ?_; (· simp only [go_sem, reduceIte, Nat.reduceEqDiff, Nat.reduceAdd, bx, ax, if_true, if_false, Nat.reduceMul, Nat.reduceLeDiff, g1, h2, h3, h3', e1, hp', prs_length, prs_getD _ _ _ hc, prs_getD b j _ (show j < b.length by omega), encPr]))
          | (refine Wp.cond_false ?_ ?_; (· simp only [go_sem, reduceIte, Nat.reduceEqDiff, Nat.reduceAdd, bx, ax, if_true, if_false, Nat.reduceMul, Nat.reduceLeDiff, g1, h2, h3, h3', e1, hp', prs_length, prs_getD _ _ _ hc, prs_getD b j _ (show j < b.length by omega), encPr]))
          | refine Wp.skip ?_
          | refine Wp.label ?_
          | refine Wp.block ?_
          | refine Wp.exit ?_
          | refine Wp.seq ?_)
        refine ⟨j + 1, ⟨by omega, fun i hi => ?_⟩, by omega, ?_⟩
        · by_cases e : i = j
          · subst e; exact of_decide_eq_true hp
          · exact hs i (by omega)
        · refine StLe.tm (by simp only [AllSub, go_sem, reduceIte, Nat.reduceEqDiff, Nat.reduceAdd, bx]; and_intros <;> first | exact trivial | exact VSub.refl _ | exact VSub.any _ | (refine VSub.int ?_; omega))
      | false =>
        have hp' := (he _ _).trans hp
        repeat (first
          | ((first | apply Wp.seqItemsR | apply Wp.itemsR); (· simp only [go_sem, reduceIte, Nat.reduceEqDiff, Nat.reduceAdd, bx, ax, if_true, if_false, Nat.reduceMul, Nat.reduceLeDiff, g1, h2, h3, h3', e1, hp', prs_length, prs_getD _ _ _ hc, prs_getD b j _ (show j < b.length by omega), encPr]; exact rfl))
          | (refine WpItems.nil ⟨?_, ?_⟩; (· first | trivial | simp [pairsQ, pairsOk, apart, ent0]))
          | (refine Wp.cond_true ?_ ?_; (· simp only [go_sem, reduceIte, Nat.reduceEqDiff, Nat.reduceAdd, bx, ax, if_true, if_false, Nat.reduceMul, Nat.reduceLeDiff, g1, h2, h3, h3', e1, hp', prs_length, prs_getD _ _ _ hc, prs_getD b j _ (show j < b.length by omega), encPr]))
          | (refine Wp.cond_false ?_ ?_; (· simp only [go_sem, reduceIte, Nat.reduceEqDiff, Nat.reduceAdd, bx, ax, if_true, if_false, Nat.reduceMul, Nat.reduceLeDiff, g1, h2, h3, h3', e1, hp', prs_length, prs_getD _ _ _ hc, prs_getD b j _ (show j < b.length by omega), encPr]))
          | refine Wp.skip ?_
          | refine Wp.label ?_
          | refine Wp.block ?_
          | refine Wp.exit ?_
          | refine Wp.seq ?_)
        refine Wp.ret ⟨trivial, _, rfl, ?_⟩
        simp only [go_sem, reduceIte, Nat.reduceEqDiff, Nat.reduceAdd, bx]
        rw [decide_eq_false (fun e => of_decide_eq_false hp (by rw [e]))]; exact VSub.refl _
    · obtain rfl : j = a.length := by omega
      have g1 : decide (((a.length : Nat) : Int) < ((a.length : Nat) : Int)) = false := decide_eq_false (by omega)
      repeat (first
        | ((first | apply Wp.seqItemsR | apply Wp.itemsR); (· simp only [go_sem, reduceIte, Nat.reduceEqDiff, Nat.reduceAdd, bx, ax, if_true, if_false, Nat.reduceMul, Nat.reduceLeDiff, g1, prs_length]; exact rfl))
        | (refine WpItems.nil ⟨?_, ?_⟩; (· first | trivial | simp [pairsQ, pairsOk, apart, ent0]))
        | (refine Wp.cond_true ?_ ?_; (· simp only [go_sem, reduceIte, Nat.reduceEqDiff, Nat.reduceAdd, bx, ax, if_true, if_false, Nat.reduceMul, Nat.reduceLeDiff, g1, prs_length]))
        | (refine Wp.cond_false ?_ ?_; (· simp only [go_sem, reduceIte, Nat.reduceEqDiff, Nat.reduceAdd, bx, ax, if_true, if_false, Nat.reduceMul, Nat.reduceLeDiff, g1, prs_length]))
        | refine Wp.skip ?_
        | refine Wp.label ?_
        | refine Wp.block ?_
        | refine Wp.exit ?_
        | refine Wp.seq ?_)
      refine Wp.ret ⟨trivial, _, rfl, ?_⟩
      simp only [go_sem, reduceIte, Nat.reduceEqDiff, Nat.reduceAdd, bx]
      have : a = b := by
        refine List.ext_getElem hab fun i h1 h2 => ?_
        have := hs i h1
        rwa [getD_el h1, getD_el h2] at this
      rw [decide_eq_true this]; exact VSub.refl _
  · have g0 : decide ((a.length : Int) = (b.length : Int)) = false := decide_eq_false (by omega)
    repeat (first
      | ((first | apply Wp.seqItemsR | apply Wp.itemsR); (· simp only [go_sem, reduceIte, Nat.reduceEqDiff, Nat.reduceAdd, bx, ax, if_true, if_false, Nat.reduceMul, Nat.reduceLeDiff, g0, prs_length]; exact rfl))
      | (refine WpItems.nil ⟨?_, ?_⟩; (· first | trivial | simp [pairsQ, pairsOk, apart, ent0]))
      | (refine Wp.cond_true ?_ ?_; (· simp only [go_sem, reduceIte, Nat.reduceEqDiff, Nat.reduceAdd, bx, ax, if_true, if_false, Nat.reduceMul, Nat.reduceLeDiff, g0, prs_length]))
      | (refine Wp.cond_false ?_ ?_; (· simp only [go_sem, reduceIte, Nat.reduceEqDiff, Nat.reduceAdd, bx, ax, if_true, if_false, Nat.reduceMul, Nat.reduceLeDiff, g0, prs_length]))
      | refine Wp.skip ?_
      | refine Wp.label ?_
      | refine Wp.block ?_
      | refine Wp.exit ?_
      | refine Wp.seq ?_)
    refine Wp.ret ⟨trivial, _, rfl, ?_⟩
    simp only [go_sem, reduceIte, Nat.reduceEqDiff, Nat.reduceAdd, bx]
    rw [decide_eq_false (fun e => hab (by rw [e]))]; exact VSub.refl _
end Go.Proofs.Ytpehfflehebmbaa.Space
end
section
set_option linter.unusedSimpArgs false
set_option linter.unusedVariables false
set_option maxRecDepth 10000
namespace Go.Proofs.Ytpehfflehebmbaa.Space
open Go Go.Av Go.Proofs Go.Proofs.Ytpehfflehebmbaa.C Go.Proofs.Ytpehfflehebmbaa.Batch
end Go.Proofs.Ytpehfflehebmbaa.Space
end
section
set_option linter.unusedSimpArgs false
set_option linter.unusedVariables false
set_option maxRecDepth 10000
namespace Go.Proofs.Ytpehfflehebmbaa.Space
open Go Go.Av Go.Proofs Go.Proofs.Ytpehfflehebmbaa.C Go.Proofs.Ytpehfflehebmbaa.Batch
theorem any_yes {α : Type} [Inhabited α] {l : List α} {f : α → Bool} {i : Nat} (h : i < l.length) (hf : f (l.getD i default) = true) : l.any f = true := by
  rw [getD_el h] at hf
  exact List.any_eq_true.2 ⟨_, List.getElem_mem h, hf⟩
theorem any_no {α : Type} [Inhabited α] {l : List α} {f : α → Bool} (h : ∀ i, i < l.length → f (l.getD i default) = false) : l.any f = false := by
  rw [List.any_eq_false]
  intro x hx
  obtain ⟨i, hi, rfl⟩ := List.mem_iff_getElem.1 hx
  have := h i hi
  rw [getD_el hi] at this
  rw [this]; exact Bool.false_ne_true
theorem small_at {S : Spc} (hr : RiseL S.L) (hS : Small S) {j : Nat} (hj : j < S.L.length) : (S.L.getD j default).2.length ≤ 500000 := by
  have := hS.2 (S.L.getD j default).1
  rwa [mget_mem hr (by rw [getD_el hj]; exact List.getElem_mem hj)] at this
set_option maxHeartbeats 1000000 in
theorem sinceRR_p (S : Spc) (hr : RiseL S.L) (hS : Small S) (lk : ∀ p ∈ S.L, Ls p.1) (a b : Bs) (la : Ls a) (lb : Ls b) (t : Int) : PCalls Try.prog 71 [encS S, .str a, .str b, .int .i64 t] (.bool (sinceS S a b t)) := by
  refine f71.pcalls0 (by simp) (by simp [allPure, isPure, encS_pure]) rfl ?_
  unfold c71
  rw [sinceS_eq hr]
  have hil : (S.L.map encI).length = S.L.length := by simp
  have hS1 := hS.1
  repeat (first
    | ((first | apply Wp.seqItemsR | apply Wp.itemsR); (· simp only [go_sem, reduceIte, Nat.reduceEqDiff, Nat.reduceAdd, bx, ax, if_true, if_false, Nat.reduceMul, Nat.reduceLeDiff, encS]; exact rfl))
    | (refine WpItems.nil ⟨?_, ?_⟩; (· first | trivial | simp [pairsQ, pairsOk, apart, ent0]))
    | (refine Wp.cond_true ?_ ?_; (· simp only [go_sem, reduceIte, Nat.reduceEqDiff, Nat.reduceAdd, bx, ax, if_true, if_false, Nat.reduceMul, Nat.reduceLeDiff, encS]))
    | (refine Wp.cond_false ?_ ?_; (· simp only [go_sem, reduceIte, Nat.reduceEqDiff, Nat.reduceAdd, bx, ax, if_true, if_false, Nat.reduceMul, Nat.reduceLeDiff, encS]))
    | refine Wp.skip ?_
    | refine Wp.label ?_
    | refine Wp.block ?_
    | refine Wp.exit ?_
    | refine Wp.seq ?_)
  refine Wp.loopK [1, 2, 3, 4] (by simp only [go_sem, reduceIte, Nat.reduceEqDiff, Nat.reduceAdd, bx, List.map]; exact rfl) (fun j : Nat => [(9, .int .i64 (j : Nat))]) (fun j => j ≤ S.L.length ∧ ∀ i, i < j → (inB (S.L.getD i default).1 a b && sinceB (S.L.getD i default).2 t) = false) (fun j => S.L.length - j) 0 ⟨Nat.zero_le _, fun i h => absurd h (by omega)⟩ ?_ ?_
  · simp only [AllSub, go_sem, reduceIte, Nat.reduceEqDiff, Nat.reduceAdd, bx]; and_intros <;> first | exact trivial | exact VSub.refl _ | exact VSub.any _ | (refine VSub.int ?_; omega)
  rintro j ⟨hj, hno⟩
  by_cases hj2 : j < S.L.length
  · have g1 : decide (((j : Nat) : Int) < ((S.L.length : Nat) : Int)) = true := decide_eq_true (by omega)
    have h2 : (0 : Int) ≤ ((j : Nat) : Int) := by omega
    have h3 : ((j : Nat) : Int) < ((S.L.length : Nat) : Int) := by omega
    have e1 : IntKind.i64.wrap (((j : Nat) : Int) + 1) = ((j + 1 : Nat) : Int) := by rw [IntWalk.i64_in _ (by omega)]; omega
    have hat := enc_at encI S.L j .any hj2
    have hw := within_p (S.L.getD j default).1 a b (lsI lk hj2) la lb
    have hsi := sinceR_p (S.L.getD j default).2 (by have := small_at hr hS hj2; omega) t
    have stp : (inB (S.L.getD j default).1 a b && sinceB (S.L.getD j default).2 t) = false → ∀ i, i < j + 1 → (inB (S.L.getD i default).1 a b && sinceB (S.L.getD i default).2 t) = false := fun h i hi => by
      by_cases e : i = j
      · rw [e]; exact h
      · exact hno i (by omega)
    have yes : (inB (S.L.getD j default).1 a b && sinceB (S.L.getD j default).2 t) = true → (S.L.any fun p => inB p.1 a b && sinceB p.2 t) = true := fun h => any_yes hj2 h
    generalize S.L.getD j default = x at *
    cases hb1 : inB x.1 a b with
    | false =>
      rw [hb1] at hw stp
      repeat (first
        | ((first | apply Wp.seqItemsR | apply Wp.itemsR); (· simp only [go_sem, reduceIte, Nat.reduceEqDiff, Nat.reduceAdd, bx, ax, if_true, if_false, Nat.reduceMul, Nat.reduceLeDiff, g1, h2, h3, e1, hat, hil, encI, vAV]; exact rfl))
        | (refine WpItems.nil ⟨?_, ?_⟩; (· first | trivial | simp [pairsQ, pairsOk, apart, ent0]))
        | ((refine WpItems.pcall ?_ ?_ (hw) ?_; (· simp only [go_sem, reduceIte, Nat.reduceEqDiff, Nat.reduceAdd, bx]); (· simp only [go_sem, reduceIte, Nat.reduceEqDiff, Nat.reduceAdd, bx, List.map]; first | exact VSubs.refl _ | (repeat (first | exact VSubs.nil | refine VSubs.cons (by first | exact VSub.refl _ | assumption | exact VSub.cap | exact VSub.any _) ?_)))); apply WpItems.evR; (· simp only [go_sem, reduceIte, Nat.reduceEqDiff, Nat.reduceAdd, bx, ax, if_true, if_false, Nat.reduceMul, Nat.reduceLeDiff, g1, h2, h3, e1, hat, hil, encI, vAV]; exact rfl))
        | (refine Wp.cond_true ?_ ?_; (· simp only [go_sem, reduceIte, Nat.reduceEqDiff, Nat.reduceAdd, bx, ax, if_true, if_false, Nat.reduceMul, Nat.reduceLeDiff, g1, h2, h3, e1, hat, hil, encI, vAV]))
        | (refine Wp.cond_false ?_ ?_; (· simp only [go_sem, reduceIte, Nat.reduceEqDiff, Nat.reduceAdd, bx, ax, if_true, if_false, Nat.reduceMul, Nat.reduceLeDiff, g1, h2, h3, e1, hat, hil, encI, vAV]))
        | refine Wp.skip ?_
        | refine Wp.label ?_
        | refine Wp.block ?_
        | refine Wp.exit ?_
        | refine Wp.seq ?_)
      refine ⟨j + 1, ⟨by omega, stp rfl⟩, by omega, ?_⟩
      refine StLe.tm (by simp only [AllSub, go_sem, reduceIte, Nat.reduceEqDiff, Nat.reduceAdd, bx]; and_intros <;> first | exact trivial | exact VSub.refl _ | exact VSub.any _ | (refine VSub.int ?_; omega))
    | true =>
      rw [hb1] at hw stp yes
      cases hb2 : sinceB x.2 t with
      | false =>
        rw [hb2] at hsi stp
        repeat (first
          | ((first | apply Wp.seqItemsR | apply Wp.itemsR); (· simp only [go_sem, reduceIte, Nat.reduceEqDiff, Nat.reduceAdd, bx, ax, if_true, if_false, Nat.reduceMul, Nat.reduceLeDiff, g1, h2, h3, e1, hat, hil, encI, vAV]; exact rfl))
          | (refine WpItems.nil ⟨?_, ?_⟩; (· first | trivial | simp [pairsQ, pairsOk, apart, ent0]))
          | ((first
            | (refine WpItems.pcall ?_ ?_ (hw) ?_; (· simp only [go_sem, reduceIte, Nat.reduceEqDiff, Nat.reduceAdd, bx]); (· simp only [go_sem, reduceIte, Nat.reduceEqDiff, Nat.reduceAdd, bx, List.map]; first | exact VSubs.refl _ | (repeat (first | exact VSubs.nil | refine VSubs.cons (by first | exact VSub.refl _ | assumption | exact VSub.cap | exact VSub.any _) ?_))))
            | (refine WpItems.pcall ?_ ?_ (hsi) ?_; (· simp only [go_sem, reduceIte, Nat.reduceEqDiff, Nat.reduceAdd, bx]); (· simp only [go_sem, reduceIte, Nat.reduceEqDiff, Nat.reduceAdd, bx, List.map]; first | exact VSubs.refl _ | (repeat (first | exact VSubs.nil | refine VSubs.cons (by first | exact VSub.refl _ | assumption | exact VSub.cap | exact VSub.any _) ?_))))); apply WpItems.evR; (· simp only [go_sem, reduceIte, Nat.reduceEqDiff, Nat.reduceAdd, bx, ax, if_true, if_false, Nat.reduceMul, Nat.reduceLeDiff, g1, h2, h3, e1, hat, hil, encI, vAV]; exact rfl))
          | (refine Wp.cond_true ?_ ?_; (· simp only [go_sem, reduceIte, Nat.reduceEqDiff, Nat.reduceAdd, bx, ax, if_true, if_false, Nat.reduceMul, Nat.reduceLeDiff, g1, h2, h3, e1, hat, hil, encI, vAV]))
          | (refine Wp.cond_false ?_ ?_; (· simp only [go_sem, reduceIte, Nat.reduceEqDiff, Nat.reduceAdd, bx, ax, if_true, if_false, Nat.reduceMul, Nat.reduceLeDiff, g1, h2, h3, e1, hat, hil, encI, vAV]))
          | refine Wp.skip ?_
          | refine Wp.label ?_
          | refine Wp.block ?_
          | refine Wp.exit ?_
          | refine Wp.seq ?_)
        refine ⟨j + 1, ⟨by omega, stp rfl⟩, by omega, ?_⟩
        refine StLe.tm (by simp only [AllSub, go_sem, reduceIte, Nat.reduceEqDiff, Nat.reduceAdd, bx]; and_intros <;> first | exact trivial | exact VSub.refl _ | exact VSub.any _ | (refine VSub.int ?_; omega))
      | true =>
        rw [hb2] at hsi yes
        repeat (first
          | ((first | apply Wp.seqItemsR | apply Wp.itemsR); (· simp only [go_sem, reduceIte, Nat.reduceEqDiff, Nat.reduceAdd, bx, ax, if_true, if_false, Nat.reduceMul, Nat.reduceLeDiff, g1, h2, h3, e1, hat, hil, encI, vAV]; exact rfl))
          | (refine WpItems.nil ⟨?_, ?_⟩; (· first | trivial | simp [pairsQ, pairsOk, apart, ent0]))
          | ((first
            | (refine WpItems.pcall ?_ ?_ (hw) ?_; (· simp only [go_sem, reduceIte, Nat.reduceEqDiff, Nat.reduceAdd, bx]); (· simp only [go_sem, reduceIte, Nat.reduceEqDiff, Nat.reduceAdd, bx, List.map]; first | exact VSubs.refl _ | (repeat (first | exact VSubs.nil | refine VSubs.cons (by first | exact VSub.refl _ | assumption | exact VSub.cap | exact VSub.any _) ?_))))
            | (refine WpItems.pcall ?_ ?_ (hsi) ?_; (· simp only [go_sem, reduceIte, Nat.reduceEqDiff, Nat.reduceAdd, bx]); (· simp only [go_sem, reduceIte, Nat.reduceEqDiff, Nat.reduceAdd, bx, List.map]; first | exact VSubs.refl _ | (repeat (first | exact VSubs.nil | refine VSubs.cons (by first | exact VSub.refl _ | assumption | exact VSub.cap | exact VSub.any _) ?_))))); apply WpItems.evR; (· simp only [go_sem, reduceIte, Nat.reduceEqDiff, Nat.reduceAdd, bx, ax, if_true, if_false, Nat.reduceMul, Nat.reduceLeDiff, g1, h2, h3, e1, hat, hil, encI, vAV]; exact rfl))
          | (refine Wp.cond_true ?_ ?_; (· simp only [go_sem, reduceIte, Nat.reduceEqDiff, Nat.reduceAdd, bx, ax, if_true, if_false, Nat.reduceMul, Nat.reduceLeDiff, g1, h2, h3, e1, hat, hil, encI, vAV]))
          | (refine Wp.cond_false ?_ ?_; (· simp only [go_sem, reduceIte, Nat.reduceEqDiff, Nat.reduceAdd, bx, ax, if_true, if_false, Nat.reduceMul, Nat.reduceLeDiff, g1, h2, h3, e1, hat, hil, encI, vAV]))
          | refine Wp.skip ?_
          | refine Wp.label ?_
          | refine Wp.block ?_
          | refine Wp.exit ?_
          | refine Wp.seq ?_)
        refine Wp.ret ⟨trivial, _, rfl, ?_⟩
        simp only [go_sem, reduceIte, Nat.reduceEqDiff, Nat.reduceAdd, bx]
        rw [yes rfl]; exact VSub.refl _
  · have hje : j = S.L.length := by omega
    subst hje
    have g1 : decide (((S.L.length : Nat) : Int) < ((S.L.length : Nat) : Int)) = false := decide_eq_false (by omega)
    repeat (first
      | ((first | apply Wp.seqItemsR | apply Wp.itemsR); (· simp only [go_sem, reduceIte, Nat.reduceEqDiff, Nat.reduceAdd, bx, ax, if_true, if_false, Nat.reduceMul, Nat.reduceLeDiff, g1, hil]; exact rfl))
      | (refine WpItems.nil ⟨?_, ?_⟩; (· first | trivial | simp [pairsQ, pairsOk, apart, ent0]))
      | (refine Wp.cond_true ?_ ?_; (· simp only [go_sem, reduceIte, Nat.reduceEqDiff, Nat.reduceAdd, bx, ax, if_true, if_false, Nat.reduceMul, Nat.reduceLeDiff, g1, hil]))
      | (refine Wp.cond_false ?_ ?_; (· simp only [go_sem, reduceIte, Nat.reduceEqDiff, Nat.reduceAdd, bx, ax, if_true, if_false, Nat.reduceMul, Nat.reduceLeDiff, g1, hil]))
      | refine Wp.skip ?_
      | refine Wp.label ?_
      | refine Wp.block ?_
      | refine Wp.exit ?_
      | refine Wp.seq ?_)
    refine Wp.ret ⟨trivial, _, rfl, ?_⟩
    simp only [go_sem, reduceIte, Nat.reduceEqDiff, Nat.reduceAdd, bx]
    rw [any_no hno]; exact VSub.refl _
def tellW (a b : Bs) (t : Int) (p : It) : Option Pr := if inB p.1 a b = true then tellP t p else none
theorem filter_tell (a b : Bs) (t : Int) : ∀ L : List It, (L.filter fun p => inB p.1 a b).filterMap (tellP t) = L.filterMap (tellW a b t)
  | [] => rfl
  | p :: L => by
    have ih := filter_tell a b t L
    by_cases h : inB p.1 a b = true
    · rw [List.filter_cons, if_pos h, List.filterMap_cons, List.filterMap_cons, ih, tellW, if_pos h]
    · rw [List.filter_cons, if_neg h, List.filterMap_cons, ih, tellW, if_neg h]
theorem cutL_snoc (most : Int) (l : List Pr) (x : Pr) : cutL most (l ++ [x]) = if most < 0 ∨ ((cutL most l).length : Int) < most then cutL most l ++ [x] else cutL most l := by
  unfold cutL
  by_cases h : most < 0
  · simp [h]
  · simp only [if_neg h, false_or]
    split
    · rename_i hl
      rw [List.length_take] at hl
      rw [List.take_append, List.take_of_length_le (l := [x]) (by simp; omega)]
    · rename_i hl
      rw [List.length_take] at hl
      rw [List.take_append]
      have : most.toNat - l.length = 0 := by omega
      rw [this]; simp
theorem cutL_len (most : Int) (l : List Pr) : (cutL most l).length ≤ l.length := by
  unfold cutL; split
  · exact Nat.le_refl _
  · rw [List.length_take]; omega
theorem fmap_snoc {α β : Type} [Inhabited α] (f : α → Option β) {l : List α} {j : Nat} (h : j < l.length) : (l.take (j + 1)).filterMap f = (l.take j).filterMap f ++ (f (l.getD j default)).toList := by
  rw [take_snoc default h, List.filterMap_append]
  congr 1
theorem cutL0 (most : Int) : prs (cutL most []) = [] := by simp [cutL, prs]
theorem prs_snocP (l : List Pr) (k v : Bs) : prs l ++ [.agg [.str k, .str v]] = prs (l ++ [⟨k, v⟩]) := by simp [prs, encPr]
set_option maxHeartbeats 2000000 in
theorem scanR_p (S : Spc) (hr : RiseL S.L) (hS : Small S) (lk : ∀ p ∈ S.L, Ls p.1) (a b : Bs) (la : Ls a) (lb : Ls b) (t most : Int) : PCalls Try.prog 70 [encS S, .str a, .str b, .int .i64 t, .int .i64 most] (.tup [.sl 2 (prs (scanB S a b t most).1) .any, .int .i64 (scanB S a b t most).2]) := by
  refine f70.pcalls0 (by simp) (by simp [allPure, isPure, encS_pure]) (by simp [isPure, allPure, capPure, prs_pure]) ?_
  unfold c70
  have hk := keptR_p S t
  by_cases k1 : keptB S t = 0
  · have d0 := decide_eq_true k1
    have hres : scanB S a b t most = (cutL most (S.L.filterMap (tellW a b t)), 0) := by
      rw [scanB, if_pos k1, allS_eq hr, filter_tell]
    rw [hres]
    have hil : (S.L.map encI).length = S.L.length := by simp
    have hS1 := hS.1
    repeat (first
      | ((first | apply Wp.seqItemsR | apply Wp.itemsR); (· simp only [go_sem, reduceIte, Nat.reduceEqDiff, Nat.reduceAdd, bx, ax, if_true, if_false, Nat.reduceMul, Nat.reduceLeDiff, encS, d0]; exact rfl))
      | (refine WpItems.nil ⟨?_, ?_⟩; (· first | trivial | simp [pairsQ, pairsOk, apart, ent0]))
      | ((refine WpItems.pcall ?_ ?_ (hk) ?_; (· simp only [go_sem, reduceIte, Nat.reduceEqDiff, Nat.reduceAdd, bx]); (· simp only [go_sem, reduceIte, Nat.reduceEqDiff, Nat.reduceAdd, bx, List.map]; first | exact VSubs.refl _ | (repeat (first | exact VSubs.nil | refine VSubs.cons (by first | exact VSub.refl _ | assumption | exact VSub.cap | exact VSub.any _) ?_)))); apply WpItems.evR; (· simp only [go_sem, reduceIte, Nat.reduceEqDiff, Nat.reduceAdd, bx, ax, if_true, if_false, Nat.reduceMul, Nat.reduceLeDiff, encS, d0]; exact rfl))
      | (refine Wp.cond_true ?_ ?_; (· simp only [go_sem, reduceIte, Nat.reduceEqDiff, Nat.reduceAdd, bx, ax, if_true, if_false, Nat.reduceMul, Nat.reduceLeDiff, encS, d0]))
      | (refine Wp.cond_false ?_ ?_; (· simp only [go_sem, reduceIte, Nat.reduceEqDiff, Nat.reduceAdd, bx, ax, if_true, if_false, Nat.reduceMul, Nat.reduceLeDiff, encS, d0]))
      | refine Wp.skip ?_
      | refine Wp.label ?_
      | refine Wp.block ?_
      | refine Wp.exit ?_
      | refine Wp.seq ?_)
    refine Wp.le (StLe.tok _ _) ?_
    refine Wp.loopTok [1, 2, 3, 4, 5] (by simp only [go_sem, reduceIte, Nat.reduceEqDiff, List.map]; exact rfl) (fun (j : Nat) tk => [(13, .sl 2 (prs (cutL most ((S.L.take j).filterMap (tellW a b t)))) (.own tk)), (14, .int .i64 (j : Nat))]) (fun j => j ≤ S.L.length) (fun j => S.L.length - j) 0 _ (Nat.zero_le _) rfl ?_ ?_
    · simp only [AllSub, go_sem, reduceIte, Nat.reduceEqDiff, Nat.reduceAdd, bx, List.take_zero, List.filterMap_nil, cutL0]; and_intros <;> first | exact trivial | exact VSub.refl _ | exact VSub.any _ | exact VSub.own_of rfl | (refine VSub.int ?_; omega)
    rintro j tk m hj
    by_cases hj2 : j < S.L.length
    · have g1 : decide (((j : Nat) : Int) < ((S.L.length : Nat) : Int)) = true := decide_eq_true (by omega)
      have h2 : (0 : Int) ≤ ((j : Nat) : Int) := by omega
      have h3 : ((j : Nat) : Int) < ((S.L.length : Nat) : Int) := by omega
      have e1 : IntKind.i64.wrap (((j : Nat) : Int) + 1) = ((j + 1 : Nat) : Int) := by rw [IntWalk.i64_in _ (by omega)]; omega
      have hat := enc_at encI S.L j .any hj2
      have hw := within_p (S.L.getD j default).1 a b (lsI lk hj2) la lb
      have hta := atR_p (S.L.getD j default).2 (by have := small_at hr hS hj2; omega) t
      have hsn := fmap_snoc (tellW a b t) hj2
      have hol : (cutL most ((S.L.take j).filterMap (tellW a b t))).length ≤ 500000 := by
        have h1 := cutL_len most ((S.L.take j).filterMap (tellW a b t))
        have h2 := List.length_filterMap_le (tellW a b t) (S.L.take j)
        rw [List.length_take] at h2
        omega
      have hcs := cutL_snoc most ((S.L.take j).filterMap (tellW a b t))
      have keep : tellW a b t (S.L.getD j default) = none → cutL most ((S.L.take (j + 1)).filterMap (tellW a b t)) = cutL most ((S.L.take j).filterMap (tellW a b t)) := fun h => by rw [hsn, h]; simp
      have add : ∀ x, tellW a b t (S.L.getD j default) = some x → cutL most ((S.L.take (j + 1)).filterMap (tellW a b t)) = if most < 0 ∨ ((cutL most ((S.L.take j).filterMap (tellW a b t))).length : Int) < most then cutL most ((S.L.take j).filterMap (tellW a b t)) ++ [x] else cutL most ((S.L.take j).filterMap (tellW a b t)) := fun x h => by rw [hsn, h, ← hcs]; simp
      have htw : tellW a b t (S.L.getD j default) = if inB (S.L.getD j default).1 a b = true then (if (atB (S.L.getD j default).2 t).2 = true then some ⟨(S.L.getD j default).1, (atB (S.L.getD j default).2 t).1⟩ else none) else none := rfl
      obtain ⟨g0, g0', g1', g1''⟩ := rooms32 (show (cutL most ((S.L.take j).filterMap (tellW a b t))).length ≤ 2000000 by omega)
      generalize hnx : cutL most ((S.L.take (j + 1)).filterMap (tellW a b t)) = nx at *
      generalize cutL most ((S.L.take j).filterMap (tellW a b t)) = o at *
      generalize S.L.getD j default = x at *
      have hps := prs_snocP o x.1 (atB x.2 t).1
      cases b1 : (atB x.2 t).2 with
      | false =>
        rw [b1] at hta
        have hk2 := keep (by rw [htw, b1]; simp)
        repeat (first
          | ((first | apply Wp.seqItemsR | apply Wp.itemsR); (· simp only [go_sem, reduceIte, Nat.reduceEqDiff, Nat.reduceAdd, bx, ax, if_true, if_false, Nat.reduceMul, Nat.reduceLeDiff, g1, h2, h3, e1, hat, hil, encI, vAV]; exact rfl))
          | (refine WpItems.nil ⟨?_, ?_⟩; (· first | trivial | simp [pairsQ, pairsOk, apart, ent0]))
          | ((refine WpItems.pcall ?_ ?_ (hta) ?_; (· simp only [go_sem, reduceIte, Nat.reduceEqDiff, Nat.reduceAdd, bx]); (· simp only [go_sem, reduceIte, Nat.reduceEqDiff, Nat.reduceAdd, bx, List.map]; first | exact VSubs.refl _ | (repeat (first | exact VSubs.nil | refine VSubs.cons (by first | exact VSub.refl _ | assumption | exact VSub.cap | exact VSub.any _) ?_)))); apply WpItems.evR; (· simp only [go_sem, reduceIte, Nat.reduceEqDiff, Nat.reduceAdd, bx, ax, if_true, if_false, Nat.reduceMul, Nat.reduceLeDiff, g1, h2, h3, e1, hat, hil, encI, vAV]; exact rfl))
          | (refine Wp.cond_true ?_ ?_; (· simp only [go_sem, reduceIte, Nat.reduceEqDiff, Nat.reduceAdd, bx, ax, if_true, if_false, Nat.reduceMul, Nat.reduceLeDiff, g1, h2, h3, e1, hat, hil, encI, vAV]))
          | (refine Wp.cond_false ?_ ?_; (· simp only [go_sem, reduceIte, Nat.reduceEqDiff, Nat.reduceAdd, bx, ax, if_true, if_false, Nat.reduceMul, Nat.reduceLeDiff, g1, h2, h3, e1, hat, hil, encI, vAV]))
          | refine Wp.skip ?_
          | refine Wp.label ?_
          | refine Wp.block ?_
          | refine Wp.exit ?_
          | refine Wp.seq ?_)
        refine ⟨j + 1, tk, m, by omega, by omega, ?_⟩
        rw [hnx, hk2]
        refine StLe.tm (by simp only [AllSub, go_sem, reduceIte, Nat.reduceEqDiff, Nat.reduceAdd, bx]; and_intros <;> first | exact trivial | exact VSub.refl _ | exact VSub.any _ | (refine VSub.int ?_; omega))
      | true =>
        rw [b1] at hta
        cases b2 : inB x.1 a b with
        | false =>
          rw [b2] at hw
          have hk2 := keep (by rw [htw, b2]; simp)
          repeat (first
            | ((first | apply Wp.seqItemsR | apply Wp.itemsR); (· simp only [go_sem, reduceIte, Nat.reduceEqDiff, Nat.reduceAdd, bx, ax, if_true, if_false, Nat.reduceMul, Nat.reduceLeDiff, g1, h2, h3, e1, hat, hil, encI, vAV]; exact rfl))
            | (refine WpItems.nil ⟨?_, ?_⟩; (· first | trivial | simp [pairsQ, pairsOk, apart, ent0]))
            | ((first
              | (refine WpItems.pcall ?_ ?_ (hta) ?_; (· simp only [go_sem, reduceIte, Nat.reduceEqDiff, Nat.reduceAdd, bx]); (· simp only [go_sem, reduceIte, Nat.reduceEqDiff, Nat.reduceAdd, bx, List.map]; first | exact VSubs.refl _ | (repeat (first | exact VSubs.nil | refine VSubs.cons (by first | exact VSub.refl _ | assumption | exact VSub.cap | exact VSub.any _) ?_))))
              | (refine WpItems.pcall ?_ ?_ (hw) ?_; (· simp only [go_sem, reduceIte, Nat.reduceEqDiff, Nat.reduceAdd, bx]); (· simp only [go_sem, reduceIte, Nat.reduceEqDiff, Nat.reduceAdd, bx, List.map]; first | exact VSubs.refl _ | (repeat (first | exact VSubs.nil | refine VSubs.cons (by first | exact VSub.refl _ | assumption | exact VSub.cap | exact VSub.any _) ?_))))); apply WpItems.evR; (· simp only [go_sem, reduceIte, Nat.reduceEqDiff, Nat.reduceAdd, bx, ax, if_true, if_false, Nat.reduceMul, Nat.reduceLeDiff, g1, h2, h3, e1, hat, hil, encI, vAV]; exact rfl))
            | (refine Wp.cond_true ?_ ?_; (· simp only [go_sem, reduceIte, Nat.reduceEqDiff, Nat.reduceAdd, bx, ax, if_true, if_false, Nat.reduceMul, Nat.reduceLeDiff, g1, h2, h3, e1, hat, hil, encI, vAV]))
            | (refine Wp.cond_false ?_ ?_; (· simp only [go_sem, reduceIte, Nat.reduceEqDiff, Nat.reduceAdd, bx, ax, if_true, if_false, Nat.reduceMul, Nat.reduceLeDiff, g1, h2, h3, e1, hat, hil, encI, vAV]))
            | refine Wp.skip ?_
            | refine Wp.label ?_
            | refine Wp.block ?_
            | refine Wp.exit ?_
            | refine Wp.seq ?_)
          refine ⟨j + 1, tk, m, by omega, by omega, ?_⟩
          rw [hnx, hk2]
          refine StLe.tm (by simp only [AllSub, go_sem, reduceIte, Nat.reduceEqDiff, Nat.reduceAdd, bx]; and_intros <;> first | exact trivial | exact VSub.refl _ | exact VSub.any _ | (refine VSub.int ?_; omega))
        | true =>
          rw [b2] at hw
          have hk2 := add ⟨x.1, (atB x.2 t).1⟩ (by rw [htw, b2, b1]; simp)
          by_cases m1 : most < 0
          · have d1 := decide_eq_true m1
            rw [if_pos (.inl m1)] at hk2
            repeat (first
              | ((first | apply Wp.seqItemsR | apply Wp.itemsR); (· simp only [go_sem, reduceIte, Nat.reduceEqDiff, Nat.reduceAdd, bx, ax, if_true, if_false, Nat.reduceMul, Nat.reduceLeDiff, g1, h2, h3, e1, hat, hil, encI, vAV, d1, prs_length, g0, g0']; exact rfl))
              | (refine WpItems.nil ⟨?_, ?_⟩; (· first | trivial | simp [pairsQ, pairsOk, apart, ent0]))
              | ((first
                | (refine WpItems.pcall ?_ ?_ (hta) ?_; (· simp only [go_sem, reduceIte, Nat.reduceEqDiff, Nat.reduceAdd, bx]); (· simp only [go_sem, reduceIte, Nat.reduceEqDiff, Nat.reduceAdd, bx, List.map]; first | exact VSubs.refl _ | (repeat (first | exact VSubs.nil | refine VSubs.cons (by first | exact VSub.refl _ | assumption | exact VSub.cap | exact VSub.any _) ?_))))
                | (refine WpItems.pcall ?_ ?_ (hw) ?_; (· simp only [go_sem, reduceIte, Nat.reduceEqDiff, Nat.reduceAdd, bx]); (· simp only [go_sem, reduceIte, Nat.reduceEqDiff, Nat.reduceAdd, bx, List.map]; first | exact VSubs.refl _ | (repeat (first | exact VSubs.nil | refine VSubs.cons (by first | exact VSub.refl _ | assumption | exact VSub.cap | exact VSub.any _) ?_))))); apply WpItems.evR; (· simp only [go_sem, reduceIte, Nat.reduceEqDiff, Nat.reduceAdd, bx, ax, if_true, if_false, Nat.reduceMul, Nat.reduceLeDiff, g1, h2, h3, e1, hat, hil, encI, vAV, d1, prs_length, g0, g0']; exact rfl))
              | (refine Wp.cond_true ?_ ?_; (· simp only [go_sem, reduceIte, Nat.reduceEqDiff, Nat.reduceAdd, bx, ax, if_true, if_false, Nat.reduceMul, Nat.reduceLeDiff, g1, h2, h3, e1, hat, hil, encI, vAV, d1, prs_length, g0, g0']))
              | (refine Wp.cond_false ?_ ?_; (· simp only [go_sem, reduceIte, Nat.reduceEqDiff, Nat.reduceAdd, bx, ax, if_true, if_false, Nat.reduceMul, Nat.reduceLeDiff, g1, h2, h3, e1, hat, hil, encI, vAV, d1, prs_length, g0, g0']))
              | refine Wp.skip ?_
              | refine Wp.label ?_
              | refine Wp.block ?_
              | refine Wp.exit ?_
              | refine Wp.seq ?_)
            refine ⟨j + 1, m, m + 1, by omega, by omega, ?_⟩
            rw [hnx, hk2]
            refine StLe.tm (by simp only [AllSub, go_sem, reduceIte, Nat.reduceEqDiff, Nat.reduceAdd, bx]; and_intros <;> first | exact trivial | exact VSub.refl _ | exact VSub.any _ | exact VSub.of_eq (by rw [← hps]) | (refine VSub.int ?_; omega))
          · have d1 := decide_eq_false m1
            by_cases m2 : (o.length : Int) < most
            · have d2 := decide_eq_true m2
              rw [if_pos (.inr m2)] at hk2
              repeat (first
                | ((first | apply Wp.seqItemsR | apply Wp.itemsR); (· simp only [go_sem, reduceIte, Nat.reduceEqDiff, Nat.reduceAdd, bx, ax, if_true, if_false, Nat.reduceMul, Nat.reduceLeDiff, g1, h2, h3, e1, hat, hil, encI, vAV, d1, d2, prs_length, g0, g0']; exact rfl))
                | (refine WpItems.nil ⟨?_, ?_⟩; (· first | trivial | simp [pairsQ, pairsOk, apart, ent0]))
                | ((first
                  | (refine WpItems.pcall ?_ ?_ (hta) ?_; (· simp only [go_sem, reduceIte, Nat.reduceEqDiff, Nat.reduceAdd, bx]); (· simp only [go_sem, reduceIte, Nat.reduceEqDiff, Nat.reduceAdd, bx, List.map]; first | exact VSubs.refl _ | (repeat (first | exact VSubs.nil | refine VSubs.cons (by first | exact VSub.refl _ | assumption | exact VSub.cap | exact VSub.any _) ?_))))
                  | (refine WpItems.pcall ?_ ?_ (hw) ?_; (· simp only [go_sem, reduceIte, Nat.reduceEqDiff, Nat.reduceAdd, bx]); (· simp only [go_sem, reduceIte, Nat.reduceEqDiff, Nat.reduceAdd, bx, List.map]; first | exact VSubs.refl _ | (repeat (first | exact VSubs.nil | refine VSubs.cons (by first | exact VSub.refl _ | assumption | exact VSub.cap | exact VSub.any _) ?_))))); apply WpItems.evR; (· simp only [go_sem, reduceIte, Nat.reduceEqDiff, Nat.reduceAdd, bx, ax, if_true, if_false, Nat.reduceMul, Nat.reduceLeDiff, g1, h2, h3, e1, hat, hil, encI, vAV, d1, d2, prs_length, g0, g0']; exact rfl))
                | (refine Wp.cond_true ?_ ?_; (· simp only [go_sem, reduceIte, Nat.reduceEqDiff, Nat.reduceAdd, bx, ax, if_true, if_false, Nat.reduceMul, Nat.reduceLeDiff, g1, h2, h3, e1, hat, hil, encI, vAV, d1, d2, prs_length, g0, g0']))
                | (refine Wp.cond_false ?_ ?_; (· simp only [go_sem, reduceIte, Nat.reduceEqDiff, Nat.reduceAdd, bx, ax, if_true, if_false, Nat.reduceMul, Nat.reduceLeDiff, g1, h2, h3, e1, hat, hil, encI, vAV, d1, d2, prs_length, g0, g0']))
                | refine Wp.skip ?_
                | refine Wp.label ?_
                | refine Wp.block ?_
                | refine Wp.exit ?_
                | refine Wp.seq ?_)
              refine ⟨j + 1, m, m + 1, by omega, by omega, ?_⟩
              rw [hnx, hk2]
              refine StLe.tm (by simp only [AllSub, go_sem, reduceIte, Nat.reduceEqDiff, Nat.reduceAdd, bx]; and_intros <;> first | exact trivial | exact VSub.refl _ | exact VSub.any _ | exact VSub.of_eq (by rw [← hps]) | (refine VSub.int ?_; omega))
            · have d2 := decide_eq_false m2
              rw [if_neg (fun h => h.elim m1 m2)] at hk2
              repeat (first
                | ((first | apply Wp.seqItemsR | apply Wp.itemsR); (· simp only [go_sem, reduceIte, Nat.reduceEqDiff, Nat.reduceAdd, bx, ax, if_true, if_false, Nat.reduceMul, Nat.reduceLeDiff, g1, h2, h3, e1, hat, hil, encI, vAV, d1, d2, prs_length]; exact rfl))
                | (refine WpItems.nil ⟨?_, ?_⟩; (· first | trivial | simp [pairsQ, pairsOk, apart, ent0]))
                | ((first
                  | (refine WpItems.pcall ?_ ?_ (hta) ?_; (· simp only [go_sem, reduceIte, Nat.reduceEqDiff, Nat.reduceAdd, bx]); (· simp only [go_sem, reduceIte, Nat.reduceEqDiff, Nat.reduceAdd, bx, List.map]; first | exact VSubs.refl _ | (repeat (first | exact VSubs.nil | refine VSubs.cons (by first | exact VSub.refl _ | assumption | exact VSub.cap | exact VSub.any _) ?_))))
                  | (refine WpItems.pcall ?_ ?_ (hw) ?_; (· simp only [go_sem, reduceIte, Nat.reduceEqDiff, Nat.reduceAdd, bx]); (· simp only [go_sem, reduceIte, Nat.reduceEqDiff, Nat.reduceAdd, bx, List.map]; first | exact VSubs.refl _ | (repeat (first | exact VSubs.nil | refine VSubs.cons (by first | exact VSub.refl _ | assumption | exact VSub.cap | exact VSub.any _) ?_))))); apply WpItems.evR; (· simp only [go_sem, reduceIte, Nat.reduceEqDiff, Nat.reduceAdd, bx, ax, if_true, if_false, Nat.reduceMul, Nat.reduceLeDiff, g1, h2, h3, e1, hat, hil, encI, vAV, d1, d2, prs_length]; exact rfl))
                | (refine Wp.cond_true ?_ ?_; (· simp only [go_sem, reduceIte, Nat.reduceEqDiff, Nat.reduceAdd, bx, ax, if_true, if_false, Nat.reduceMul, Nat.reduceLeDiff, g1, h2, h3, e1, hat, hil, encI, vAV, d1, d2, prs_length]))
                | (refine Wp.cond_false ?_ ?_; (· simp only [go_sem, reduceIte, Nat.reduceEqDiff, Nat.reduceAdd, bx, ax, if_true, if_false, Nat.reduceMul, Nat.reduceLeDiff, g1, h2, h3, e1, hat, hil, encI, vAV, d1, d2, prs_length]))
                | refine Wp.skip ?_
                | refine Wp.label ?_
                | refine Wp.block ?_
                | refine Wp.exit ?_
                | refine Wp.seq ?_)
              refine ⟨j + 1, tk, m, by omega, by omega, ?_⟩
              rw [hnx, hk2]
              refine StLe.tm (by simp only [AllSub, go_sem, reduceIte, Nat.reduceEqDiff, Nat.reduceAdd, bx]; and_intros <;> first | exact trivial | exact VSub.refl _ | exact VSub.any _ | (refine VSub.int ?_; omega))
    · have hje : j = S.L.length := by omega
      subst hje
      have g1 : decide (((S.L.length : Nat) : Int) < ((S.L.length : Nat) : Int)) = false := decide_eq_false (by omega)
      repeat (first
        | ((first | apply Wp.seqItemsR | apply Wp.itemsR); (· simp only [go_sem, reduceIte, Nat.reduceEqDiff, Nat.reduceAdd, bx, ax, if_true, if_false, Nat.reduceMul, Nat.reduceLeDiff, g1, hil]; exact rfl))
        | (refine WpItems.nil ⟨?_, ?_⟩; (· first | trivial | simp [pairsQ, pairsOk, apart, ent0]))
        | (refine Wp.cond_true ?_ ?_; (· simp only [go_sem, reduceIte, Nat.reduceEqDiff, Nat.reduceAdd, bx, ax, if_true, if_false, Nat.reduceMul, Nat.reduceLeDiff, g1, hil]))
        | (refine Wp.cond_false ?_ ?_; (· simp only [go_sem, reduceIte, Nat.reduceEqDiff, Nat.reduceAdd, bx, ax, if_true, if_false, Nat.reduceMul, Nat.reduceLeDiff, g1, hil]))
        | refine Wp.skip ?_
        | refine Wp.label ?_
        | refine Wp.block ?_
        | refine Wp.exit ?_
        | refine Wp.seq ?_)
      refine Wp.ret ⟨trivial, _, rfl, ?_⟩
      simp only [go_sem, reduceIte, Nat.reduceEqDiff, Nat.reduceAdd, bx]
      rw [List.take_length]; exact VSub.tup (VSubs.cons VSub.cap (VSubs.refl _))
  · have d0 := decide_eq_false k1
    have hres : scanB S a b t most = ([], keptB S t) := by rw [scanB, if_neg k1]
    rw [hres]
    repeat (first
      | ((first | apply Wp.seqItemsR | apply Wp.itemsR); (· simp only [go_sem, reduceIte, Nat.reduceEqDiff, Nat.reduceAdd, bx, ax, if_true, if_false, Nat.reduceMul, Nat.reduceLeDiff, encS, d0]; exact rfl))
      | (refine WpItems.nil ⟨?_, ?_⟩; (· first | trivial | simp [pairsQ, pairsOk, apart, ent0]))
      | ((refine WpItems.pcall ?_ ?_ (hk) ?_; (· simp only [go_sem, reduceIte, Nat.reduceEqDiff, Nat.reduceAdd, bx]); (· simp only [go_sem, reduceIte, Nat.reduceEqDiff, Nat.reduceAdd, bx, List.map]; first | exact VSubs.refl _ | (repeat (first | exact VSubs.nil | refine VSubs.cons (by first | exact VSub.refl _ | assumption | exact VSub.cap | exact VSub.any _) ?_)))); apply WpItems.evR; (· simp only [go_sem, reduceIte, Nat.reduceEqDiff, Nat.reduceAdd, bx, ax, if_true, if_false, Nat.reduceMul, Nat.reduceLeDiff, encS, d0]; exact rfl))
      | (refine Wp.cond_true ?_ ?_; (· simp only [go_sem, reduceIte, Nat.reduceEqDiff, Nat.reduceAdd, bx, ax, if_true, if_false, Nat.reduceMul, Nat.reduceLeDiff, encS, d0]))
      | (refine Wp.cond_false ?_ ?_; (· simp only [go_sem, reduceIte, Nat.reduceEqDiff, Nat.reduceAdd, bx, ax, if_true, if_false, Nat.reduceMul, Nat.reduceLeDiff, encS, d0]))
      | refine Wp.skip ?_
      | refine Wp.label ?_
      | refine Wp.block ?_
      | refine Wp.exit ?_
      | refine Wp.seq ?_)
    refine Wp.ret ⟨trivial, _, rfl, ?_⟩
    simp only [go_sem, reduceIte, Nat.reduceEqDiff, Nat.reduceAdd, bx]
    exact VSub.tup (VSubs.cons VSub.cap (VSubs.refl _))
end Go.Proofs.Ytpehfflehebmbaa.Space
end
section
set_option linter.unusedSimpArgs false
set_option linter.unusedVariables false
set_option maxRecDepth 10000
namespace Go.Proofs.Ytpehfflehebmbaa.Space
open Go Go.Av Go.Proofs Go.Proofs.Ytpehfflehebmbaa.C Go.Proofs.Ytpehfflehebmbaa.Batch
theorem setL_mem {L : List It} {q : Bs} {v : List Ver} {x : It} (h : x ∈ setL L q v) : x = (q, v) ∨ x ∈ L := by
  unfold setL at h
  split at h <;> split at h
  · rcases List.mem_append.1 h with h | h
    · exact .inr (List.mem_of_mem_take h)
    · exact .inr (List.mem_of_mem_drop h)
  · exact .inr h
  · rcases List.mem_append.1 h with h | h
    · exact .inr (List.mem_of_mem_take h)
    · rcases List.mem_cons.1 h with h | h
      · exact .inl h
      · exact .inr (List.mem_of_mem_drop h)
  · rcases List.mem_append.1 h with h | h
    · exact .inr (List.mem_of_mem_take h)
    · rcases List.mem_cons.1 h with h | h
      · exact .inl h
      · exact .inr (List.mem_of_mem_drop h)
theorem setL_ls {L : List It} (lk : ∀ p ∈ L, Ls p.1) {q : Bs} (hq : Ls q) (v : List Ver) : ∀ p ∈ setL L q v, Ls p.1 := fun p hp => by
  rcases setL_mem hp with rfl | hp
  · exact hq
  · exact lk p hp
end Go.Proofs.Ytpehfflehebmbaa.Space
end
section
set_option linter.unusedSimpArgs false
set_option linter.unusedVariables false
set_option maxRecDepth 10000
namespace Go.Proofs.Ytpehfflehebmbaa.Space
open Go Go.Av Go.Proofs Go.Proofs.Ytpehfflehebmbaa.C Go.Proofs.Ytpehfflehebmbaa.Batch
theorem ld_key {l : List It} {last : Int} {j : Nat} (h : ldAt l last j = true) : (l.getD j default).1.length ≤ 128 := by
  simp only [ldAt, mayB, Bool.and_eq_true, decide_eq_true_eq] at h
  omega
theorem ld_next {l : List It} {last : Int} {j : Nat} (h : ldAt l last (j + 1) = true) : Op.bytesLess (l.getD j default).1 (l.getD (j + 1) default).1 = true := by
  simp only [ldAt, mayB, aheadAt, Bool.and_eq_true, Bool.or_eq_true, decide_eq_true_eq, Nat.add_one_ne_zero, false_or, if_false, Nat.add_sub_cancel] at h
  exact h.1.1.1.2
theorem ld_full {l : List It} {last : Int} {j : Nat} (h : ldAt l last j = true) : (l.getD j default).2 ≠ [] := by
  simp only [ldAt, mayB, Bool.and_eq_true, decide_eq_true_eq] at h
  exact List.length_pos_iff.1 h.1.1.2
theorem ld_all {l : List It} {last mark : Int} (h : ldB l last mark = true) {j : Nat} (hj : j < l.length) : ldAt l last j = true := by
  simp only [ldB, Bool.and_eq_true] at h
  exact List.all_eq_true.1 h.2 j (List.mem_range.2 hj)
theorem ld_rise {l : List It} {last mark : Int} (h : ldB l last mark = true) : RiseL l ∧ Full l := by
  have up : ∀ i j, i < j → j < l.length → Op.bytesLess (l.getD i default).1 (l.getD j default).1 = true := by
    intro i j hij
    induction j with
    | zero => omega
    | succ j ih =>
      intro hj
      have h1 := ld_next (ld_all h hj)
      by_cases e : i = j
      · rw [e]; exact h1
      · exact less_trans (ih (by omega) (by omega)) h1
  refine ⟨List.pairwise_iff_getElem.2 fun i j hi hj hij => ?_, fun p hp => ?_⟩
  · simp only [keysOf, List.length_map] at hi hj
    have := up i j hij hj
    rw [getD_el hi, getD_el hj] at this
    simpa [keysOf] using this
  · obtain ⟨i, hi, rfl⟩ := List.mem_iff_getElem.1 hp
    have := ld_full (ld_all h hi)
    rwa [getD_el hi] at this
set_option maxHeartbeats 4000000 in
theorem loadR_p (l : List It) (hl : l.length ≤ 500000) (hv : ∀ p ∈ l, p.2.length ≤ 500000) (last mark : Int) : PCalls Try.prog 27 [.sl 2 (l.map encI) .any, .int .i64 last, .int .i64 mark] (if ldB l last mark = true then .tup [encS ⟨l, last, mark⟩, .int .i64 0] else .tup [encS ⟨[], 0, 0⟩, .int .i64 4]) := by
  refine f27.pcalls0 (by simp) (by simp [allPure, isPure, capPure, its_pure]) (by split <;> simp [isPure, allPure, encS_pure]) ?_
  unfold c27
  have hil : (l.map encI).length = l.length := by simp
  by_cases p1 : last < 0
  · have d1 := decide_eq_true p1
    repeat (first
      | ((first | apply Wp.seqItemsR | apply Wp.itemsR); (· simp only [go_sem, reduceIte, Nat.reduceEqDiff, Nat.reduceAdd, bx, ax, if_true, if_false, Nat.reduceMul, Nat.reduceLeDiff, d1]; exact rfl))
      | (refine WpItems.nil ⟨?_, ?_⟩; (· first | trivial | simp [pairsQ, pairsOk, apart, ent0]))
      | (refine Wp.cond_true ?_ ?_; (· simp only [go_sem, reduceIte, Nat.reduceEqDiff, Nat.reduceAdd, bx, ax, if_true, if_false, Nat.reduceMul, Nat.reduceLeDiff, d1]))
      | (refine Wp.cond_false ?_ ?_; (· simp only [go_sem, reduceIte, Nat.reduceEqDiff, Nat.reduceAdd, bx, ax, if_true, if_false, Nat.reduceMul, Nat.reduceLeDiff, d1]))
      | refine Wp.skip ?_
      | refine Wp.label ?_
      | refine Wp.block ?_
      | refine Wp.exit ?_
      | refine Wp.seq ?_)
    refine Wp.ret ⟨trivial, _, rfl, ?_⟩
    simp only [go_sem, reduceIte, Nat.reduceEqDiff, Nat.reduceAdd, bx]
    rw [if_neg (by simp [ldB, p1])]; exact VSub.tup (VSubs.cons (VSub.agg (VSubs.cons VSub.cap (VSubs.refl _))) (VSubs.refl _))
  have d1 := decide_eq_false p1
  by_cases p2 : 1152921504606846976 < last
  · have d2 := decide_eq_true p2
    repeat (first
      | ((first | apply Wp.seqItemsR | apply Wp.itemsR); (· simp only [go_sem, reduceIte, Nat.reduceEqDiff, Nat.reduceAdd, bx, ax, if_true, if_false, Nat.reduceMul, Nat.reduceLeDiff, d1, d2]; exact rfl))
      | (refine WpItems.nil ⟨?_, ?_⟩; (· first | trivial | simp [pairsQ, pairsOk, apart, ent0]))
      | (refine Wp.cond_true ?_ ?_; (· simp only [go_sem, reduceIte, Nat.reduceEqDiff, Nat.reduceAdd, bx, ax, if_true, if_false, Nat.reduceMul, Nat.reduceLeDiff, d1, d2]))
      | (refine Wp.cond_false ?_ ?_; (· simp only [go_sem, reduceIte, Nat.reduceEqDiff, Nat.reduceAdd, bx, ax, if_true, if_false, Nat.reduceMul, Nat.reduceLeDiff, d1, d2]))
      | refine Wp.skip ?_
      | refine Wp.label ?_
      | refine Wp.block ?_
      | refine Wp.exit ?_
      | refine Wp.seq ?_)
    refine Wp.ret ⟨trivial, _, rfl, ?_⟩
    simp only [go_sem, reduceIte, Nat.reduceEqDiff, Nat.reduceAdd, bx]
    rw [if_neg (by simp [ldB, p2])]; exact VSub.tup (VSubs.cons (VSub.agg (VSubs.cons VSub.cap (VSubs.refl _))) (VSubs.refl _))
  have d2 := decide_eq_false p2
  by_cases p3 : mark < 0
  · have d3 := decide_eq_true p3
    repeat (first
      | ((first | apply Wp.seqItemsR | apply Wp.itemsR); (· simp only [go_sem, reduceIte, Nat.reduceEqDiff, Nat.reduceAdd, bx, ax, if_true, if_false, Nat.reduceMul, Nat.reduceLeDiff, d1, d2, d3]; exact rfl))
      | (refine WpItems.nil ⟨?_, ?_⟩; (· first | trivial | simp [pairsQ, pairsOk, apart, ent0]))
      | (refine Wp.cond_true ?_ ?_; (· simp only [go_sem, reduceIte, Nat.reduceEqDiff, Nat.reduceAdd, bx, ax, if_true, if_false, Nat.reduceMul, Nat.reduceLeDiff, d1, d2, d3]))
      | (refine Wp.cond_false ?_ ?_; (· simp only [go_sem, reduceIte, Nat.reduceEqDiff, Nat.reduceAdd, bx, ax, if_true, if_false, Nat.reduceMul, Nat.reduceLeDiff, d1, d2, d3]))
      | refine Wp.skip ?_
      | refine Wp.label ?_
      | refine Wp.block ?_
      | refine Wp.exit ?_
      | refine Wp.seq ?_)
    refine Wp.ret ⟨trivial, _, rfl, ?_⟩
    simp only [go_sem, reduceIte, Nat.reduceEqDiff, Nat.reduceAdd, bx]
    rw [if_neg (by simp [ldB, p3])]; exact VSub.tup (VSubs.cons (VSub.agg (VSubs.cons VSub.cap (VSubs.refl _))) (VSubs.refl _))
  have d3 := decide_eq_false p3
  by_cases p4 : last < mark
  · have d4 := decide_eq_true p4
    repeat (first
      | ((first | apply Wp.seqItemsR | apply Wp.itemsR); (· simp only [go_sem, reduceIte, Nat.reduceEqDiff, Nat.reduceAdd, bx, ax, if_true, if_false, Nat.reduceMul, Nat.reduceLeDiff, d1, d2, d3, d4]; exact rfl))
      | (refine WpItems.nil ⟨?_, ?_⟩; (· first | trivial | simp [pairsQ, pairsOk, apart, ent0]))
      | (refine Wp.cond_true ?_ ?_; (· simp only [go_sem, reduceIte, Nat.reduceEqDiff, Nat.reduceAdd, bx, ax, if_true, if_false, Nat.reduceMul, Nat.reduceLeDiff, d1, d2, d3, d4]))
      | (refine Wp.cond_false ?_ ?_; (· simp only [go_sem, reduceIte, Nat.reduceEqDiff, Nat.reduceAdd, bx, ax, if_true, if_false, Nat.reduceMul, Nat.reduceLeDiff, d1, d2, d3, d4]))
      | refine Wp.skip ?_
      | refine Wp.label ?_
      | refine Wp.block ?_
      | refine Wp.exit ?_
      | refine Wp.seq ?_)
    refine Wp.ret ⟨trivial, _, rfl, ?_⟩
    simp only [go_sem, reduceIte, Nat.reduceEqDiff, Nat.reduceAdd, bx]
    rw [if_neg (by simp [ldB, p4])]; exact VSub.tup (VSubs.cons (VSub.agg (VSubs.cons VSub.cap (VSubs.refl _))) (VSubs.refl _))
  have d4 := decide_eq_false p4
  repeat (first
    | ((first | apply Wp.seqItemsR | apply Wp.itemsR); (· simp only [go_sem, reduceIte, Nat.reduceEqDiff, Nat.reduceAdd, bx, ax, if_true, if_false, Nat.reduceMul, Nat.reduceLeDiff, d1, d2, d3, d4]; exact rfl))
    | (refine WpItems.nil ⟨?_, ?_⟩; (· first | trivial | simp [pairsQ, pairsOk, apart, ent0]))
    | (refine Wp.cond_true ?_ ?_; (· simp only [go_sem, reduceIte, Nat.reduceEqDiff, Nat.reduceAdd, bx, ax, if_true, if_false, Nat.reduceMul, Nat.reduceLeDiff, d1, d2, d3, d4]))
    | (refine Wp.cond_false ?_ ?_; (· simp only [go_sem, reduceIte, Nat.reduceEqDiff, Nat.reduceAdd, bx, ax, if_true, if_false, Nat.reduceMul, Nat.reduceLeDiff, d1, d2, d3, d4]))
    | refine Wp.skip ?_
    | refine Wp.label ?_
    | refine Wp.block ?_
    | refine Wp.exit ?_
    | refine Wp.seq ?_)
  refine Wp.loopK [0, 1, 2, 6, 7] (by simp only [go_sem, reduceIte, Nat.reduceEqDiff, Nat.reduceAdd, bx, List.map]; exact rfl) (fun j : Nat => [(8, .int .i64 (j : Nat))]) (fun j => j ≤ l.length ∧ ∀ i, i < j → ldAt l last i = true) (fun j => l.length - j) 0 ⟨Nat.zero_le _, fun i h => absurd h (by omega)⟩ ?_ ?_
  · simp only [AllSub, go_sem, reduceIte, Nat.reduceEqDiff, Nat.reduceAdd, bx]; and_intros <;> first | exact trivial | exact VSub.refl _ | exact VSub.any _ | (refine VSub.int ?_; omega)
  rintro j ⟨hj, hs⟩
  by_cases hj2 : j < l.length
  · have g1 : decide (((j : Nat) : Int) < ((l.length : Nat) : Int)) = true := decide_eq_true (by omega)
    have h2 : (0 : Int) ≤ ((j : Nat) : Int) := by omega
    have h3 : ((j : Nat) : Int) < ((l.length : Nat) : Int) := by omega
    have e1 : IntKind.i64.wrap (((j : Nat) : Int) + 1) = ((j + 1 : Nat) : Int) := by rw [IntWalk.i64_in _ (by omega)]; omega
    have hat := enc_at encI l j .any hj2
    have no : ldAt l last j = false → ldB l last mark = false := fun h => by
      have : (List.range l.length).all (ldAt l last) = false := all_no hj2 h
      rw [ldB, this, Bool.and_false]
    have bad : ldAt l last j = false → VSub (.tup [.agg [.sl 2 [] (.exact 0), .int .i64 0, .int .i64 0], .int .i64 4]) (if ldB l last mark = true then .tup [encS ⟨l, last, mark⟩, .int .i64 0] else .tup [encS ⟨[], 0, 0⟩, .int .i64 4]) := fun h => by
      rw [if_neg (by rw [no h]; exact Bool.false_ne_true)]; exact VSub.tup (VSubs.cons (VSub.agg (VSubs.cons VSub.cap (VSubs.refl _))) (VSubs.refl _))
    have hvx : (l.getD j default).2.length ≤ 500000 := hv _ (by rw [getD_el hj2]; exact List.getElem_mem hj2)
    have hck := rightsR_p (l.getD j default).2 (by omega)
    have def0 : ldAt l last j = (decide (((l.getD j default).1.length : Int) ≤ 128) && (decide (j = 0) || Op.bytesLess (aheadAt l j) (l.getD j default).1) && decide (0 < (l.getD j default).2.length) && chB (l.getD j default).2 && decide (((l.getD j default).2.getD 0 default).t ≤ last)) := rfl
    have stp : ldAt l last j = true → ∀ i, i < j + 1 → ldAt l last i = true := fun h i hi => by
      by_cases e : i = j
      · rw [e]; exact h
      · exact hs i (by omega)
    have ahd : j ≠ 0 → ∃ p : It, p = l.getD (j - 1) default ∧ aheadAt l j = p.1 ∧ p.1.length ≤ 128 ∧ (l.map encI).getD (j - 1) .any = encI p := fun h => by
      refine ⟨_, rfl, by rw [aheadAt, if_neg h], ld_key (hs (j - 1) (by omega)), enc_at encI l (j - 1) .any (by omega)⟩
    generalize hx : l.getD j default = x at *
    obtain ⟨q, vs⟩ := x
    simp only at hvx hck def0
    by_cases q1 : 128 < (q.length : Int)
    · have c1 := decide_eq_true q1
      have hb := bad (by rw [def0, decide_eq_false (show ¬ (q.length : Int) ≤ 128 by omega)]; simp)
      repeat (first
        | ((first | apply Wp.seqItemsR | apply Wp.itemsR); (· simp only [go_sem, reduceIte, Nat.reduceEqDiff, Nat.reduceAdd, bx, ax, if_true, if_false, Nat.reduceMul, Nat.reduceLeDiff, g1, h2, h3, hat, hil, encI, vAV, c1]; exact rfl))
        | (refine WpItems.nil ⟨?_, ?_⟩; (· first | trivial | simp [pairsQ, pairsOk, apart, ent0]))
        | (refine Wp.cond_true ?_ ?_; (· simp only [go_sem, reduceIte, Nat.reduceEqDiff, Nat.reduceAdd, bx, ax, if_true, if_false, Nat.reduceMul, Nat.reduceLeDiff, g1, h2, h3, hat, hil, encI, vAV, c1]))
        | (refine Wp.cond_false ?_ ?_; (· simp only [go_sem, reduceIte, Nat.reduceEqDiff, Nat.reduceAdd, bx, ax, if_true, if_false, Nat.reduceMul, Nat.reduceLeDiff, g1, h2, h3, hat, hil, encI, vAV, c1]))
        | refine Wp.skip ?_
        | refine Wp.label ?_
        | refine Wp.block ?_
        | refine Wp.exit ?_
        | refine Wp.seq ?_)
      refine Wp.ret ⟨trivial, _, rfl, ?_⟩
      simp only [go_sem, reduceIte, Nat.reduceEqDiff, Nat.reduceAdd, bx]
      exact hb
    have c1 := decide_eq_false q1
    have c1' : decide ((q.length : Int) ≤ 128) = true := decide_eq_true (by omega)
    by_cases jz : j = 0
    · have k0 : decide ((0 : Int) < (j : Int)) = false := decide_eq_false (by omega)
      cases vs with
      | nil =>
        have hb := bad (by rw [def0]; simp)
        have n0 : decide (((0 : Nat) : Int) = 0) = true := rfl
        repeat' (first
          | (refine WpItems.nil ⟨?_, ?_⟩; (· first | trivial | simp [pairsQ, pairsOk, apart, ent0]))
          | (apply WpItems.evU; (· simp only [go_sem, reduceIte, Nat.reduceEqDiff, Nat.reduceAdd, bx, ax, if_true, if_false, Nat.reduceMul, Nat.reduceLeDiff, g1, h2, h3, hat, hil, encI, vAV, c1, k0, List.map_nil, List.length_nil, n0, List.length_map]; exact rfl); (· simp only [go_sem, reduceIte, Nat.reduceEqDiff, Nat.reduceAdd, bx, ax, if_true, if_false, Nat.reduceMul, Nat.reduceLeDiff, g1, h2, h3, hat, hil, encI, vAV, c1, k0, List.map_nil, List.length_nil, n0, List.length_map]; exact rfl))
          | (apply WpItems.part 1; (· simp only [go_sem, reduceIte, Nat.reduceEqDiff, Nat.reduceAdd, bx, ax, if_true, if_false, Nat.reduceMul, Nat.reduceLeDiff, g1, h2, h3, hat, hil, encI, vAV, c1, k0, List.map_nil, List.length_nil, n0, List.length_map]; exact rfl); (try simp only [List.drop_succ_cons, List.drop_zero, List.drop_nil]))
          | (refine WpItems.gsplit_dec (p := ?_) ?_ (fun hc => ?_) (fun hc => ?_); rotate_left; (· simp only [go_sem, reduceIte, Nat.reduceEqDiff, Nat.reduceAdd, bx, ax, if_true, if_false, Nat.reduceMul, Nat.reduceLeDiff, g1, h2, h3, hat, hil, encI, vAV, c1, k0, List.map_nil, List.length_nil, n0, List.length_map]; exact rfl))
          | (refine WpItems.gsplit_ndec (p := ?_) ?_ (fun hc => ?_) (fun hc => ?_); rotate_left; (· simp only [go_sem, reduceIte, Nat.reduceEqDiff, Nat.reduceAdd, bx, ax, if_true, if_false, Nat.reduceMul, Nat.reduceLeDiff, g1, h2, h3, hat, hil, encI, vAV, c1, k0, List.map_nil, List.length_nil, n0, List.length_map]; exact rfl))
          | (refine WpItems.gsplit (b := ?_) ?_ (fun hc => ?_) (fun hc => ?_); rotate_left; (· simp only [go_sem, reduceIte, Nat.reduceEqDiff, Nat.reduceAdd, bx, ax, if_true, if_false, Nat.reduceMul, Nat.reduceLeDiff, g1, h2, h3, hat, hil, encI, vAV, c1, k0, List.map_nil, List.length_nil, n0, List.length_map]; exact rfl))
          | refine Wp.seqRegS ?_
          | refine Wp.regS ?_
          | (refine Wp.cond_true ?_ ?_; (· simp only [go_sem, reduceIte, Nat.reduceEqDiff, Nat.reduceAdd, bx, ax, if_true, if_false, Nat.reduceMul, Nat.reduceLeDiff, g1, h2, h3, hat, hil, encI, vAV, c1, k0, List.map_nil, List.length_nil, n0, List.length_map]))
          | (refine Wp.cond_false ?_ ?_; (· simp only [go_sem, reduceIte, Nat.reduceEqDiff, Nat.reduceAdd, bx, ax, if_true, if_false, Nat.reduceMul, Nat.reduceLeDiff, g1, h2, h3, hat, hil, encI, vAV, c1, k0, List.map_nil, List.length_nil, n0, List.length_map]))
          | (refine Wp.cond_dec (p := ?_) ?_ (fun hc => ?_) (fun hc => ?_); rotate_left; (· simp only [go_sem, reduceIte, Nat.reduceEqDiff, Nat.reduceAdd, bx, ax, if_true, if_false, Nat.reduceMul, Nat.reduceLeDiff, g1, h2, h3, hat, hil, encI, vAV, c1, k0, List.map_nil, List.length_nil, n0, List.length_map]; exact rfl))
          | (refine Wp.cond_ndec (p := ?_) ?_ (fun hc => ?_) (fun hc => ?_); rotate_left; (· simp only [go_sem, reduceIte, Nat.reduceEqDiff, Nat.reduceAdd, bx, ax, if_true, if_false, Nat.reduceMul, Nat.reduceLeDiff, g1, h2, h3, hat, hil, encI, vAV, c1, k0, List.map_nil, List.length_nil, n0, List.length_map]; exact rfl))
          | (refine Wp.cond_split (b := ?_) ?_ (fun hc => ?_) (fun hc => ?_); rotate_left; (· simp only [go_sem, reduceIte, Nat.reduceEqDiff, Nat.reduceAdd, bx, ax, if_true, if_false, Nat.reduceMul, Nat.reduceLeDiff, g1, h2, h3, hat, hil, encI, vAV, c1, k0, List.map_nil, List.length_nil, n0, List.length_map]; exact rfl))
          | refine Wp.skip ?_
          | refine Wp.label ?_
          | refine Wp.block ?_
          | refine Wp.exit ?_
          | refine Wp.seq ?_)
        refine Wp.ret ⟨trivial, _, rfl, ?_⟩
        simp only [go_sem, reduceIte, Nat.reduceEqDiff, Nat.reduceAdd, bx]
        exact hb
      | cons v vl =>
        have n0 : decide (((vl.length + 1 : Nat) : Int) = 0) = false := decide_eq_false (by omega)
        have n1 : (0 : Int) < ((vl.length + 1 : Nat) : Int) := by omega
        have i0 : (0 : Int) ≤ 0 := Int.le_refl _
        have t0 : Int.toNat 0 = 0 := rfl
        cases hc : chB (v :: vl) with
        | false =>
          rw [hc] at hck
          have hb := bad (by rw [def0, hc]; simp)
          repeat' (first
            | (refine WpItems.nil ⟨?_, ?_⟩; (· first | trivial | simp [pairsQ, pairsOk, apart, ent0]))
            | (apply WpItems.evU; (· simp only [go_sem, reduceIte, Nat.reduceEqDiff, Nat.reduceAdd, bx, ax, if_true, if_false, Nat.reduceMul, Nat.reduceLeDiff, g1, h2, h3, hat, hil, encI, vAV, c1, k0, List.length_map, List.length_cons, n0, List.length_map]; exact rfl); (· simp only [go_sem, reduceIte, Nat.reduceEqDiff, Nat.reduceAdd, bx, ax, if_true, if_false, Nat.reduceMul, Nat.reduceLeDiff, g1, h2, h3, hat, hil, encI, vAV, c1, k0, List.length_map, List.length_cons, n0, List.length_map]; exact rfl))
            | (apply WpItems.part 1; (· simp only [go_sem, reduceIte, Nat.reduceEqDiff, Nat.reduceAdd, bx, ax, if_true, if_false, Nat.reduceMul, Nat.reduceLeDiff, g1, h2, h3, hat, hil, encI, vAV, c1, k0, List.length_map, List.length_cons, n0, List.length_map]; exact rfl); (try simp only [List.drop_succ_cons, List.drop_zero, List.drop_nil]))
            | (refine WpItems.pcall ?_ ?_ (hck) ?_; (· simp only [go_sem, reduceIte, Nat.reduceEqDiff, Nat.reduceAdd, bx]); (· simp only [go_sem, reduceIte, Nat.reduceEqDiff, Nat.reduceAdd, bx, List.map, ax, if_true, if_false, Nat.reduceMul, Nat.reduceLeDiff, g1, h2, h3, hat, hil, encI, vAV, c1, k0, List.length_map, List.length_cons, n0, List.length_map]; first | exact VSubs.refl _ | (repeat (first | exact VSubs.nil | refine VSubs.cons (by first | exact VSub.refl _ | assumption | exact VSub.cap | exact VSub.any _) ?_))))
            | (refine WpItems.gsplit_dec (p := ?_) ?_ (fun hc => ?_) (fun hc => ?_); rotate_left; (· simp only [go_sem, reduceIte, Nat.reduceEqDiff, Nat.reduceAdd, bx, ax, if_true, if_false, Nat.reduceMul, Nat.reduceLeDiff, g1, h2, h3, hat, hil, encI, vAV, c1, k0, List.length_map, List.length_cons, n0, List.length_map]; exact rfl))
            | (refine WpItems.gsplit_ndec (p := ?_) ?_ (fun hc => ?_) (fun hc => ?_); rotate_left; (· simp only [go_sem, reduceIte, Nat.reduceEqDiff, Nat.reduceAdd, bx, ax, if_true, if_false, Nat.reduceMul, Nat.reduceLeDiff, g1, h2, h3, hat, hil, encI, vAV, c1, k0, List.length_map, List.length_cons, n0, List.length_map]; exact rfl))
            | (refine WpItems.gsplit (b := ?_) ?_ (fun hc => ?_) (fun hc => ?_); rotate_left; (· simp only [go_sem, reduceIte, Nat.reduceEqDiff, Nat.reduceAdd, bx, ax, if_true, if_false, Nat.reduceMul, Nat.reduceLeDiff, g1, h2, h3, hat, hil, encI, vAV, c1, k0, List.length_map, List.length_cons, n0, List.length_map]; exact rfl))
            | refine Wp.seqRegS ?_
            | refine Wp.regS ?_
            | (refine Wp.cond_true ?_ ?_; (· simp only [go_sem, reduceIte, Nat.reduceEqDiff, Nat.reduceAdd, bx, ax, if_true, if_false, Nat.reduceMul, Nat.reduceLeDiff, g1, h2, h3, hat, hil, encI, vAV, c1, k0, List.length_map, List.length_cons, n0, List.length_map]))
            | (refine Wp.cond_false ?_ ?_; (· simp only [go_sem, reduceIte, Nat.reduceEqDiff, Nat.reduceAdd, bx, ax, if_true, if_false, Nat.reduceMul, Nat.reduceLeDiff, g1, h2, h3, hat, hil, encI, vAV, c1, k0, List.length_map, List.length_cons, n0, List.length_map]))
            | (refine Wp.cond_dec (p := ?_) ?_ (fun hc => ?_) (fun hc => ?_); rotate_left; (· simp only [go_sem, reduceIte, Nat.reduceEqDiff, Nat.reduceAdd, bx, ax, if_true, if_false, Nat.reduceMul, Nat.reduceLeDiff, g1, h2, h3, hat, hil, encI, vAV, c1, k0, List.length_map, List.length_cons, n0, List.length_map]; exact rfl))
            | (refine Wp.cond_ndec (p := ?_) ?_ (fun hc => ?_) (fun hc => ?_); rotate_left; (· simp only [go_sem, reduceIte, Nat.reduceEqDiff, Nat.reduceAdd, bx, ax, if_true, if_false, Nat.reduceMul, Nat.reduceLeDiff, g1, h2, h3, hat, hil, encI, vAV, c1, k0, List.length_map, List.length_cons, n0, List.length_map]; exact rfl))
            | (refine Wp.cond_split (b := ?_) ?_ (fun hc => ?_) (fun hc => ?_); rotate_left; (· simp only [go_sem, reduceIte, Nat.reduceEqDiff, Nat.reduceAdd, bx, ax, if_true, if_false, Nat.reduceMul, Nat.reduceLeDiff, g1, h2, h3, hat, hil, encI, vAV, c1, k0, List.length_map, List.length_cons, n0, List.length_map]; exact rfl))
            | refine Wp.skip ?_
            | refine Wp.label ?_
            | refine Wp.block ?_
            | refine Wp.exit ?_
            | refine Wp.seq ?_)
          refine Wp.ret ⟨trivial, _, rfl, ?_⟩
          simp only [go_sem, reduceIte, Nat.reduceEqDiff, Nat.reduceAdd, bx]
          exact hb
        | true =>
          rw [hc] at hck
          by_cases q5 : last < v.t
          · have d5 := decide_eq_true q5
            have hb := bad (by rw [def0, List.getD_cons_zero, decide_eq_false (show ¬ v.t ≤ last by omega)]; simp)
            repeat' (first
              | (refine WpItems.nil ⟨?_, ?_⟩; (· first | trivial | simp [pairsQ, pairsOk, apart, ent0]))
              | (apply WpItems.evU; (· simp only [go_sem, reduceIte, Nat.reduceEqDiff, Nat.reduceAdd, bx, ax, if_true, if_false, Nat.reduceMul, Nat.reduceLeDiff, g1, h2, h3, hat, hil, encI, vAV, c1, k0, List.length_map, List.length_cons, n0, n1, i0, t0, List.map_cons, List.getD_cons_zero, encV, d5, List.length_map]; exact rfl); (· simp only [go_sem, reduceIte, Nat.reduceEqDiff, Nat.reduceAdd, bx, ax, if_true, if_false, Nat.reduceMul, Nat.reduceLeDiff, g1, h2, h3, hat, hil, encI, vAV, c1, k0, List.length_map, List.length_cons, n0, n1, i0, t0, List.map_cons, List.getD_cons_zero, encV, d5, List.length_map]; exact rfl))
              | (apply WpItems.part 1; (· simp only [go_sem, reduceIte, Nat.reduceEqDiff, Nat.reduceAdd, bx, ax, if_true, if_false, Nat.reduceMul, Nat.reduceLeDiff, g1, h2, h3, hat, hil, encI, vAV, c1, k0, List.length_map, List.length_cons, n0, n1, i0, t0, List.map_cons, List.getD_cons_zero, encV, d5, List.length_map]; exact rfl); (try simp only [List.drop_succ_cons, List.drop_zero, List.drop_nil]))
              | (refine WpItems.pcall ?_ ?_ (hck) ?_; (· simp only [go_sem, reduceIte, Nat.reduceEqDiff, Nat.reduceAdd, bx]); (· simp only [go_sem, reduceIte, Nat.reduceEqDiff, Nat.reduceAdd, bx, List.map, ax, if_true, if_false, Nat.reduceMul, Nat.reduceLeDiff, g1, h2, h3, hat, hil, encI, vAV, c1, k0, List.length_map, List.length_cons, n0, n1, i0, t0, List.map_cons, List.getD_cons_zero, encV, d5, List.length_map]; first | exact VSubs.refl _ | (repeat (first | exact VSubs.nil | refine VSubs.cons (by first | exact VSub.refl _ | assumption | exact VSub.cap | exact VSub.any _) ?_))))
              | (refine WpItems.gsplit_dec (p := ?_) ?_ (fun hc => ?_) (fun hc => ?_); rotate_left; (· simp only [go_sem, reduceIte, Nat.reduceEqDiff, Nat.reduceAdd, bx, ax, if_true, if_false, Nat.reduceMul, Nat.reduceLeDiff, g1, h2, h3, hat, hil, encI, vAV, c1, k0, List.length_map, List.length_cons, n0, n1, i0, t0, List.map_cons, List.getD_cons_zero, encV, d5, List.length_map]; exact rfl))
              | (refine WpItems.gsplit_ndec (p := ?_) ?_ (fun hc => ?_) (fun hc => ?_); rotate_left; (· simp only [go_sem, reduceIte, Nat.reduceEqDiff, Nat.reduceAdd, bx, ax, if_true, if_false, Nat.reduceMul, Nat.reduceLeDiff, g1, h2, h3, hat, hil, encI, vAV, c1, k0, List.length_map, List.length_cons, n0, n1, i0, t0, List.map_cons, List.getD_cons_zero, encV, d5, List.length_map]; exact rfl))
              | (refine WpItems.gsplit (b := ?_) ?_ (fun hc => ?_) (fun hc => ?_); rotate_left; (· simp only [go_sem, reduceIte, Nat.reduceEqDiff, Nat.reduceAdd, bx, ax, if_true, if_false, Nat.reduceMul, Nat.reduceLeDiff, g1, h2, h3, hat, hil, encI, vAV, c1, k0, List.length_map, List.length_cons, n0, n1, i0, t0, List.map_cons, List.getD_cons_zero, encV, d5, List.length_map]; exact rfl))
              | refine Wp.seqRegS ?_
              | refine Wp.regS ?_
              | (refine Wp.cond_true ?_ ?_; (· simp only [go_sem, reduceIte, Nat.reduceEqDiff, Nat.reduceAdd, bx, ax, if_true, if_false, Nat.reduceMul, Nat.reduceLeDiff, g1, h2, h3, hat, hil, encI, vAV, c1, k0, List.length_map, List.length_cons, n0, n1, i0, t0, List.map_cons, List.getD_cons_zero, encV, d5, List.length_map]))
              | (refine Wp.cond_false ?_ ?_; (· simp only [go_sem, reduceIte, Nat.reduceEqDiff, Nat.reduceAdd, bx, ax, if_true, if_false, Nat.reduceMul, Nat.reduceLeDiff, g1, h2, h3, hat, hil, encI, vAV, c1, k0, List.length_map, List.length_cons, n0, n1, i0, t0, List.map_cons, List.getD_cons_zero, encV, d5, List.length_map]))
              | (refine Wp.cond_dec (p := ?_) ?_ (fun hc => ?_) (fun hc => ?_); rotate_left; (· simp only [go_sem, reduceIte, Nat.reduceEqDiff, Nat.reduceAdd, bx, ax, if_true, if_false, Nat.reduceMul, Nat.reduceLeDiff, g1, h2, h3, hat, hil, encI, vAV, c1, k0, List.length_map, List.length_cons, n0, n1, i0, t0, List.map_cons, List.getD_cons_zero, encV, d5, List.length_map]; exact rfl))
              | (refine Wp.cond_ndec (p := ?_) ?_ (fun hc => ?_) (fun hc => ?_); rotate_left; (· simp only [go_sem, reduceIte, Nat.reduceEqDiff, Nat.reduceAdd, bx, ax, if_true, if_false, Nat.reduceMul, Nat.reduceLeDiff, g1, h2, h3, hat, hil, encI, vAV, c1, k0, List.length_map, List.length_cons, n0, n1, i0, t0, List.map_cons, List.getD_cons_zero, encV, d5, List.length_map]; exact rfl))
              | (refine Wp.cond_split (b := ?_) ?_ (fun hc => ?_) (fun hc => ?_); rotate_left; (· simp only [go_sem, reduceIte, Nat.reduceEqDiff, Nat.reduceAdd, bx, ax, if_true, if_false, Nat.reduceMul, Nat.reduceLeDiff, g1, h2, h3, hat, hil, encI, vAV, c1, k0, List.length_map, List.length_cons, n0, n1, i0, t0, List.map_cons, List.getD_cons_zero, encV, d5, List.length_map]; exact rfl))
              | refine Wp.skip ?_
              | refine Wp.label ?_
              | refine Wp.block ?_
              | refine Wp.exit ?_
              | refine Wp.seq ?_)
            refine Wp.ret ⟨trivial, _, rfl, ?_⟩
            simp only [go_sem, reduceIte, Nat.reduceEqDiff, Nat.reduceAdd, bx]
            exact hb
          · have d5 := decide_eq_false q5
            have hy := stp (by rw [def0, c1', hc, List.getD_cons_zero, decide_eq_true (show v.t ≤ last by omega)]; simp [jz])
            repeat' (first
              | (refine WpItems.nil ⟨?_, ?_⟩; (· first | trivial | simp [pairsQ, pairsOk, apart, ent0]))
              | (apply WpItems.evU; (· simp only [go_sem, reduceIte, Nat.reduceEqDiff, Nat.reduceAdd, bx, ax, if_true, if_false, Nat.reduceMul, Nat.reduceLeDiff, g1, h2, h3, hat, hil, encI, vAV, c1, k0, List.length_map, List.length_cons, n0, n1, i0, t0, List.map_cons, List.getD_cons_zero, encV, d5, e1, List.length_map]; exact rfl); (· simp only [go_sem, reduceIte, Nat.reduceEqDiff, Nat.reduceAdd, bx, ax, if_true, if_false, Nat.reduceMul, Nat.reduceLeDiff, g1, h2, h3, hat, hil, encI, vAV, c1, k0, List.length_map, List.length_cons, n0, n1, i0, t0, List.map_cons, List.getD_cons_zero, encV, d5, e1, List.length_map]; exact rfl))
              | (apply WpItems.part 1; (· simp only [go_sem, reduceIte, Nat.reduceEqDiff, Nat.reduceAdd, bx, ax, if_true, if_false, Nat.reduceMul, Nat.reduceLeDiff, g1, h2, h3, hat, hil, encI, vAV, c1, k0, List.length_map, List.length_cons, n0, n1, i0, t0, List.map_cons, List.getD_cons_zero, encV, d5, e1, List.length_map]; exact rfl); (try simp only [List.drop_succ_cons, List.drop_zero, List.drop_nil]))
              | (refine WpItems.pcall ?_ ?_ (hck) ?_; (· simp only [go_sem, reduceIte, Nat.reduceEqDiff, Nat.reduceAdd, bx]); (· simp only [go_sem, reduceIte, Nat.reduceEqDiff, Nat.reduceAdd, bx, List.map, ax, if_true, if_false, Nat.reduceMul, Nat.reduceLeDiff, g1, h2, h3, hat, hil, encI, vAV, c1, k0, List.length_map, List.length_cons, n0, n1, i0, t0, List.map_cons, List.getD_cons_zero, encV, d5, e1, List.length_map]; first | exact VSubs.refl _ | (repeat (first | exact VSubs.nil | refine VSubs.cons (by first | exact VSub.refl _ | assumption | exact VSub.cap | exact VSub.any _) ?_))))
              | (refine WpItems.gsplit_dec (p := ?_) ?_ (fun hc => ?_) (fun hc => ?_); rotate_left; (· simp only [go_sem, reduceIte, Nat.reduceEqDiff, Nat.reduceAdd, bx, ax, if_true, if_false, Nat.reduceMul, Nat.reduceLeDiff, g1, h2, h3, hat, hil, encI, vAV, c1, k0, List.length_map, List.length_cons, n0, n1, i0, t0, List.map_cons, List.getD_cons_zero, encV, d5, e1, List.length_map]; exact rfl))
              | (refine WpItems.gsplit_ndec (p := ?_) ?_ (fun hc => ?_) (fun hc => ?_); rotate_left; (· simp only [go_sem, reduceIte, Nat.reduceEqDiff, Nat.reduceAdd, bx, ax, if_true, if_false, Nat.reduceMul, Nat.reduceLeDiff, g1, h2, h3, hat, hil, encI, vAV, c1, k0, List.length_map, List.length_cons, n0, n1, i0, t0, List.map_cons, List.getD_cons_zero, encV, d5, e1, List.length_map]; exact rfl))
              | (refine WpItems.gsplit (b := ?_) ?_ (fun hc => ?_) (fun hc => ?_); rotate_left; (· simp only [go_sem, reduceIte, Nat.reduceEqDiff, Nat.reduceAdd, bx, ax, if_true, if_false, Nat.reduceMul, Nat.reduceLeDiff, g1, h2, h3, hat, hil, encI, vAV, c1, k0, List.length_map, List.length_cons, n0, n1, i0, t0, List.map_cons, List.getD_cons_zero, encV, d5, e1, List.length_map]; exact rfl))
              | refine Wp.seqRegS ?_
              | refine Wp.regS ?_
              | (refine Wp.cond_true ?_ ?_; (· simp only [go_sem, reduceIte, Nat.reduceEqDiff, Nat.reduceAdd, bx, ax, if_true, if_false, Nat.reduceMul, Nat.reduceLeDiff, g1, h2, h3, hat, hil, encI, vAV, c1, k0, List.length_map, List.length_cons, n0, n1, i0, t0, List.map_cons, List.getD_cons_zero, encV, d5, e1, List.length_map]))
              | (refine Wp.cond_false ?_ ?_; (· simp only [go_sem, reduceIte, Nat.reduceEqDiff, Nat.reduceAdd, bx, ax, if_true, if_false, Nat.reduceMul, Nat.reduceLeDiff, g1, h2, h3, hat, hil, encI, vAV, c1, k0, List.length_map, List.length_cons, n0, n1, i0, t0, List.map_cons, List.getD_cons_zero, encV, d5, e1, List.length_map]))
              | (refine Wp.cond_dec (p := ?_) ?_ (fun hc => ?_) (fun hc => ?_); rotate_left; (· simp only [go_sem, reduceIte, Nat.reduceEqDiff, Nat.reduceAdd, bx, ax, if_true, if_false, Nat.reduceMul, Nat.reduceLeDiff, g1, h2, h3, hat, hil, encI, vAV, c1, k0, List.length_map, List.length_cons, n0, n1, i0, t0, List.map_cons, List.getD_cons_zero, encV, d5, e1, List.length_map]; exact rfl))
              | (refine Wp.cond_ndec (p := ?_) ?_ (fun hc => ?_) (fun hc => ?_); rotate_left; (· simp only [go_sem, reduceIte, Nat.reduceEqDiff, Nat.reduceAdd, bx, ax, if_true, if_false, Nat.reduceMul, Nat.reduceLeDiff, g1, h2, h3, hat, hil, encI, vAV, c1, k0, List.length_map, List.length_cons, n0, n1, i0, t0, List.map_cons, List.getD_cons_zero, encV, d5, e1, List.length_map]; exact rfl))
              | (refine Wp.cond_split (b := ?_) ?_ (fun hc => ?_) (fun hc => ?_); rotate_left; (· simp only [go_sem, reduceIte, Nat.reduceEqDiff, Nat.reduceAdd, bx, ax, if_true, if_false, Nat.reduceMul, Nat.reduceLeDiff, g1, h2, h3, hat, hil, encI, vAV, c1, k0, List.length_map, List.length_cons, n0, n1, i0, t0, List.map_cons, List.getD_cons_zero, encV, d5, e1, List.length_map]; exact rfl))
              | refine Wp.skip ?_
              | refine Wp.label ?_
              | refine Wp.block ?_
              | refine Wp.exit ?_
              | refine Wp.seq ?_)
            refine ⟨j + 1, ⟨by omega, hy⟩, by omega, ?_⟩
            refine StLe.tm (by simp only [AllSub, go_sem, reduceIte, Nat.reduceEqDiff, Nat.reduceAdd, bx]; and_intros <;> first | exact trivial | exact VSub.refl _ | exact VSub.any _ | (refine VSub.int ?_; omega))
    · have k0 : decide ((0 : Int) < (j : Int)) = true := decide_eq_true (by omega)
      have k1 : IntKind.i64.wrap ((j : Int) - 1) = ((j - 1 : Nat) : Int) := by rw [IntWalk.i64_in _ (by omega)]; omega
      have k2 : (0 : Int) ≤ ((j - 1 : Nat) : Int) := by omega
      have k3 : ((j - 1 : Nat) : Int) < (l.length : Int) := by omega
      obtain ⟨p, hp, ha, hpl, hpa⟩ := ahd jz
      clear hp
      have hbel := below_p p.1 q (by unfold Ls; omega) (by unfold Ls; omega)
      cases q2 : Op.bytesLess p.1 q with
      | false =>
        rw [q2] at hbel
        have hb := bad (by rw [def0, ha, q2]; simp [jz])
        repeat' (first
          | (refine WpItems.nil ⟨?_, ?_⟩; (· first | trivial | simp [pairsQ, pairsOk, apart, ent0]))
          | (apply WpItems.evU; (· simp only [go_sem, reduceIte, Nat.reduceEqDiff, Nat.reduceAdd, bx, ax, if_true, if_false, Nat.reduceMul, Nat.reduceLeDiff, g1, h2, h3, hat, hil, encI, vAV, c1, k0, k1, k2, k3, hpa, List.length_map]; exact rfl); (· simp only [go_sem, reduceIte, Nat.reduceEqDiff, Nat.reduceAdd, bx, ax, if_true, if_false, Nat.reduceMul, Nat.reduceLeDiff, g1, h2, h3, hat, hil, encI, vAV, c1, k0, k1, k2, k3, hpa, List.length_map]; exact rfl))
          | (apply WpItems.part 1; (· simp only [go_sem, reduceIte, Nat.reduceEqDiff, Nat.reduceAdd, bx, ax, if_true, if_false, Nat.reduceMul, Nat.reduceLeDiff, g1, h2, h3, hat, hil, encI, vAV, c1, k0, k1, k2, k3, hpa, List.length_map]; exact rfl); (try simp only [List.drop_succ_cons, List.drop_zero, List.drop_nil]))
          | (refine WpItems.pcall ?_ ?_ (hbel) ?_; (· simp only [go_sem, reduceIte, Nat.reduceEqDiff, Nat.reduceAdd, bx]); (· simp only [go_sem, reduceIte, Nat.reduceEqDiff, Nat.reduceAdd, bx, List.map, ax, if_true, if_false, Nat.reduceMul, Nat.reduceLeDiff, g1, h2, h3, hat, hil, encI, vAV, c1, k0, k1, k2, k3, hpa, List.length_map]; first | exact VSubs.refl _ | (repeat (first | exact VSubs.nil | refine VSubs.cons (by first | exact VSub.refl _ | assumption | exact VSub.cap | exact VSub.any _) ?_))))
          | (refine WpItems.gsplit_dec (p := ?_) ?_ (fun hc => ?_) (fun hc => ?_); rotate_left; (· simp only [go_sem, reduceIte, Nat.reduceEqDiff, Nat.reduceAdd, bx, ax, if_true, if_false, Nat.reduceMul, Nat.reduceLeDiff, g1, h2, h3, hat, hil, encI, vAV, c1, k0, k1, k2, k3, hpa, List.length_map]; exact rfl))
          | (refine WpItems.gsplit_ndec (p := ?_) ?_ (fun hc => ?_) (fun hc => ?_); rotate_left; (· simp only [go_sem, reduceIte, Nat.reduceEqDiff, Nat.reduceAdd, bx, ax, if_true, if_false, Nat.reduceMul, Nat.reduceLeDiff, g1, h2, h3, hat, hil, encI, vAV, c1, k0, k1, k2, k3, hpa, List.length_map]; exact rfl))
          | (refine WpItems.gsplit (b := ?_) ?_ (fun hc => ?_) (fun hc => ?_); rotate_left; (· simp only [go_sem, reduceIte, Nat.reduceEqDiff, Nat.reduceAdd, bx, ax, if_true, if_false, Nat.reduceMul, Nat.reduceLeDiff, g1, h2, h3, hat, hil, encI, vAV, c1, k0, k1, k2, k3, hpa, List.length_map]; exact rfl))
          | refine Wp.seqRegS ?_
          | refine Wp.regS ?_
          | (refine Wp.cond_true ?_ ?_; (· simp only [go_sem, reduceIte, Nat.reduceEqDiff, Nat.reduceAdd, bx, ax, if_true, if_false, Nat.reduceMul, Nat.reduceLeDiff, g1, h2, h3, hat, hil, encI, vAV, c1, k0, k1, k2, k3, hpa, List.length_map]))
          | (refine Wp.cond_false ?_ ?_; (· simp only [go_sem, reduceIte, Nat.reduceEqDiff, Nat.reduceAdd, bx, ax, if_true, if_false, Nat.reduceMul, Nat.reduceLeDiff, g1, h2, h3, hat, hil, encI, vAV, c1, k0, k1, k2, k3, hpa, List.length_map]))
          | (refine Wp.cond_dec (p := ?_) ?_ (fun hc => ?_) (fun hc => ?_); rotate_left; (· simp only [go_sem, reduceIte, Nat.reduceEqDiff, Nat.reduceAdd, bx, ax, if_true, if_false, Nat.reduceMul, Nat.reduceLeDiff, g1, h2, h3, hat, hil, encI, vAV, c1, k0, k1, k2, k3, hpa, List.length_map]; exact rfl))
          | (refine Wp.cond_ndec (p := ?_) ?_ (fun hc => ?_) (fun hc => ?_); rotate_left; (· simp only [go_sem, reduceIte, Nat.reduceEqDiff, Nat.reduceAdd, bx, ax, if_true, if_false, Nat.reduceMul, Nat.reduceLeDiff, g1, h2, h3, hat, hil, encI, vAV, c1, k0, k1, k2, k3, hpa, List.length_map]; exact rfl))
          | (refine Wp.cond_split (b := ?_) ?_ (fun hc => ?_) (fun hc => ?_); rotate_left; (· simp only [go_sem, reduceIte, Nat.reduceEqDiff, Nat.reduceAdd, bx, ax, if_true, if_false, Nat.reduceMul, Nat.reduceLeDiff, g1, h2, h3, hat, hil, encI, vAV, c1, k0, k1, k2, k3, hpa, List.length_map]; exact rfl))
          | refine Wp.skip ?_
          | refine Wp.label ?_
          | refine Wp.block ?_
          | refine Wp.exit ?_
          | refine Wp.seq ?_)
        refine Wp.ret ⟨trivial, _, rfl, ?_⟩
        simp only [go_sem, reduceIte, Nat.reduceEqDiff, Nat.reduceAdd, bx]
        exact hb
      | true =>
        rw [q2] at hbel
        cases vs with
        | nil =>
          have hb := bad (by rw [def0]; simp)
          have n0 : decide (((0 : Nat) : Int) = 0) = true := rfl
          repeat' (first
            | (refine WpItems.nil ⟨?_, ?_⟩; (· first | trivial | simp [pairsQ, pairsOk, apart, ent0]))
            | (apply WpItems.evU; (· simp only [go_sem, reduceIte, Nat.reduceEqDiff, Nat.reduceAdd, bx, ax, if_true, if_false, Nat.reduceMul, Nat.reduceLeDiff, g1, h2, h3, hat, hil, encI, vAV, c1, k0, k1, k2, k3, hpa, List.map_nil, List.length_nil, n0, List.length_map]; exact rfl); (· simp only [go_sem, reduceIte, Nat.reduceEqDiff, Nat.reduceAdd, bx, ax, if_true, if_false, Nat.reduceMul, Nat.reduceLeDiff, g1, h2, h3, hat, hil, encI, vAV, c1, k0, k1, k2, k3, hpa, List.map_nil, List.length_nil, n0, List.length_map]; exact rfl))
            | (apply WpItems.part 1; (· simp only [go_sem, reduceIte, Nat.reduceEqDiff, Nat.reduceAdd, bx, ax, if_true, if_false, Nat.reduceMul, Nat.reduceLeDiff, g1, h2, h3, hat, hil, encI, vAV, c1, k0, k1, k2, k3, hpa, List.map_nil, List.length_nil, n0, List.length_map]; exact rfl); (try simp only [List.drop_succ_cons, List.drop_zero, List.drop_nil]))
            | (refine WpItems.pcall ?_ ?_ (hbel) ?_; (· simp only [go_sem, reduceIte, Nat.reduceEqDiff, Nat.reduceAdd, bx]); (· simp only [go_sem, reduceIte, Nat.reduceEqDiff, Nat.reduceAdd, bx, List.map, ax, if_true, if_false, Nat.reduceMul, Nat.reduceLeDiff, g1, h2, h3, hat, hil, encI, vAV, c1, k0, k1, k2, k3, hpa, List.map_nil, List.length_nil, n0, List.length_map]; first | exact VSubs.refl _ | (repeat (first | exact VSubs.nil | refine VSubs.cons (by first | exact VSub.refl _ | assumption | exact VSub.cap | exact VSub.any _) ?_))))
            | (refine WpItems.gsplit_dec (p := ?_) ?_ (fun hc => ?_) (fun hc => ?_); rotate_left; (· simp only [go_sem, reduceIte, Nat.reduceEqDiff, Nat.reduceAdd, bx, ax, if_true, if_false, Nat.reduceMul, Nat.reduceLeDiff, g1, h2, h3, hat, hil, encI, vAV, c1, k0, k1, k2, k3, hpa, List.map_nil, List.length_nil, n0, List.length_map]; exact rfl))
            | (refine WpItems.gsplit_ndec (p := ?_) ?_ (fun hc => ?_) (fun hc => ?_); rotate_left; (· simp only [go_sem, reduceIte, Nat.reduceEqDiff, Nat.reduceAdd, bx, ax, if_true, if_false, Nat.reduceMul, Nat.reduceLeDiff, g1, h2, h3, hat, hil, encI, vAV, c1, k0, k1, k2, k3, hpa, List.map_nil, List.length_nil, n0, List.length_map]; exact rfl))
            | (refine WpItems.gsplit (b := ?_) ?_ (fun hc => ?_) (fun hc => ?_); rotate_left; (· simp only [go_sem, reduceIte, Nat.reduceEqDiff, Nat.reduceAdd, bx, ax, if_true, if_false, Nat.reduceMul, Nat.reduceLeDiff, g1, h2, h3, hat, hil, encI, vAV, c1, k0, k1, k2, k3, hpa, List.map_nil, List.length_nil, n0, List.length_map]; exact rfl))
            | refine Wp.seqRegS ?_
            | refine Wp.regS ?_
            | (refine Wp.cond_true ?_ ?_; (· simp only [go_sem, reduceIte, Nat.reduceEqDiff, Nat.reduceAdd, bx, ax, if_true, if_false, Nat.reduceMul, Nat.reduceLeDiff, g1, h2, h3, hat, hil, encI, vAV, c1, k0, k1, k2, k3, hpa, List.map_nil, List.length_nil, n0, List.length_map]))
            | (refine Wp.cond_false ?_ ?_; (· simp only [go_sem, reduceIte, Nat.reduceEqDiff, Nat.reduceAdd, bx, ax, if_true, if_false, Nat.reduceMul, Nat.reduceLeDiff, g1, h2, h3, hat, hil, encI, vAV, c1, k0, k1, k2, k3, hpa, List.map_nil, List.length_nil, n0, List.length_map]))
            | (refine Wp.cond_dec (p := ?_) ?_ (fun hc => ?_) (fun hc => ?_); rotate_left; (· simp only [go_sem, reduceIte, Nat.reduceEqDiff, Nat.reduceAdd, bx, ax, if_true, if_false, Nat.reduceMul, Nat.reduceLeDiff, g1, h2, h3, hat, hil, encI, vAV, c1, k0, k1, k2, k3, hpa, List.map_nil, List.length_nil, n0, List.length_map]; exact rfl))
            | (refine Wp.cond_ndec (p := ?_) ?_ (fun hc => ?_) (fun hc => ?_); rotate_left; (· simp only [go_sem, reduceIte, Nat.reduceEqDiff, Nat.reduceAdd, bx, ax, if_true, if_false, Nat.reduceMul, Nat.reduceLeDiff, g1, h2, h3, hat, hil, encI, vAV, c1, k0, k1, k2, k3, hpa, List.map_nil, List.length_nil, n0, List.length_map]; exact rfl))
            | (refine Wp.cond_split (b := ?_) ?_ (fun hc => ?_) (fun hc => ?_); rotate_left; (· simp only [go_sem, reduceIte, Nat.reduceEqDiff, Nat.reduceAdd, bx, ax, if_true, if_false, Nat.reduceMul, Nat.reduceLeDiff, g1, h2, h3, hat, hil, encI, vAV, c1, k0, k1, k2, k3, hpa, List.map_nil, List.length_nil, n0, List.length_map]; exact rfl))
            | refine Wp.skip ?_
            | refine Wp.label ?_
            | refine Wp.block ?_
            | refine Wp.exit ?_
            | refine Wp.seq ?_)
          refine Wp.ret ⟨trivial, _, rfl, ?_⟩
          simp only [go_sem, reduceIte, Nat.reduceEqDiff, Nat.reduceAdd, bx]
          exact hb
        | cons v vl =>
          have n0 : decide (((vl.length + 1 : Nat) : Int) = 0) = false := decide_eq_false (by omega)
          have n1 : (0 : Int) < ((vl.length + 1 : Nat) : Int) := by omega
          have i0 : (0 : Int) ≤ 0 := Int.le_refl _
          have t0 : Int.toNat 0 = 0 := rfl
          cases hc : chB (v :: vl) with
          | false =>
            rw [hc] at hck
            have hb := bad (by rw [def0, hc]; simp)
            repeat' (first
              | (refine WpItems.nil ⟨?_, ?_⟩; (· first | trivial | simp [pairsQ, pairsOk, apart, ent0]))
              | (apply WpItems.evU; (· simp only [go_sem, reduceIte, Nat.reduceEqDiff, Nat.reduceAdd, bx, ax, if_true, if_false, Nat.reduceMul, Nat.reduceLeDiff, g1, h2, h3, hat, hil, encI, vAV, c1, k0, k1, k2, k3, hpa, List.length_map, List.length_cons, n0, List.length_map]; exact rfl); (· simp only [go_sem, reduceIte, Nat.reduceEqDiff, Nat.reduceAdd, bx, ax, if_true, if_false, Nat.reduceMul, Nat.reduceLeDiff, g1, h2, h3, hat, hil, encI, vAV, c1, k0, k1, k2, k3, hpa, List.length_map, List.length_cons, n0, List.length_map]; exact rfl))
              | (apply WpItems.part 1; (· simp only [go_sem, reduceIte, Nat.reduceEqDiff, Nat.reduceAdd, bx, ax, if_true, if_false, Nat.reduceMul, Nat.reduceLeDiff, g1, h2, h3, hat, hil, encI, vAV, c1, k0, k1, k2, k3, hpa, List.length_map, List.length_cons, n0, List.length_map]; exact rfl); (try simp only [List.drop_succ_cons, List.drop_zero, List.drop_nil]))
              | (refine WpItems.pcall ?_ ?_ (hbel) ?_; (· simp only [go_sem, reduceIte, Nat.reduceEqDiff, Nat.reduceAdd, bx]); (· simp only [go_sem, reduceIte, Nat.reduceEqDiff, Nat.reduceAdd, bx, List.map, ax, if_true, if_false, Nat.reduceMul, Nat.reduceLeDiff, g1, h2, h3, hat, hil, encI, vAV, c1, k0, k1, k2, k3, hpa, List.length_map, List.length_cons, n0, List.length_map]; first | exact VSubs.refl _ | (repeat (first | exact VSubs.nil | refine VSubs.cons (by first | exact VSub.refl _ | assumption | exact VSub.cap | exact VSub.any _) ?_))))
              | (refine WpItems.pcall ?_ ?_ (hck) ?_; (· simp only [go_sem, reduceIte, Nat.reduceEqDiff, Nat.reduceAdd, bx]); (· simp only [go_sem, reduceIte, Nat.reduceEqDiff, Nat.reduceAdd, bx, List.map, ax, if_true, if_false, Nat.reduceMul, Nat.reduceLeDiff, g1, h2, h3, hat, hil, encI, vAV, c1, k0, k1, k2, k3, hpa, List.length_map, List.length_cons, n0, List.length_map]; first | exact VSubs.refl _ | (repeat (first | exact VSubs.nil | refine VSubs.cons (by first | exact VSub.refl _ | assumption | exact VSub.cap | exact VSub.any _) ?_))))
              | (refine WpItems.gsplit_dec (p := ?_) ?_ (fun hc => ?_) (fun hc => ?_); rotate_left; (· simp only [go_sem, reduceIte, Nat.reduceEqDiff, Nat.reduceAdd, bx, ax, if_true, if_false, Nat.reduceMul, Nat.reduceLeDiff, g1, h2, h3, hat, hil, encI, vAV, c1, k0, k1, k2, k3, hpa, List.length_map, List.length_cons, n0, List.length_map]; exact rfl))
              | (refine WpItems.gsplit_ndec (p := ?_) ?_ (fun hc => ?_) (fun hc => ?_); rotate_left; (· simp only [go_sem, reduceIte, Nat.reduceEqDiff, Nat.reduceAdd, bx, ax, if_true, if_false, Nat.reduceMul, Nat.reduceLeDiff, g1, h2, h3, hat, hil, encI, vAV, c1, k0, k1, k2, k3, hpa, List.length_map, List.length_cons, n0, List.length_map]; exact rfl))
              | (refine WpItems.gsplit (b := ?_) ?_ (fun hc => ?_) (fun hc => ?_); rotate_left; (· simp only [go_sem, reduceIte, Nat.reduceEqDiff, Nat.reduceAdd, bx, ax, if_true, if_false, Nat.reduceMul, Nat.reduceLeDiff, g1, h2, h3, hat, hil, encI, vAV, c1, k0, k1, k2, k3, hpa, List.length_map, List.length_cons, n0, List.length_map]; exact rfl))
              | refine Wp.seqRegS ?_
              | refine Wp.regS ?_
              | (refine Wp.cond_true ?_ ?_; (· simp only [go_sem, reduceIte, Nat.reduceEqDiff, Nat.reduceAdd, bx, ax, if_true, if_false, Nat.reduceMul, Nat.reduceLeDiff, g1, h2, h3, hat, hil, encI, vAV, c1, k0, k1, k2, k3, hpa, List.length_map, List.length_cons, n0, List.length_map]))
              | (refine Wp.cond_false ?_ ?_; (· simp only [go_sem, reduceIte, Nat.reduceEqDiff, Nat.reduceAdd, bx, ax, if_true, if_false, Nat.reduceMul, Nat.reduceLeDiff, g1, h2, h3, hat, hil, encI, vAV, c1, k0, k1, k2, k3, hpa, List.length_map, List.length_cons, n0, List.length_map]))
              | (refine Wp.cond_dec (p := ?_) ?_ (fun hc => ?_) (fun hc => ?_); rotate_left; (· simp only [go_sem, reduceIte, Nat.reduceEqDiff, Nat.reduceAdd, bx, ax, if_true, if_false, Nat.reduceMul, Nat.reduceLeDiff, g1, h2, h3, hat, hil, encI, vAV, c1, k0, k1, k2, k3, hpa, List.length_map, List.length_cons, n0, List.length_map]; exact rfl))
              | (refine Wp.cond_ndec (p := ?_) ?_ (fun hc => ?_) (fun hc => ?_); rotate_left; (· simp only [go_sem, reduceIte, Nat.reduceEqDiff, Nat.reduceAdd, bx, ax, if_true, if_false, Nat.reduceMul, Nat.reduceLeDiff, g1, h2, h3, hat, hil, encI, vAV, c1, k0, k1, k2, k3, hpa, List.length_map, List.length_cons, n0, List.length_map]; exact rfl))
              | (refine Wp.cond_split (b := ?_) ?_ (fun hc => ?_) (fun hc => ?_); rotate_left; (· simp only [go_sem, reduceIte, Nat.reduceEqDiff, Nat.reduceAdd, bx, ax, if_true, if_false, Nat.reduceMul, Nat.reduceLeDiff, g1, h2, h3, hat, hil, encI, vAV, c1, k0, k1, k2, k3, hpa, List.length_map, List.length_cons, n0, List.length_map]; exact rfl))
              | refine Wp.skip ?_
              | refine Wp.label ?_
              | refine Wp.block ?_
              | refine Wp.exit ?_
              | refine Wp.seq ?_)
            refine Wp.ret ⟨trivial, _, rfl, ?_⟩
            simp only [go_sem, reduceIte, Nat.reduceEqDiff, Nat.reduceAdd, bx]
            exact hb
          | true =>
            rw [hc] at hck
            by_cases q5 : last < v.t
            · have d5 := decide_eq_true q5
              have hb := bad (by rw [def0, List.getD_cons_zero, decide_eq_false (show ¬ v.t ≤ last by omega)]; simp)
              repeat' (first
                | (refine WpItems.nil ⟨?_, ?_⟩; (· first | trivial | simp [pairsQ, pairsOk, apart, ent0]))
                | (apply WpItems.evU; (· simp only [go_sem, reduceIte, Nat.reduceEqDiff, Nat.reduceAdd, bx, ax, if_true, if_false, Nat.reduceMul, Nat.reduceLeDiff, g1, h2, h3, hat, hil, encI, vAV, c1, k0, k1, k2, k3, hpa, List.length_map, List.length_cons, n0, n1, i0, t0, List.map_cons, List.getD_cons_zero, encV, d5, List.length_map]; exact rfl); (· simp only [go_sem, reduceIte, Nat.reduceEqDiff, Nat.reduceAdd, bx, ax, if_true, if_false, Nat.reduceMul, Nat.reduceLeDiff, g1, h2, h3, hat, hil, encI, vAV, c1, k0, k1, k2, k3, hpa, List.length_map, List.length_cons, n0, n1, i0, t0, List.map_cons, List.getD_cons_zero, encV, d5, List.length_map]; exact rfl))
                | (apply WpItems.part 1; (· simp only [go_sem, reduceIte, Nat.reduceEqDiff, Nat.reduceAdd, bx, ax, if_true, if_false, Nat.reduceMul, Nat.reduceLeDiff, g1, h2, h3, hat, hil, encI, vAV, c1, k0, k1, k2, k3, hpa, List.length_map, List.length_cons, n0, n1, i0, t0, List.map_cons, List.getD_cons_zero, encV, d5, List.length_map]; exact rfl); (try simp only [List.drop_succ_cons, List.drop_zero, List.drop_nil]))
                | (refine WpItems.pcall ?_ ?_ (hbel) ?_; (· simp only [go_sem, reduceIte, Nat.reduceEqDiff, Nat.reduceAdd, bx]); (· simp only [go_sem, reduceIte, Nat.reduceEqDiff, Nat.reduceAdd, bx, List.map, ax, if_true, if_false, Nat.reduceMul, Nat.reduceLeDiff, g1, h2, h3, hat, hil, encI, vAV, c1, k0, k1, k2, k3, hpa, List.length_map, List.length_cons, n0, n1, i0, t0, List.map_cons, List.getD_cons_zero, encV, d5, List.length_map]; first | exact VSubs.refl _ | (repeat (first | exact VSubs.nil | refine VSubs.cons (by first | exact VSub.refl _ | assumption | exact VSub.cap | exact VSub.any _) ?_))))
                | (refine WpItems.pcall ?_ ?_ (hck) ?_; (· simp only [go_sem, reduceIte, Nat.reduceEqDiff, Nat.reduceAdd, bx]); (· simp only [go_sem, reduceIte, Nat.reduceEqDiff, Nat.reduceAdd, bx, List.map, ax, if_true, if_false, Nat.reduceMul, Nat.reduceLeDiff, g1, h2, h3, hat, hil, encI, vAV, c1, k0, k1, k2, k3, hpa, List.length_map, List.length_cons, n0, n1, i0, t0, List.map_cons, List.getD_cons_zero, encV, d5, List.length_map]; first | exact VSubs.refl _ | (repeat (first | exact VSubs.nil | refine VSubs.cons (by first | exact VSub.refl _ | assumption | exact VSub.cap | exact VSub.any _) ?_))))
                | (refine WpItems.gsplit_dec (p := ?_) ?_ (fun hc => ?_) (fun hc => ?_); rotate_left; (· simp only [go_sem, reduceIte, Nat.reduceEqDiff, Nat.reduceAdd, bx, ax, if_true, if_false, Nat.reduceMul, Nat.reduceLeDiff, g1, h2, h3, hat, hil, encI, vAV, c1, k0, k1, k2, k3, hpa, List.length_map, List.length_cons, n0, n1, i0, t0, List.map_cons, List.getD_cons_zero, encV, d5, List.length_map]; exact rfl))
                | (refine WpItems.gsplit_ndec (p := ?_) ?_ (fun hc => ?_) (fun hc => ?_); rotate_left; (· simp only [go_sem, reduceIte, Nat.reduceEqDiff, Nat.reduceAdd, bx, ax, if_true, if_false, Nat.reduceMul, Nat.reduceLeDiff, g1, h2, h3, hat, hil, encI, vAV, c1, k0, k1, k2, k3, hpa, List.length_map, List.length_cons, n0, n1, i0, t0, List.map_cons, List.getD_cons_zero, encV, d5, List.length_map]; exact rfl))
                | (refine WpItems.gsplit (b := ?_) ?_ (fun hc => ?_) (fun hc => ?_); rotate_left; (· simp only [go_sem, reduceIte, Nat.reduceEqDiff, Nat.reduceAdd, bx, ax, if_true, if_false, Nat.reduceMul, Nat.reduceLeDiff, g1, h2, h3, hat, hil, encI, vAV, c1, k0, k1, k2, k3, hpa, List.length_map, List.length_cons, n0, n1, i0, t0, List.map_cons, List.getD_cons_zero, encV, d5, List.length_map]; exact rfl))
                | refine Wp.seqRegS ?_
                | refine Wp.regS ?_
                | (refine Wp.cond_true ?_ ?_; (· simp only [go_sem, reduceIte, Nat.reduceEqDiff, Nat.reduceAdd, bx, ax, if_true, if_false, Nat.reduceMul, Nat.reduceLeDiff, g1, h2, h3, hat, hil, encI, vAV, c1, k0, k1, k2, k3, hpa, List.length_map, List.length_cons, n0, n1, i0, t0, List.map_cons, List.getD_cons_zero, encV, d5, List.length_map]))
                | (refine Wp.cond_false ?_ ?_; (· simp only [go_sem, reduceIte, Nat.reduceEqDiff, Nat.reduceAdd, bx, ax, if_true, if_false, Nat.reduceMul, Nat.reduceLeDiff, g1, h2, h3, hat, hil, encI, vAV, c1, k0, k1, k2, k3, hpa, List.length_map, List.length_cons, n0, n1, i0, t0, List.map_cons, List.getD_cons_zero, encV, d5, List.length_map]))
                | (refine Wp.cond_dec (p := ?_) ?_ (fun hc => ?_) (fun hc => ?_); rotate_left; (· simp only [go_sem, reduceIte, Nat.reduceEqDiff, Nat.reduceAdd, bx, ax, if_true, if_false, Nat.reduceMul, Nat.reduceLeDiff, g1, h2, h3, hat, hil, encI, vAV, c1, k0, k1, k2, k3, hpa, List.length_map, List.length_cons, n0, n1, i0, t0, List.map_cons, List.getD_cons_zero, encV, d5, List.length_map]; exact rfl))
                | (refine Wp.cond_ndec (p := ?_) ?_ (fun hc => ?_) (fun hc => ?_); rotate_left; (· simp only [go_sem, reduceIte, Nat.reduceEqDiff, Nat.reduceAdd, bx, ax, if_true, if_false, Nat.reduceMul, Nat.reduceLeDiff, g1, h2, h3, hat, hil, encI, vAV, c1, k0, k1, k2, k3, hpa, List.length_map, List.length_cons, n0, n1, i0, t0, List.map_cons, List.getD_cons_zero, encV, d5, List.length_map]; exact rfl))
                | (refine Wp.cond_split (b := ?_) ?_ (fun hc => ?_) (fun hc => ?_); rotate_left; (· simp only [go_sem, reduceIte, Nat.reduceEqDiff, Nat.reduceAdd, bx, ax, if_true, if_false, Nat.reduceMul, Nat.reduceLeDiff, g1, h2, h3, hat, hil, encI, vAV, c1, k0, k1, k2, k3, hpa, List.length_map, List.length_cons, n0, n1, i0, t0, List.map_cons, List.getD_cons_zero, encV, d5, List.length_map]; exact rfl))
                | refine Wp.skip ?_
                | refine Wp.label ?_
                | refine Wp.block ?_
                | refine Wp.exit ?_
                | refine Wp.seq ?_)
              refine Wp.ret ⟨trivial, _, rfl, ?_⟩
              simp only [go_sem, reduceIte, Nat.reduceEqDiff, Nat.reduceAdd, bx]
              exact hb
            · have d5 := decide_eq_false q5
              have hy := stp (by rw [def0, c1', hc, List.getD_cons_zero, decide_eq_true (show v.t ≤ last by omega)]; simp [ha, q2])
              repeat' (first
                | (refine WpItems.nil ⟨?_, ?_⟩; (· first | trivial | simp [pairsQ, pairsOk, apart, ent0]))
                | (apply WpItems.evU; (· simp only [go_sem, reduceIte, Nat.reduceEqDiff, Nat.reduceAdd, bx, ax, if_true, if_false, Nat.reduceMul, Nat.reduceLeDiff, g1, h2, h3, hat, hil, encI, vAV, c1, k0, k1, k2, k3, hpa, List.length_map, List.length_cons, n0, n1, i0, t0, List.map_cons, List.getD_cons_zero, encV, d5, e1, List.length_map]; exact rfl); (· simp only [go_sem, reduceIte, Nat.reduceEqDiff, Nat.reduceAdd, bx, ax, if_true, if_false, Nat.reduceMul, Nat.reduceLeDiff, g1, h2, h3, hat, hil, encI, vAV, c1, k0, k1, k2, k3, hpa, List.length_map, List.length_cons, n0, n1, i0, t0, List.map_cons, List.getD_cons_zero, encV, d5, e1, List.length_map]; exact rfl))
                | (apply WpItems.part 1; (· simp only [go_sem, reduceIte, Nat.reduceEqDiff, Nat.reduceAdd, bx, ax, if_true, if_false, Nat.reduceMul, Nat.reduceLeDiff, g1, h2, h3, hat, hil, encI, vAV, c1, k0, k1, k2, k3, hpa, List.length_map, List.length_cons, n0, n1, i0, t0, List.map_cons, List.getD_cons_zero, encV, d5, e1, List.length_map]; exact rfl); (try simp only [List.drop_succ_cons, List.drop_zero, List.drop_nil]))
                | (refine WpItems.pcall ?_ ?_ (hbel) ?_; (· simp only [go_sem, reduceIte, Nat.reduceEqDiff, Nat.reduceAdd, bx]); (· simp only [go_sem, reduceIte, Nat.reduceEqDiff, Nat.reduceAdd, bx, List.map, ax, if_true, if_false, Nat.reduceMul, Nat.reduceLeDiff, g1, h2, h3, hat, hil, encI, vAV, c1, k0, k1, k2, k3, hpa, List.length_map, List.length_cons, n0, n1, i0, t0, List.map_cons, List.getD_cons_zero, encV, d5, e1, List.length_map]; first | exact VSubs.refl _ | (repeat (first | exact VSubs.nil | refine VSubs.cons (by first | exact VSub.refl _ | assumption | exact VSub.cap | exact VSub.any _) ?_))))
                | (refine WpItems.pcall ?_ ?_ (hck) ?_; (· simp only [go_sem, reduceIte, Nat.reduceEqDiff, Nat.reduceAdd, bx]); (· simp only [go_sem, reduceIte, Nat.reduceEqDiff, Nat.reduceAdd, bx, List.map, ax, if_true, if_false, Nat.reduceMul, Nat.reduceLeDiff, g1, h2, h3, hat, hil, encI, vAV, c1, k0, k1, k2, k3, hpa, List.length_map, List.length_cons, n0, n1, i0, t0, List.map_cons, List.getD_cons_zero, encV, d5, e1, List.length_map]; first | exact VSubs.refl _ | (repeat (first | exact VSubs.nil | refine VSubs.cons (by first | exact VSub.refl _ | assumption | exact VSub.cap | exact VSub.any _) ?_))))
                | (refine WpItems.gsplit_dec (p := ?_) ?_ (fun hc => ?_) (fun hc => ?_); rotate_left; (· simp only [go_sem, reduceIte, Nat.reduceEqDiff, Nat.reduceAdd, bx, ax, if_true, if_false, Nat.reduceMul, Nat.reduceLeDiff, g1, h2, h3, hat, hil, encI, vAV, c1, k0, k1, k2, k3, hpa, List.length_map, List.length_cons, n0, n1, i0, t0, List.map_cons, List.getD_cons_zero, encV, d5, e1, List.length_map]; exact rfl))
                | (refine WpItems.gsplit_ndec (p := ?_) ?_ (fun hc => ?_) (fun hc => ?_); rotate_left; (· simp only [go_sem, reduceIte, Nat.reduceEqDiff, Nat.reduceAdd, bx, ax, if_true, if_false, Nat.reduceMul, Nat.reduceLeDiff, g1, h2, h3, hat, hil, encI, vAV, c1, k0, k1, k2, k3, hpa, List.length_map, List.length_cons, n0, n1, i0, t0, List.map_cons, List.getD_cons_zero, encV, d5, e1, List.length_map]; exact rfl))
                | (refine WpItems.gsplit (b := ?_) ?_ (fun hc => ?_) (fun hc => ?_); rotate_left; (· simp only [go_sem, reduceIte, Nat.reduceEqDiff, Nat.reduceAdd, bx, ax, if_true, if_false, Nat.reduceMul, Nat.reduceLeDiff, g1, h2, h3, hat, hil, encI, vAV, c1, k0, k1, k2, k3, hpa, List.length_map, List.length_cons, n0, n1, i0, t0, List.map_cons, List.getD_cons_zero, encV, d5, e1, List.length_map]; exact rfl))
                | refine Wp.seqRegS ?_
                | refine Wp.regS ?_
                | (refine Wp.cond_true ?_ ?_; (· simp only [go_sem, reduceIte, Nat.reduceEqDiff, Nat.reduceAdd, bx, ax, if_true, if_false, Nat.reduceMul, Nat.reduceLeDiff, g1, h2, h3, hat, hil, encI, vAV, c1, k0, k1, k2, k3, hpa, List.length_map, List.length_cons, n0, n1, i0, t0, List.map_cons, List.getD_cons_zero, encV, d5, e1, List.length_map]))
                | (refine Wp.cond_false ?_ ?_; (· simp only [go_sem, reduceIte, Nat.reduceEqDiff, Nat.reduceAdd, bx, ax, if_true, if_false, Nat.reduceMul, Nat.reduceLeDiff, g1, h2, h3, hat, hil, encI, vAV, c1, k0, k1, k2, k3, hpa, List.length_map, List.length_cons, n0, n1, i0, t0, List.map_cons, List.getD_cons_zero, encV, d5, e1, List.length_map]))
                | (refine Wp.cond_dec (p := ?_) ?_ (fun hc => ?_) (fun hc => ?_); rotate_left; (· simp only [go_sem, reduceIte, Nat.reduceEqDiff, Nat.reduceAdd, bx, ax, if_true, if_false, Nat.reduceMul, Nat.reduceLeDiff, g1, h2, h3, hat, hil, encI, vAV, c1, k0, k1, k2, k3, hpa, List.length_map, List.length_cons, n0, n1, i0, t0, List.map_cons, List.getD_cons_zero, encV, d5, e1, List.length_map]; exact rfl))
                | (refine Wp.cond_ndec (p := ?_) ?_ (fun hc => ?_) (fun hc => ?_); rotate_left; (· simp only [go_sem, reduceIte, Nat.reduceEqDiff, Nat.reduceAdd, bx, ax, if_true, if_false, Nat.reduceMul, Nat.reduceLeDiff, g1, h2, h3, hat, hil, encI, vAV, c1, k0, k1, k2, k3, hpa, List.length_map, List.length_cons, n0, n1, i0, t0, List.map_cons, List.getD_cons_zero, encV, d5, e1, List.length_map]; exact rfl))
                | (refine Wp.cond_split (b := ?_) ?_ (fun hc => ?_) (fun hc => ?_); rotate_left; (· simp only [go_sem, reduceIte, Nat.reduceEqDiff, Nat.reduceAdd, bx, ax, if_true, if_false, Nat.reduceMul, Nat.reduceLeDiff, g1, h2, h3, hat, hil, encI, vAV, c1, k0, k1, k2, k3, hpa, List.length_map, List.length_cons, n0, n1, i0, t0, List.map_cons, List.getD_cons_zero, encV, d5, e1, List.length_map]; exact rfl))
                | refine Wp.skip ?_
                | refine Wp.label ?_
                | refine Wp.block ?_
                | refine Wp.exit ?_
                | refine Wp.seq ?_)
              refine ⟨j + 1, ⟨by omega, hy⟩, by omega, ?_⟩
              refine StLe.tm (by simp only [AllSub, go_sem, reduceIte, Nat.reduceEqDiff, Nat.reduceAdd, bx]; and_intros <;> first | exact trivial | exact VSub.refl _ | exact VSub.any _ | (refine VSub.int ?_; omega))
  · have hje : j = l.length := by omega
    subst hje
    have g1 : decide (((l.length : Nat) : Int) < ((l.length : Nat) : Int)) = false := decide_eq_false (by omega)
    have hyes : ldB l last mark = true := by
      have : (List.range l.length).all (ldAt l last) = true := all_yes hs
      simp [ldB, this, p1, p2, p3, p4]
    repeat (first
      | ((first | apply Wp.seqItemsR | apply Wp.itemsR); (· simp only [go_sem, reduceIte, Nat.reduceEqDiff, Nat.reduceAdd, bx, ax, if_true, if_false, Nat.reduceMul, Nat.reduceLeDiff, g1, hil]; exact rfl))
      | (refine WpItems.nil ⟨?_, ?_⟩; (· first | trivial | simp [pairsQ, pairsOk, apart, ent0]))
      | (refine Wp.cond_true ?_ ?_; (· simp only [go_sem, reduceIte, Nat.reduceEqDiff, Nat.reduceAdd, bx, ax, if_true, if_false, Nat.reduceMul, Nat.reduceLeDiff, g1, hil]))
      | (refine Wp.cond_false ?_ ?_; (· simp only [go_sem, reduceIte, Nat.reduceEqDiff, Nat.reduceAdd, bx, ax, if_true, if_false, Nat.reduceMul, Nat.reduceLeDiff, g1, hil]))
      | refine Wp.skip ?_
      | refine Wp.label ?_
      | refine Wp.block ?_
      | refine Wp.exit ?_
      | refine Wp.seq ?_)
    refine Wp.ret ⟨trivial, _, rfl, ?_⟩
    simp only [go_sem, reduceIte, Nat.reduceEqDiff, Nat.reduceAdd, bx]
    rw [if_pos hyes]; exact VSub.refl _
end Go.Proofs.Ytpehfflehebmbaa.Space
end
section
set_option linter.unusedVariables false
set_option linter.unusedSimpArgs false
namespace Go.Av
section
variable {P : Program} {N : Nat}
theorem touch_swapI {A G G' B : List Fr} {n n' m m' : Nat} {T : List Nat} (ok : Ok (A ++ G ++ B) n T m) (ok' : Ok G' n' (ks G') m') (hn : n ≤ n') (hm : m ≤ m') (hw : ∀ j, n ≤ j ∨ (lay G j).isSome = true ∨ lay G' j = none) :
    ∃ ids, Touch ⟨lay (A ++ G ++ B), n, T, m⟩ ⟨lay G, n, ks G, m⟩ ⟨lay G', n', ks G', m'⟩ ⟨lay (A ++ G' ++ B), n', ks G' ++ T.filter (fun t => !(ks G).contains t), m'⟩ ⟨[], ids, ks G ++ ks G'⟩ ∧ ∀ id ∈ ids, (lay G id).isSome = true ∨ n ≤ id := by
  have bG : ∀ j, n ≤ j → lay G j = none := fun j hj => lay_none.2 fun F hF => ok.bd F (by simp [hF]) j hj
  obtain ⟨ids, hi⟩ := ids_of bG
  refine ⟨ids ++ (List.range (n' - n)).map (n + ·), ?_, ?_⟩
  · have d1 := List.pairwise_append.1 (List.pairwise_append.1 ok.dj).1
    have tc := touch_gen (h := ⟨lay (A ++ G ++ B), n, T, m⟩) (h1 := ⟨lay G, n, ks G, m⟩) (h1' := ⟨lay G', n', ks G', m'⟩) (ids := ids) ⟨fun j o hj => ?_, fun t ht => ok.tk t ?_⟩ rfl rfl (fun id h => (hi id).1 h) hn hm
    · have e : (⟨lay (A ++ G' ++ B), n', ks G' ++ T.filter (fun t => !(ks G).contains t), m'⟩ : H) = H.patch ⟨lay (A ++ G ++ B), n, T, m⟩ ⟨lay G, n, ks G, m⟩ ⟨lay G', n', ks G', m'⟩ :=
        H.ext (fun j => (lay_patch ok ok' hn hw j).symm) rfl rfl rfl
      rw [e]; exact tc
    · show lay (A ++ G ++ B) j = some o
      have hj' : lay G j = some o := hj
      rw [lay_append, lay_append]
      have : lay A j = none := by
        cases hA : lay A j with
        | none => rfl
        | some o' =>
          obtain ⟨F, a, b⟩ := lay_some hA
          obtain ⟨F', a', b'⟩ := lay_some hj'
          rcases d1.2.2 F a F' a' j with e | e
          · rw [e] at b; cases b
          · rw [e] at b'; cases b'
      rw [this, hj']; rfl
    · have ht' : t ∈ ks G := ht
      rw [ks_append, ks_append]; simp [ht']
  · intro id hid
    rcases List.mem_append.1 hid with h | h
    · exact .inl ((hi id).2 h)
    · obtain ⟨k, hk, rfl⟩ := List.mem_map.1 h
      exact .inr (by omega)
theorem WpItems.gkeepI {dst : Option Nat} {g : Option (Nat × Bool)} {f : FuncId} {l : List Opd} {its : List AItem} {t : Tm} {log : List Ent} {K : Tm → H → List Ent → Prop} {vals : List AV} {r : AV} {F : Fr} (A B : List Fr) {n m : Nat} {T : List Nat}
    (hg : guardOf t g = some true) (hs : VSubs (l.map (ev t)) vals) (hc : GCalls P f vals [F] fun r' l' => r' = r ∧ l' = [F]) (hk : F.k = []) (ok : Ok (A ++ F :: B) n T m)
    (rest : ∀ n' m' ids, n ≤ n' → m ≤ m' → (∀ id ∈ ids, (F.o id).isSome = true ∨ n ≤ id) → Ok (A ++ F :: B) n' T m' → WpItems P N its (putT t dst r) ⟨lay (A ++ F :: B), n', T, m'⟩ (⟨[], ids, []⟩ :: log) K) :
    WpItems P N (⟨dst, g, .call f l⟩ :: its) t ⟨lay (A ++ F :: B), n, T, m⟩ log K := by
  have e : A ++ F :: B = A ++ [F] ++ B := by simp
  rw [e] at ok ⊢
  have okG : Ok [F] n (ks [F]) m := by
    have d1 := List.pairwise_append.1 (List.pairwise_append.1 ok.dj).1
    have t1 := List.pairwise_append.1 (List.pairwise_append.1 ok.td).1
    exact ⟨fun F hF => ok.bd F (by simp [List.mem_singleton.1 hF]), d1.2.1, fun t ht => ht, t1.2.1, fun t ht => ok.tb t (ok.tk t (by rw [ks_append, ks_append]; simp [ht]))⟩
  obtain ⟨r', G', n', m', h1, h2, h3, h4, h5, h6, rfl, rfl⟩ := hc n m okG
  obtain ⟨ids, tc, hi⟩ := touch_swapI ok h4 h2 h3 h5
  have k0 : ks [F] = [] := by simp [ks, hk]
  have f0 : T.filter (fun _ : Nat => true) = T := by simp
  have ok2 := ok.swap h4 h2 h3 h5 h6
  simp only [k0, List.nil_append, List.contains_nil, Bool.not_false, f0] at ok2 tc h1 ⊢
  have hi' : ∀ id ∈ ids, (F.o id).isSome = true ∨ n ≤ id := fun id h => by
    have := hi id h
    rwa [lay_cons, show lay ([] : List Fr) id = none from rfl, Option.or_none] at this
  refine WpItems.acall hg hs h1 tc ?_
  rw [← e] at ok2 ⊢
  exact rest n' m' ids h2 h3 hi' ok2
theorem WpItems.gkeep0 {dst : Option Nat} {g : Option (Nat × Bool)} {f : FuncId} {l : List Opd} {its : List AItem} {t : Tm} {log : List Ent} {K : Tm → H → List Ent → Prop} {vals : List AV} {r : AV} {F : Fr} {n m : Nat} {T : List Nat}
    (hg : guardOf t g = some true) (hs : VSubs (l.map (ev t)) vals) (hc : GCalls P f vals [F] fun r' l' => r' = r ∧ l' = [F]) (hk : F.k = []) (ok : Ok [F] n T m)
    (rest : ∀ n' m' ids, On [F] n m [F] n' T m' → (∀ id ∈ ids, (F.o id).isSome = true ∨ n ≤ id) → WpItems P N its (putT t dst r) ⟨lay [F], n', T, m'⟩ (⟨[], ids, []⟩ :: log) K) :
    WpItems P N (⟨dst, g, .call f l⟩ :: its) t ⟨lay [F], n, T, m⟩ log K :=
  WpItems.gkeepI [] [] hg hs hc hk ok fun n' m' ids a b c d => rest n' m' ids ⟨a, b, d, .refl, .refl⟩ c
end
end Go.Av
end
section
set_option linter.unusedSimpArgs false
set_option linter.unusedVariables false
set_option maxRecDepth 10000
namespace Go.Proofs.Ytpehfflehebmbaa.Space
open Go Go.Av Go.Proofs Go.Proofs.Ytpehfflehebmbaa.C Go.Proofs.Ytpehfflehebmbaa.Batch
structure Fit (S : Spc) (k : Nat) : Prop where
  ri : RiseL S.L
  fu : Full S.L
  ln : S.L.length ≤ k
  vs : ∀ p ∈ S.L, p.2.length ≤ k
  ls : ∀ p ∈ S.L, Ls p.1
theorem Fit.mono {S : Spc} {k j : Nat} (h : Fit S k) (hk : k ≤ j) : Fit S j := ⟨h.ri, h.fu, Nat.le_trans h.ln hk, fun p hp => Nat.le_trans (h.vs p hp) hk, h.ls⟩
theorem mget_len {L : List It} {k : Nat} (h : ∀ p ∈ L, p.2.length ≤ k) (q : Bs) : (mget L q).length ≤ k := by
  induction L with
  | nil => simp [mget]
  | cons p L ih =>
    rw [mget]
    split
    · exact h p (by simp)
    · exact ih (fun x hx => h x (by simp [hx]))
theorem Fit.room {S : Spc} {k j : Nat} (h : Fit S k) (hk : k + j ≤ 500000) : Room S j := ⟨by have := h.ln; omega, fun q => by have := mget_len h.vs q; omega⟩
theorem Fit.small {S : Spc} {k : Nat} (h : Fit S k) (hk : k ≤ 500000) : Small S := ⟨by have := h.ln; omega, fun q => by have := mget_len h.vs q; omega⟩
theorem Fit.zero : Fit ⟨[], 0, 0⟩ 0 := ⟨by simp [RiseL, Rise, keysOf], fun p hp => by simp at hp, Nat.le_refl _, fun p hp => by simp at hp, fun p hp => by simp at hp⟩
theorem Fit.lay {S : Spc} {k : Nat} (h : Fit S k) : layL [] S.L = S.L := layL_self h.ri h.fu
theorem Fit.times {S : Spc} {k : Nat} (h : Fit S k) (a b : Int) : Fit { S with last := a, mark := b } k := ⟨h.ri, h.fu, h.ln, h.vs, h.ls⟩
theorem Fit.step {S : Spc} {k : Nat} (h : Fit S k) (t : Int) (c : Ch) (hc : Ls c.k) : Fit (stepS t S c) (k + 1) := by
  refine ⟨setL_rise h.ri _ _, setL_full h.fu _ _, ?_, fun p hp => ?_, setL_ls h.ls hc _⟩
  · have := setL_len S.L c.k (addB (mget S.L c.k) ⟨t, c.v, c.d⟩).1
    have := h.ln
    simp only [stepS, setS]; omega
  · simp only [stepS, setS] at hp
    rcases setL_mem hp with rfl | hp
    · have h1 := add_len (mget S.L c.k) ⟨t, c.v, c.d⟩
      have h2 := mget_len h.vs c.k
      simp only; omega
    · have := h.vs p hp; omega
theorem Fit.dos : ∀ (l : List Ch) {S : Spc} {k : Nat} (h : Fit S k) (t : Int) (hc : ∀ c ∈ l, Ls c.k), Fit (doS t S l) (k + l.length)
  | [], S, k, h, t, hc => h
  | c :: l, S, k, h, t, hc => by
    have := Fit.dos l (h.step t c (hc c (by simp))) t (fun x hx => hc x (by simp [hx]))
    exact this.mono (by simp only [List.length_cons]; omega)
theorem Fit.apply {S : Spc} {k : Nat} (h : Fit S k) (t : Int) (l : List Ch) (hc : ∀ c ∈ l, Ls c.k) : Fit (applyB S t l).1 (k + l.length) := by
  unfold applyB
  split
  · exact h.mono (by omega)
  · split
    · exact h.mono (by omega)
    · have := Fit.dos l h t hc
      exact ⟨this.ri, this.fu, this.ln, this.vs, this.ls⟩
theorem vacR_mem {mark : Int} {L : List It} {x : It} (h : x ∈ vacR mark L) : ∃ p ∈ L, p.1 = x.1 ∧ x.2 = vacB p.2 mark := by
  obtain ⟨p, hp, e⟩ := List.mem_filterMap.1 h
  split at e
  · cases e
  · cases e; exact ⟨p, hp, rfl, rfl⟩
theorem vacR_rise (mark : Int) : ∀ L : List It, RiseL L → RiseL (vacR mark L)
  | [], _ => by simp [vacR, RiseL, Rise, keysOf]
  | p :: L, h => by
    obtain ⟨h1, h2⟩ := rise_cons.1 h
    have ih := vacR_rise mark L h2
    by_cases hv : vacB p.2 mark = []
    · have e : vacR mark (p :: L) = vacR mark L := by simp [vacR, hv]
      rw [e]; exact ih
    · have e : vacR mark (p :: L) = (p.1, vacB p.2 mark) :: vacR mark L := by simp [vacR, hv]
      rw [e]
      refine rise_cons.2 ⟨fun x hx => ?_, ih⟩
      obtain ⟨y, hy, e2, -⟩ := vacR_mem hx
      rw [← e2]; exact h1 y hy
theorem Fit.vac {S : Spc} {k : Nat} (h : Fit S k) (mark : Int) : Fit (vacuumB S mark).1 k := by
  unfold vacuumB
  split
  · exact h
  · rw [vacS_eq h.ri]
    refine ⟨vacR_rise mark S.L h.ri, vacR_full mark S.L, ?_, fun p hp => ?_, fun p hp => ?_⟩
    · have := List.length_filterMap_le (fun p : It => if vacB p.2 mark = [] then none else some (p.1, vacB p.2 mark)) S.L
      exact Nat.le_trans this h.ln
    · obtain ⟨y, hy, -, e⟩ := vacR_mem hp
      rw [e]
      exact Nat.le_trans (vac_len _ _) (h.vs y hy)
    · obtain ⟨y, hy, e, -⟩ := vacR_mem hp
      rw [← e]; exact h.ls y hy
theorem ld_ls {l : List It} {last mark : Int} (h : ldB l last mark = true) : ∀ p ∈ l, Ls p.1 := fun p hp => by
  obtain ⟨i, hi, rfl⟩ := List.mem_iff_getElem.1 hp
  have := ld_key (ld_all h hi)
  rw [getD_el hi] at this
  unfold Ls; omega
theorem Fit.load {l : List It} {last mark : Int} {k : Nat} (h : ldB l last mark = true) (hl : l.length ≤ k) (hv : ∀ p ∈ l, p.2.length ≤ k) : Fit ⟨l, last, mark⟩ k := ⟨(ld_rise h).1, (ld_rise h).2, hl, hv, ld_ls h⟩
theorem alike_g {s : Nat} {S : Spc} {F : Fr} {k : Nat} (hF : SpcF s S F) (hS : Fit S k) (hk : k ≤ 500000) : GCalls Try.prog 28 [.ptr s 0, encS S] [F] (fun r l => r = .bool true ∧ l = [F]) := by
  refine f28.gsameF (by simp) fun n m ok => ?_
  unfold c28
  have hit := items_g hF hS.ri (hS.small hk)
  have hsm := sameI_p S.L S.L (by have := hS.ln; omega) (fun p hp => by have := hS.vs p hp; omega)
  rw [decide_eq_true rfl] at hsm
  have e1 := decide_eq_true (rfl : S.last = S.last)
  have e2 := decide_eq_true (rfl : S.mark = S.mark)
  repeat (first
    | ((first | apply Wp.seqItemsR | apply Wp.itemsR); (· simp only [go_sem, reduceIte, Nat.reduceEqDiff, Nat.reduceAdd, bx, ax, if_true, if_false, Nat.reduceMul, Nat.reduceLeDiff, encS]; exact rfl))
    | (refine WpItems.nil ⟨?_, ?_⟩; (· first | trivial | simp [pairsQ, pairsOk, apart, ent0]))
    | (refine Wp.cond_true ?_ ?_; (· simp only [go_sem, reduceIte, Nat.reduceEqDiff, Nat.reduceAdd, bx, ax, if_true, if_false, Nat.reduceMul, Nat.reduceLeDiff, encS]))
    | (refine Wp.cond_false ?_ ?_; (· simp only [go_sem, reduceIte, Nat.reduceEqDiff, Nat.reduceAdd, bx, ax, if_true, if_false, Nat.reduceMul, Nat.reduceLeDiff, encS]))
    | refine Wp.skip ?_
    | refine Wp.label ?_
    | refine Wp.block ?_
    | refine Wp.exit ?_
    | refine Wp.seq ?_)
  rw [upd_new]
  have ok2 := ok.more (.cells [.sl 2 (S.L.map encI) .any, .int .i64 S.last, .int .i64 S.mark])
  have fn := ok.bd F (by simp) n (Nat.le_refl _)
  refine WpItems.gkeepI ([_]) ([]) (by simp only [go_sem, reduceIte, Nat.reduceEqDiff, Nat.reduceAdd, bx]) (by simp only [go_sem, reduceIte, Nat.reduceEqDiff, Nat.reduceAdd, bx, List.map]; first | exact VSubs.refl _ | (repeat (first | exact VSubs.nil | refine VSubs.cons (by first | exact VSub.refl _ | assumption | exact VSub.cap | exact VSub.any _) ?_))) (hit) (hF.k) (ok2) fun n1 m1 ids hn hm hids ok => ?_
  have nid : ∀ id, id ∈ ids → ¬ id = n := fun id h e => by
    rcases hids id h with h | h
    · rw [e, fn] at h; cases h
    · omega
  have gb : lay [ob n (.cells [.sl 2 (S.L.map encI) .any, .int .i64 S.last, .int .i64 S.mark]), F] n = some (.cells [.sl 2 (S.L.map encI) .any, .int .i64 S.last, .int .i64 S.mark]) := lay_ob_at n _ [F]
  refine WpItems.evR (by simp only [go_sem, reduceIte, Nat.reduceEqDiff, Nat.reduceAdd, bx, gb]; exact rfl) ?_
  repeat (first
    | ((first | apply Wp.seqItemsR | apply Wp.itemsR); (· simp only [go_sem, reduceIte, Nat.reduceEqDiff, Nat.reduceAdd, bx, ax, if_true, if_false, Nat.reduceMul, Nat.reduceLeDiff, gb, e1, e2]; exact rfl))
    | (refine WpItems.nil ⟨?_, ?_⟩; (· first | trivial | simp [pairsQ, pairsOk, apart, ent0]))
    | ((first
      | (refine WpItems.pcall ?_ ?_ (hsm) ?_; (· simp only [go_sem, reduceIte, Nat.reduceEqDiff, Nat.reduceAdd, bx]); (· simp only [go_sem, reduceIte, Nat.reduceEqDiff, Nat.reduceAdd, bx, List.map]; first | exact VSubs.refl _ | (repeat (first | exact VSubs.nil | refine VSubs.cons (by first | exact VSub.refl _ | assumption | exact VSub.cap | exact VSub.any _) ?_))))
      | (refine WpItems.glook ?_ ?_ (last_r hF) (by first | exact fun j o h => h | exact ok.sub (by simp) | assumption) (fun ids => ?_); (· simp only [go_sem, reduceIte, Nat.reduceEqDiff, Nat.reduceAdd, bx]); (· simp only [go_sem, reduceIte, Nat.reduceEqDiff, Nat.reduceAdd, bx, List.map]; first | exact VSubs.refl _ | (repeat (first | exact VSubs.nil | refine VSubs.cons (by first | exact VSub.refl _ | assumption | exact VSub.cap | exact VSub.any _) ?_))))
      | (refine WpItems.glook ?_ ?_ (mark_r hF) (by first | exact fun j o h => h | exact ok.sub (by simp) | assumption) (fun ids => ?_); (· simp only [go_sem, reduceIte, Nat.reduceEqDiff, Nat.reduceAdd, bx]); (· simp only [go_sem, reduceIte, Nat.reduceEqDiff, Nat.reduceAdd, bx, List.map]; first | exact VSubs.refl _ | (repeat (first | exact VSubs.nil | refine VSubs.cons (by first | exact VSub.refl _ | assumption | exact VSub.cap | exact VSub.any _) ?_))))); apply WpItems.evR; (· simp only [go_sem, reduceIte, Nat.reduceEqDiff, Nat.reduceAdd, bx, ax, if_true, if_false, Nat.reduceMul, Nat.reduceLeDiff, gb, e1, e2]; exact rfl))
    | (refine Wp.cond_true ?_ ?_; (· simp only [go_sem, reduceIte, Nat.reduceEqDiff, Nat.reduceAdd, bx, ax, if_true, if_false, Nat.reduceMul, Nat.reduceLeDiff, gb, e1, e2]))
    | (refine Wp.cond_false ?_ ?_; (· simp only [go_sem, reduceIte, Nat.reduceEqDiff, Nat.reduceAdd, bx, ax, if_true, if_false, Nat.reduceMul, Nat.reduceLeDiff, gb, e1, e2]))
    | refine Wp.skip ?_
    | refine Wp.label ?_
    | refine Wp.block ?_
    | refine Wp.exit ?_
    | refine Wp.seq ?_)
  refine WpItems.nil ⟨by simp [pairsQ, pairsOk, apart, ent0]; exact nid, ?_⟩
  refine Wp.ret ⟨trivial, _, rfl, VSub.refl _, fun j hj => lay_ob_ne _ _ (by omega), fun t ht => by simp [ks, hF.k] at ht⟩
theorem asked_g {s : Nat} {S : Spc} {F : Fr} {k : Nat} (hF : SpcF s S F) (hS : Fit S k) (hk : k ≤ 500000) (q a b : Bs) (lq : Ls q) (la : Ls a) (lb : Ls b) (t most : Int) : GCalls Try.prog 29 [.ptr s 0, encS S, .str q, .str a, .str b, .int .i64 t, .int .i64 most] [F] (fun r l => r = .bool true ∧ l = [F]) := by
  refine f29.gsameF (by simp) fun n m ok => ?_
  unfold c29
  have hsm' := hS.small hk
  have hgr := getR_p S hsm' q t
  have hsr := scanR_p S hS.ri hsm' hS.ls a b la lb t most
  have hnr := sinceRR_p S hS.ri hsm' hS.ls a b la lb t
  have hsg := scan_g hF hS.ri hsm' a b t most
  have hng := since_g hF hS.ri hsm' a b t
  have hlen : (scanB S a b t most).1.length ≤ 500000 := by
    unfold scanB
    split
    · have h1 := cutL_len most (allS S a b t)
      rw [allS_eq hS.ri, filter_tell] at h1
      have h2 := List.length_filterMap_le (tellW a b t) S.L
      have := hsm'.1
      rw [allS_eq hS.ri, filter_tell]
      simp only
      omega
    · simp
  have hpp := samePr_p (scanB S a b t most).1 (scanB S a b t most).1 (by omega)
  rw [decide_eq_true rfl] at hpp
  generalize scanB S a b t most = sc at *
  generalize hgB : getB S q t = gB at *
  generalize sinceS S a b t = si at *
  have e1 := decide_eq_true (rfl : gB.1 = gB.1)
  have e2 := decide_eq_true (rfl : gB.2 = gB.2)
  have e3 := decide_eq_true (rfl : sc.2 = sc.2)
  have hget := get_r hF hsm' q t
  rw [hgB] at hget
  have fn := ok.bd F (by simp) n (Nat.le_refl _)
  unfold encS at hgr hsr hnr
  repeat (first
    | ((first | apply Wp.seqItemsR | apply Wp.itemsR); (· simp only [go_sem, reduceIte, Nat.reduceEqDiff, Nat.reduceAdd, bx, ax, if_true, if_false, Nat.reduceMul, Nat.reduceLeDiff, encS]; exact rfl))
    | (refine WpItems.nil ⟨?_, ?_⟩; (· first | trivial | simp [pairsQ, pairsOk, apart, ent0]))
    | (refine Wp.cond_true ?_ ?_; (· simp only [go_sem, reduceIte, Nat.reduceEqDiff, Nat.reduceAdd, bx, ax, if_true, if_false, Nat.reduceMul, Nat.reduceLeDiff, encS]))
    | (refine Wp.cond_false ?_ ?_; (· simp only [go_sem, reduceIte, Nat.reduceEqDiff, Nat.reduceAdd, bx, ax, if_true, if_false, Nat.reduceMul, Nat.reduceLeDiff, encS]))
    | refine Wp.skip ?_
    | refine Wp.label ?_
    | refine Wp.block ?_
    | refine Wp.exit ?_
    | refine Wp.seq ?_)
  rw [upd_new]
  have ok2 := ok.more (.cells [.sl 2 (S.L.map encI) .any, .int .i64 S.last, .int .i64 S.mark])
  generalize hbx : (Av.Obj.cells [.sl 2 (S.L.map encI) .any, .int .i64 S.last, .int .i64 S.mark]) = bxo at *
  have hsub : ∀ j o, F.o j = some o → lay [ob n bxo, F] j = some o := fun j o h => ok2.sub (by simp) j o h
  have gb : lay [ob n bxo, F] n = some (.cells [.sl 2 (S.L.map encI) .any, .int .i64 S.last, .int .i64 S.mark]) := by rw [hbx]; exact lay_ob_at n _ [F]
  have ok := ok2
  repeat (first
    | ((first | apply Wp.seqItemsR | apply Wp.itemsR); (· simp only [go_sem, reduceIte, Nat.reduceEqDiff, Nat.reduceAdd, bx, ax, if_true, if_false, Nat.reduceMul, Nat.reduceLeDiff, gb]; exact rfl))
    | (refine WpItems.nil ⟨?_, ?_⟩; (· first | trivial | simp [pairsQ, pairsOk, apart, ent0]))
    | ((first
      | (refine WpItems.glook ?_ ?_ (hget) (by first | exact fun j o h => h | exact ok.sub (by simp) | assumption) (fun ids => ?_); (· simp only [go_sem, reduceIte, Nat.reduceEqDiff, Nat.reduceAdd, bx]); (· simp only [go_sem, reduceIte, Nat.reduceEqDiff, Nat.reduceAdd, bx, List.map]; first | exact VSubs.refl _ | (repeat (first | exact VSubs.nil | refine VSubs.cons (by first | exact VSub.refl _ | assumption | exact VSub.cap | exact VSub.any _) ?_))))
      | (refine WpItems.pcall ?_ ?_ (hgr) ?_; (· simp only [go_sem, reduceIte, Nat.reduceEqDiff, Nat.reduceAdd, bx]); (· simp only [go_sem, reduceIte, Nat.reduceEqDiff, Nat.reduceAdd, bx, List.map]; first | exact VSubs.refl _ | (repeat (first | exact VSubs.nil | refine VSubs.cons (by first | exact VSub.refl _ | assumption | exact VSub.cap | exact VSub.any _) ?_))))); apply WpItems.evR; (· simp only [go_sem, reduceIte, Nat.reduceEqDiff, Nat.reduceAdd, bx, ax, if_true, if_false, Nat.reduceMul, Nat.reduceLeDiff, gb]; exact rfl))
    | (refine Wp.cond_true ?_ ?_; (· simp only [go_sem, reduceIte, Nat.reduceEqDiff, Nat.reduceAdd, bx, ax, if_true, if_false, Nat.reduceMul, Nat.reduceLeDiff, gb]))
    | (refine Wp.cond_false ?_ ?_; (· simp only [go_sem, reduceIte, Nat.reduceEqDiff, Nat.reduceAdd, bx, ax, if_true, if_false, Nat.reduceMul, Nat.reduceLeDiff, gb]))
    | refine Wp.skip ?_
    | refine Wp.label ?_
    | refine Wp.block ?_
    | refine Wp.exit ?_
    | refine Wp.seq ?_)
  refine WpItems.gkeepI ([_]) ([]) (by simp only [go_sem, reduceIte, Nat.reduceEqDiff, Nat.reduceAdd, bx]) (by simp only [go_sem, reduceIte, Nat.reduceEqDiff, Nat.reduceAdd, bx, List.map]; first | exact VSubs.refl _ | (repeat (first | exact VSubs.nil | refine VSubs.cons (by first | exact VSub.refl _ | assumption | exact VSub.cap | exact VSub.any _) ?_))) (hsg) (hF.k) (ok2) fun n1 m1 ids1 hn1 hm1 hids1 ok1 => ?_
  refine WpItems.evR (by simp only [go_sem, reduceIte, Nat.reduceEqDiff, Nat.reduceAdd, bx, gb]; exact rfl) ?_
  repeat (first
    | ((first | apply Wp.seqItemsR | apply Wp.itemsR); (· simp only [go_sem, reduceIte, Nat.reduceEqDiff, Nat.reduceAdd, bx, ax, if_true, if_false, Nat.reduceMul, Nat.reduceLeDiff, gb, e1, e2, e3]; exact rfl))
    | (refine WpItems.nil ⟨?_, ?_⟩; (· first | trivial | simp [pairsQ, pairsOk, apart, ent0]))
    | ((first
      | (refine WpItems.pcall ?_ ?_ (hsr) ?_; (· simp only [go_sem, reduceIte, Nat.reduceEqDiff, Nat.reduceAdd, bx]); (· simp only [go_sem, reduceIte, Nat.reduceEqDiff, Nat.reduceAdd, bx, List.map]; first | exact VSubs.refl _ | (repeat (first | exact VSubs.nil | refine VSubs.cons (by first | exact VSub.refl _ | assumption | exact VSub.cap | exact VSub.any _) ?_))))
      | (refine WpItems.pcall ?_ ?_ (hpp) ?_; (· simp only [go_sem, reduceIte, Nat.reduceEqDiff, Nat.reduceAdd, bx]); (· simp only [go_sem, reduceIte, Nat.reduceEqDiff, Nat.reduceAdd, bx, List.map]; first | exact VSubs.refl _ | (repeat (first | exact VSubs.nil | refine VSubs.cons (by first | exact VSub.refl _ | assumption | exact VSub.cap | exact VSub.any _) ?_))))); apply WpItems.evR; (· simp only [go_sem, reduceIte, Nat.reduceEqDiff, Nat.reduceAdd, bx, ax, if_true, if_false, Nat.reduceMul, Nat.reduceLeDiff, gb, e1, e2, e3]; exact rfl))
    | (refine Wp.cond_true ?_ ?_; (· simp only [go_sem, reduceIte, Nat.reduceEqDiff, Nat.reduceAdd, bx, ax, if_true, if_false, Nat.reduceMul, Nat.reduceLeDiff, gb, e1, e2, e3]))
    | (refine Wp.cond_false ?_ ?_; (· simp only [go_sem, reduceIte, Nat.reduceEqDiff, Nat.reduceAdd, bx, ax, if_true, if_false, Nat.reduceMul, Nat.reduceLeDiff, gb, e1, e2, e3]))
    | refine Wp.skip ?_
    | refine Wp.label ?_
    | refine Wp.block ?_
    | refine Wp.exit ?_
    | refine Wp.seq ?_)
  refine WpItems.gkeepI ([_]) ([]) (by simp only [go_sem, reduceIte, Nat.reduceEqDiff, Nat.reduceAdd, bx]) (by simp only [go_sem, reduceIte, Nat.reduceEqDiff, Nat.reduceAdd, bx, List.map]; first | exact VSubs.refl _ | (repeat (first | exact VSubs.nil | refine VSubs.cons (by first | exact VSub.refl _ | assumption | exact VSub.cap | exact VSub.any _) ?_))) (hng) (hF.k) (ok1) fun n2 m2 ids hn2 hm2 hids ok => ?_
  have nid : ∀ id, id ∈ ids → ¬ id = n := fun id h e => by
    rcases hids id h with h | h
    · rw [e, fn] at h; cases h
    · omega
  refine WpItems.evR (by simp only [go_sem, reduceIte, Nat.reduceEqDiff, Nat.reduceAdd, bx, gb]; exact rfl) ?_
  repeat (first
    | ((first | apply Wp.seqItemsR | apply Wp.itemsR); (· simp only [go_sem, reduceIte, Nat.reduceEqDiff, Nat.reduceAdd, bx, ax, if_true, if_false, Nat.reduceMul, Nat.reduceLeDiff, gb, beq_self_eq_true]; exact rfl))
    | (refine WpItems.nil ⟨?_, ?_⟩; (· first | trivial | simp [pairsQ, pairsOk, apart, ent0]))
    | ((refine WpItems.pcall ?_ ?_ (hnr) ?_; (· simp only [go_sem, reduceIte, Nat.reduceEqDiff, Nat.reduceAdd, bx]); (· simp only [go_sem, reduceIte, Nat.reduceEqDiff, Nat.reduceAdd, bx, List.map]; first | exact VSubs.refl _ | (repeat (first | exact VSubs.nil | refine VSubs.cons (by first | exact VSub.refl _ | assumption | exact VSub.cap | exact VSub.any _) ?_)))); apply WpItems.evR; (· simp only [go_sem, reduceIte, Nat.reduceEqDiff, Nat.reduceAdd, bx, ax, if_true, if_false, Nat.reduceMul, Nat.reduceLeDiff, gb, beq_self_eq_true]; exact rfl))
    | (refine Wp.cond_true ?_ ?_; (· simp only [go_sem, reduceIte, Nat.reduceEqDiff, Nat.reduceAdd, bx, ax, if_true, if_false, Nat.reduceMul, Nat.reduceLeDiff, gb, beq_self_eq_true]))
    | (refine Wp.cond_false ?_ ?_; (· simp only [go_sem, reduceIte, Nat.reduceEqDiff, Nat.reduceAdd, bx, ax, if_true, if_false, Nat.reduceMul, Nat.reduceLeDiff, gb, beq_self_eq_true]))
    | refine Wp.skip ?_
    | refine Wp.label ?_
    | refine Wp.block ?_
    | refine Wp.exit ?_
    | refine Wp.seq ?_)
  refine WpItems.nil ⟨by simp [pairsQ, pairsOk, apart, ent0]; exact nid, ?_⟩
  refine Wp.ret ⟨trivial, _, rfl, VSub.refl _, fun j hj => lay_ob_ne _ _ (by omega), fun t ht => by simp [ks, hF.k] at ht⟩
end Go.Proofs.Ytpehfflehebmbaa.Space
end
section
set_option linter.unusedSimpArgs false
set_option linter.unusedVariables false
set_option maxRecDepth 10000
namespace Go.Proofs.Ytpehfflehebmbaa.Space
open Go Go.Av Go.Proofs Go.Proofs.Ytpehfflehebmbaa.C Go.Proofs.Ytpehfflehebmbaa.Batch
def exA : List Ch := [⟨[97], [120], false⟩, ⟨[98], [121], false⟩]
def exB : List Ch := [⟨[97], [], true⟩]
def exS1 : Spc := (applyB ⟨[], 0, 0⟩ 1 exA).1
def exS2 : Spc := (applyB exS1 3 exB).1
def exS3 : Spc := (vacuumB exS2 3).1
theorem ex1 : (applyB ⟨[], 0, 0⟩ 1 exA).2 = 0 := by kernel_rfl
theorem ex2 : (applyB exS1 3 exB).2 = 0 := by kernel_rfl
theorem ex3 : getB exS2 [97] 2 = ([120], 0) := by kernel_rfl
theorem ex4 : getB exS2 [97] 3 = ([], 7) := by kernel_rfl
theorem ex5 : scanB exS2 [] [] 3 (-1) = ([⟨[98], [121]⟩], 0) := by kernel_rfl
theorem ex6 : sinceS exS2 [97] [98] 1 = true := by kernel_rfl
theorem ex7 : (vacuumB exS2 3).2 = 0 := by kernel_rfl
theorem ex8 : getB exS3 [97] 2 = ([], 12) := by kernel_rfl
theorem ex9 : exS3.L = [([98], [⟨1, [121], false⟩])] := by kernel_rfl
theorem exF1 : Fit exS1 2 := Fit.zero.apply 1 exA (by intro c hc; simp [exA] at hc; rcases hc with rfl | rfl <;> simp [Ls])
theorem exF2 : Fit exS2 3 := exF1.apply 3 exB (by intro c hc; simp [exB] at hc; subst hc; simp [Ls])
theorem exF3 : Fit exS3 3 := exF2.vac 3
set_option maxHeartbeats 2000000 in
theorem lives_p : PCalls Try.prog 14 [] (.bool true) := by
  refine f14.pcalls0 (by simp) (by simp [allPure]) rfl ?_
  unfold c14
  have ok0 : Ok [] 0 [] 0 := Ok.nil
  repeat (first
    | ((first | apply Wp.seqItemsR | apply Wp.itemsR); (· simp only [go_sem, reduceIte, Nat.reduceEqDiff, Nat.reduceAdd, bx, ax, if_true, if_false, Nat.reduceMul, Nat.reduceLeDiff]; exact rfl))
    | (refine WpItems.nil ⟨?_, ?_⟩; (· first | trivial | simp [pairsQ, pairsOk, apart, ent0]))
    | (refine Wp.cond_true ?_ ?_; (· simp only [go_sem, reduceIte, Nat.reduceEqDiff, Nat.reduceAdd, bx, ax, if_true, if_false, Nat.reduceMul, Nat.reduceLeDiff]))
    | (refine Wp.cond_false ?_ ?_; (· simp only [go_sem, reduceIte, Nat.reduceEqDiff, Nat.reduceAdd, bx, ax, if_true, if_false, Nat.reduceMul, Nat.reduceLeDiff]))
    | refine Wp.skip ?_
    | refine Wp.label ?_
    | refine Wp.block ?_
    | refine Wp.exit ?_
    | refine Wp.seq ?_)
  show WpItems _ _ _ _ ⟨lay [], 0, [], 0⟩ _ _
  refine WpItems.gcall1 (by simp only [go_sem, reduceIte, Nat.reduceEqDiff, Nat.reduceAdd, bx]) (by simp only [go_sem, reduceIte, Nat.reduceEqDiff, Nat.reduceAdd, bx, List.map]; first | exact VSubs.refl _ | (repeat (first | exact VSubs.nil | refine VSubs.cons (by first | exact VSub.refl _ | assumption | exact VSub.cap | exact VSub.any _) ?_))) (new_g) (ok0) fun r1 G1 n1 T1 m1 ids1 hq1 on1 => ?_
  obtain ⟨s, F0, rfl, rfl, hF0⟩ := hq1
  refine WpItems.evR (by simp only [go_sem, reduceIte, Nat.reduceEqDiff, Nat.reduceAdd, bx]; exact rfl) ?_
  repeat (first
    | ((first | apply Wp.seqItemsR | apply Wp.itemsR); (· simp only [go_sem, reduceIte, Nat.reduceEqDiff, Nat.reduceAdd, bx, ax, if_true, if_false, Nat.reduceMul, Nat.reduceLeDiff]; exact rfl))
    | (refine WpItems.nil ⟨?_, ?_⟩; (· first | trivial | simp [pairsQ, pairsOk, apart, ent0]))
    | (refine Wp.cond_true ?_ ?_; (· simp only [go_sem, reduceIte, Nat.reduceEqDiff, Nat.reduceAdd, bx, ax, if_true, if_false, Nat.reduceMul, Nat.reduceLeDiff]))
    | (refine Wp.cond_false ?_ ?_; (· simp only [go_sem, reduceIte, Nat.reduceEqDiff, Nat.reduceAdd, bx, ax, if_true, if_false, Nat.reduceMul, Nat.reduceLeDiff]))
    | refine Wp.skip ?_
    | refine Wp.label ?_
    | refine Wp.block ?_
    | refine Wp.exit ?_
    | refine Wp.seq ?_)
  have ap1 := apply_g hF0 Fit.zero.ri 1 exA (by decide) (Fit.zero.room (by decide))
  rw [ex1] at ap1
  refine WpItems.gcall1 (by simp only [go_sem, reduceIte, Nat.reduceEqDiff, Nat.reduceAdd, bx]) (by simp only [go_sem, reduceIte, Nat.reduceEqDiff, Nat.reduceAdd, bx, List.map]; first | exact VSubs.refl _ | (repeat (first | exact VSubs.nil | refine VSubs.cons (by first | exact VSub.refl _ | assumption | exact VSub.cap | exact VSub.any _) ?_))) (ap1) (on1.ok) fun r2 G2 n2 T2 m2 ids2 hq2 on2 => ?_
  obtain ⟨rfl, F1, rfl, hF1⟩ := hq2
  refine WpItems.evR (by simp only [go_sem, reduceIte, Nat.reduceEqDiff, Nat.reduceAdd, bx]; exact rfl) ?_
  repeat (first
    | ((first | apply Wp.seqItemsR | apply Wp.itemsR); (· simp only [go_sem, reduceIte, Nat.reduceEqDiff, Nat.reduceAdd, bx, ax, if_true, if_false, Nat.reduceMul, Nat.reduceLeDiff]; exact rfl))
    | (refine WpItems.nil ⟨?_, ?_⟩; (· first | trivial | simp [pairsQ, pairsOk, apart, ent0]))
    | (refine Wp.cond_true ?_ ?_; (· simp only [go_sem, reduceIte, Nat.reduceEqDiff, Nat.reduceAdd, bx, ax, if_true, if_false, Nat.reduceMul, Nat.reduceLeDiff]))
    | (refine Wp.cond_false ?_ ?_; (· simp only [go_sem, reduceIte, Nat.reduceEqDiff, Nat.reduceAdd, bx, ax, if_true, if_false, Nat.reduceMul, Nat.reduceLeDiff]))
    | refine Wp.skip ?_
    | refine Wp.label ?_
    | refine Wp.block ?_
    | refine Wp.exit ?_
    | refine Wp.seq ?_)
  have ap2 := apply_g (S := exS1) hF1 exF1.ri 3 exB (by decide) (exF1.room (by decide))
  rw [ex2] at ap2
  refine WpItems.gcall1 (by simp only [go_sem, reduceIte, Nat.reduceEqDiff, Nat.reduceAdd, bx]) (by simp only [go_sem, reduceIte, Nat.reduceEqDiff, Nat.reduceAdd, bx, List.map]; first | exact VSubs.refl _ | (repeat (first | exact VSubs.nil | refine VSubs.cons (by first | exact VSub.refl _ | assumption | exact VSub.cap | exact VSub.any _) ?_))) (ap2) (on2.ok) fun r3 G3 n3 T3 m3 ids3 hq3 on3 => ?_
  obtain ⟨rfl, F2, rfl, hF2⟩ := hq3
  refine WpItems.evR (by simp only [go_sem, reduceIte, Nat.reduceEqDiff, Nat.reduceAdd, bx]; exact rfl) ?_
  have ok := on3.ok
  have sm2 := exF2.small (by decide)
  have g1 := get_r (S := exS2) hF2 sm2 [97] 2
  have g2 := get_r (S := exS2) hF2 sm2 [97] 3
  rw [ex3] at g1
  rw [ex4] at g2
  repeat (first
    | ((first | apply Wp.seqItemsR | apply Wp.itemsR); (· simp only [go_sem, reduceIte, Nat.reduceEqDiff, Nat.reduceAdd, bx, ax, if_true, if_false, Nat.reduceMul, Nat.reduceLeDiff, ok]; exact rfl))
    | (refine WpItems.nil ⟨?_, ?_⟩; (· first | trivial | simp [pairsQ, pairsOk, apart, ent0]))
    | ((first
      | (refine WpItems.glook ?_ ?_ (g1) (by first | exact fun j o h => h | exact ok.sub (by simp) | assumption) (fun ids => ?_); (· simp only [go_sem, reduceIte, Nat.reduceEqDiff, Nat.reduceAdd, bx]); (· simp only [go_sem, reduceIte, Nat.reduceEqDiff, Nat.reduceAdd, bx, List.map]; first | exact VSubs.refl _ | (repeat (first | exact VSubs.nil | refine VSubs.cons (by first | exact VSub.refl _ | assumption | exact VSub.cap | exact VSub.any _) ?_))))
      | (refine WpItems.glook ?_ ?_ (g2) (by first | exact fun j o h => h | exact ok.sub (by simp) | assumption) (fun ids => ?_); (· simp only [go_sem, reduceIte, Nat.reduceEqDiff, Nat.reduceAdd, bx]); (· simp only [go_sem, reduceIte, Nat.reduceEqDiff, Nat.reduceAdd, bx, List.map]; first | exact VSubs.refl _ | (repeat (first | exact VSubs.nil | refine VSubs.cons (by first | exact VSub.refl _ | assumption | exact VSub.cap | exact VSub.any _) ?_))))); apply WpItems.evR; (· simp only [go_sem, reduceIte, Nat.reduceEqDiff, Nat.reduceAdd, bx, ax, if_true, if_false, Nat.reduceMul, Nat.reduceLeDiff, ok]; exact rfl))
    | (refine Wp.cond_true ?_ ?_; (· simp only [go_sem, reduceIte, Nat.reduceEqDiff, Nat.reduceAdd, bx, ax, if_true, if_false, Nat.reduceMul, Nat.reduceLeDiff, ok]))
    | (refine Wp.cond_false ?_ ?_; (· simp only [go_sem, reduceIte, Nat.reduceEqDiff, Nat.reduceAdd, bx, ax, if_true, if_false, Nat.reduceMul, Nat.reduceLeDiff, ok]))
    | refine Wp.skip ?_
    | refine Wp.label ?_
    | refine Wp.block ?_
    | refine Wp.exit ?_
    | refine Wp.seq ?_)
  have sc := scan_g (S := exS2) hF2 exF2.ri sm2 [] [] 3 (-1)
  rw [ex5] at sc
  refine WpItems.gkeep0 (by simp only [go_sem, reduceIte, Nat.reduceEqDiff, Nat.reduceAdd, bx]) (by simp only [go_sem, reduceIte, Nat.reduceEqDiff, Nat.reduceAdd, bx, List.map]; first | exact VSubs.refl _ | (repeat (first | exact VSubs.nil | refine VSubs.cons (by first | exact VSub.refl _ | assumption | exact VSub.cap | exact VSub.any _) ?_))) (sc) (hF2.k) (on3.ok) fun n4 m4 ids4 on4 hids4 => ?_
  refine WpItems.evR (by simp only [go_sem, reduceIte, Nat.reduceEqDiff, Nat.reduceAdd, bx]; exact rfl) ?_
  repeat (first
    | ((first | apply Wp.seqItemsR | apply Wp.itemsR); (· simp only [go_sem, reduceIte, Nat.reduceEqDiff, Nat.reduceAdd, bx, ax, if_true, if_false, Nat.reduceMul, Nat.reduceLeDiff]; exact rfl))
    | (refine WpItems.nil ⟨?_, ?_⟩; (· first | trivial | simp [pairsQ, pairsOk, apart, ent0]))
    | (refine Wp.cond_true ?_ ?_; (· simp only [go_sem, reduceIte, Nat.reduceEqDiff, Nat.reduceAdd, bx, ax, if_true, if_false, Nat.reduceMul, Nat.reduceLeDiff]))
    | (refine Wp.cond_false ?_ ?_; (· simp only [go_sem, reduceIte, Nat.reduceEqDiff, Nat.reduceAdd, bx, ax, if_true, if_false, Nat.reduceMul, Nat.reduceLeDiff]))
    | refine Wp.skip ?_
    | refine Wp.label ?_
    | refine Wp.block ?_
    | refine Wp.exit ?_
    | refine Wp.seq ?_)
  have si := since_g (S := exS2) hF2 exF2.ri sm2 [97] [98] 1
  rw [ex6] at si
  refine WpItems.gkeep0 (by simp only [go_sem, reduceIte, Nat.reduceEqDiff, Nat.reduceAdd, bx]) (by simp only [go_sem, reduceIte, Nat.reduceEqDiff, Nat.reduceAdd, bx, List.map]; first | exact VSubs.refl _ | (repeat (first | exact VSubs.nil | refine VSubs.cons (by first | exact VSub.refl _ | assumption | exact VSub.cap | exact VSub.any _) ?_))) (si) (hF2.k) (on4.ok) fun n5 m5 ids5 on5 hids5 => ?_
  refine WpItems.evR (by simp only [go_sem, reduceIte, Nat.reduceEqDiff, Nat.reduceAdd, bx]; exact rfl) ?_
  repeat (first
    | ((first | apply Wp.seqItemsR | apply Wp.itemsR); (· simp only [go_sem, reduceIte, Nat.reduceEqDiff, Nat.reduceAdd, bx, ax, if_true, if_false, Nat.reduceMul, Nat.reduceLeDiff]; exact rfl))
    | (refine WpItems.nil ⟨?_, ?_⟩; (· first | trivial | simp [pairsQ, pairsOk, apart, ent0]))
    | (refine Wp.cond_true ?_ ?_; (· simp only [go_sem, reduceIte, Nat.reduceEqDiff, Nat.reduceAdd, bx, ax, if_true, if_false, Nat.reduceMul, Nat.reduceLeDiff]))
    | (refine Wp.cond_false ?_ ?_; (· simp only [go_sem, reduceIte, Nat.reduceEqDiff, Nat.reduceAdd, bx, ax, if_true, if_false, Nat.reduceMul, Nat.reduceLeDiff]))
    | refine Wp.skip ?_
    | refine Wp.label ?_
    | refine Wp.block ?_
    | refine Wp.exit ?_
    | refine Wp.seq ?_)
  have va := vacuum_g (S := exS2) hF2 exF2.ri sm2 3
  rw [ex7] at va
  refine WpItems.gcall1 (by simp only [go_sem, reduceIte, Nat.reduceEqDiff, Nat.reduceAdd, bx]) (by simp only [go_sem, reduceIte, Nat.reduceEqDiff, Nat.reduceAdd, bx, List.map]; first | exact VSubs.refl _ | (repeat (first | exact VSubs.nil | refine VSubs.cons (by first | exact VSub.refl _ | assumption | exact VSub.cap | exact VSub.any _) ?_))) (va) (on5.ok) fun r6 G6 n6 T6 m6 ids6 hq6 on6 => ?_
  obtain ⟨rfl, F3, rfl, hF3⟩ := hq6
  refine WpItems.evR (by simp only [go_sem, reduceIte, Nat.reduceEqDiff, Nat.reduceAdd, bx]; exact rfl) ?_
  have ok := on6.ok
  have sm3 := exF3.small (by decide)
  have g3 := get_r (S := exS3) hF3 sm3 [97] 2
  rw [ex8] at g3
  repeat (first
    | ((first | apply Wp.seqItemsR | apply Wp.itemsR); (· simp only [go_sem, reduceIte, Nat.reduceEqDiff, Nat.reduceAdd, bx, ax, if_true, if_false, Nat.reduceMul, Nat.reduceLeDiff, ok]; exact rfl))
    | (refine WpItems.nil ⟨?_, ?_⟩; (· first | trivial | simp [pairsQ, pairsOk, apart, ent0]))
    | ((refine WpItems.glook ?_ ?_ (g3) (by first | exact fun j o h => h | exact ok.sub (by simp) | assumption) (fun ids => ?_); (· simp only [go_sem, reduceIte, Nat.reduceEqDiff, Nat.reduceAdd, bx]); (· simp only [go_sem, reduceIte, Nat.reduceEqDiff, Nat.reduceAdd, bx, List.map]; first | exact VSubs.refl _ | (repeat (first | exact VSubs.nil | refine VSubs.cons (by first | exact VSub.refl _ | assumption | exact VSub.cap | exact VSub.any _) ?_)))); apply WpItems.evR; (· simp only [go_sem, reduceIte, Nat.reduceEqDiff, Nat.reduceAdd, bx, ax, if_true, if_false, Nat.reduceMul, Nat.reduceLeDiff, ok]; exact rfl))
    | (refine Wp.cond_true ?_ ?_; (· simp only [go_sem, reduceIte, Nat.reduceEqDiff, Nat.reduceAdd, bx, ax, if_true, if_false, Nat.reduceMul, Nat.reduceLeDiff, ok]))
    | (refine Wp.cond_false ?_ ?_; (· simp only [go_sem, reduceIte, Nat.reduceEqDiff, Nat.reduceAdd, bx, ax, if_true, if_false, Nat.reduceMul, Nat.reduceLeDiff, ok]))
    | refine Wp.skip ?_
    | refine Wp.label ?_
    | refine Wp.block ?_
    | refine Wp.exit ?_
    | refine Wp.seq ?_)
  have it := items_g (S := exS3) hF3 exF3.ri sm3
  rw [ex9] at it
  refine WpItems.gkeep0 (by simp only [go_sem, reduceIte, Nat.reduceEqDiff, Nat.reduceAdd, bx]) (by simp only [go_sem, reduceIte, Nat.reduceEqDiff, Nat.reduceAdd, bx, List.map]; first | exact VSubs.refl _ | (repeat (first | exact VSubs.nil | refine VSubs.cons (by first | exact VSub.refl _ | assumption | exact VSub.cap | exact VSub.any _) ?_))) (it) (hF3.k) (on6.ok) fun n7 m7 ids7 on7 hids7 => ?_
  refine WpItems.evR (by simp only [go_sem, reduceIte, Nat.reduceEqDiff, Nat.reduceAdd, bx]; exact rfl) ?_
  have sp := samePr_p [⟨[98], [121]⟩] [⟨[98], [121]⟩] (by decide)
  rw [decide_eq_true rfl] at sp
  have i1 : (0 : Int) ≤ 0 ∧ (0 : Int) < ((1 : Nat) : Int) := by decide
  have t0 : Int.toNat 0 = 0 := rfl
  have d0 : decide ((0 : Int) = 0) = true := rfl
  have d1 : decide (([120] : List UInt8) = [120]) = true := rfl
  have d2 : decide (([98] : List UInt8) = [98]) = true := rfl
  have d3 : decide ((12 : Int) = 12) = true := rfl
  have d4 : decide ((7 : Int) = 7) = true := rfl
  have d5 : decide (((1 : Nat) : Int) = 1) = true := rfl
  repeat (first
    | ((first | apply Wp.seqItemsR | apply Wp.itemsR); (· simp only [go_sem, reduceIte, Nat.reduceEqDiff, Nat.reduceAdd, bx, ax, if_true, if_false, Nat.reduceMul, Nat.reduceLeDiff, List.map_cons, List.map_nil, List.length_cons, List.length_nil, Nat.zero_add, encI, vAV, d0, d1, d2, d3, d4, d5, i1, t0, List.getD_cons_zero]; exact rfl))
    | (refine WpItems.nil ⟨?_, ?_⟩; (· first | trivial | simp [pairsQ, pairsOk, apart, ent0]))
    | ((refine WpItems.pcall ?_ ?_ (sp) ?_; (· simp only [go_sem, reduceIte, Nat.reduceEqDiff, Nat.reduceAdd, bx]); (· simp only [go_sem, reduceIte, Nat.reduceEqDiff, Nat.reduceAdd, bx, List.map]; first | exact VSubs.refl _ | (repeat (first | exact VSubs.nil | refine VSubs.cons (by first | exact VSub.refl _ | assumption | exact VSub.cap | exact VSub.any _) ?_)))); apply WpItems.evR; (· simp only [go_sem, reduceIte, Nat.reduceEqDiff, Nat.reduceAdd, bx, ax, if_true, if_false, Nat.reduceMul, Nat.reduceLeDiff, List.map_cons, List.map_nil, List.length_cons, List.length_nil, Nat.zero_add, encI, vAV, d0, d1, d2, d3, d4, d5, i1, t0, List.getD_cons_zero]; exact rfl))
    | (refine Wp.cond_true ?_ ?_; (· simp only [go_sem, reduceIte, Nat.reduceEqDiff, Nat.reduceAdd, bx, ax, if_true, if_false, Nat.reduceMul, Nat.reduceLeDiff, List.map_cons, List.map_nil, List.length_cons, List.length_nil, Nat.zero_add, encI, vAV, d0, d1, d2, d3, d4, d5, i1, t0, List.getD_cons_zero]))
    | (refine Wp.cond_false ?_ ?_; (· simp only [go_sem, reduceIte, Nat.reduceEqDiff, Nat.reduceAdd, bx, ax, if_true, if_false, Nat.reduceMul, Nat.reduceLeDiff, List.map_cons, List.map_nil, List.length_cons, List.length_nil, Nat.zero_add, encI, vAV, d0, d1, d2, d3, d4, d5, i1, t0, List.getD_cons_zero]))
    | refine Wp.skip ?_
    | refine Wp.label ?_
    | refine Wp.block ?_
    | refine Wp.exit ?_
    | refine Wp.seq ?_)
  refine Wp.ret ⟨trivial, _, rfl, ?_⟩
  simp only [go_sem, reduceIte, Nat.reduceEqDiff, Nat.reduceAdd, bx]
  exact VSub.refl _
end Go.Proofs.Ytpehfflehebmbaa.Space
end
