/- DeskNil: the statement 'DeskNilCardSaid' (a tied card), closed by the law that the walk shows. No condition. -/
import Derived.Deep.CondSized
import Derived.Deep.DeepHandedRow
import Derived.IntWalk
import Derived.KernelRfl
import Derived.Laws.Append
import Derived.Laws.AppendOwn
import Derived.Laws.BytesArg
import Derived.Laws.ComplexArith
import Derived.Laws.Cover3
import Derived.Laws.Entries
import Derived.Laws.FloatBits
import Derived.Laws.IdiomCopy
import Derived.Laws.IdiomStrings
import Derived.Laws.Pointers
import Derived.Laws.Small
import Derived.Laws.Strings
import Derived.Laws.StructEq
import Derived.Lib.LaidTab
import Derived.MapKept
import Derived.OpenShut
import Derived.Orders
import Derived.OrdersIn
import Derived.ProofKit
import Derived.RangeFuncRecord
import Derived.RangeFuncSeq
import Derived.ReadAgain
import Derived.Scope
import Derived.Shelf.Slices.Cells
import Derived.Shelf.Spec.SlicesInsertGrow
import Derived.SizedLaws
import Derived.Test.YtkcgpcbpieofnaaGreatDoorCards
import Derived.Test.YtkcgpcbpieofnaaGreatDoorProg
import Derived.Test.YtkcgpcbpieofnaaGreatDoorTie
import Derived.Test.YtkcgpcbpieofnaaGreatDoorKNE
section
set_option linter.unusedSimpArgs false
set_option linter.unusedVariables false
set_option maxRecDepth 100000
namespace Go.Proofs.YtkcgpcbpieofnaaGreatDoor.Desk
open Go Go.Av Go.Proofs Go.Proofs.YtkcgpcbpieofnaaGreatDoor.C Go.Proofs.YtkcgpcbpieofnaaGreatDoor.Batch Go.Proofs.YtkcgpcbpieofnaaGreatDoor.Reads
def unStrs : List AV → Option (List Bs)
  | [] => some []
  | .str s :: l => match unStrs l with
    | some r => some (s :: r)
    | none => none
  | _ => none
def unSps : List AV → Option (List Sp)
  | [] => some []
  | .agg [.str a, .str b] :: l => match unSps l with
    | some r => some (⟨a, b⟩ :: r)
    | none => none
  | _ => none
theorem unStrs_ok : ∀ {l : List AV} {r : List Bs}, unStrs l = some r → l = strs r
  | [], r, h => by simp [unStrs] at h; subst h; rfl
  | x :: l, r, h => by
    cases x <;> simp only [unStrs] at h <;> try (cases h; done)
    split at h
    · rename_i r' h'
      cases h
      rw [unStrs_ok h']; rfl
    · cases h
theorem unSps_ok : ∀ {l : List AV} {r : List Sp}, unSps l = some r → l = sps r
  | [], r, h => by simp [unSps] at h; subst h; rfl
  | x :: l, r, h => by
    unfold unSps at h
    split at h
    · rename_i e; cases e
    · rename_i a b l' e
      cases e
      split at h
      · rename_i r' h'
        cases h
        rw [unSps_ok h']; rfl
      · cases h
    · cases h
def decR : AV → Option (List Bs × List Sp)
  | .agg [.sl s1 xs _, .sl s2 ys _] => match unStrs xs, unSps ys with
    | some k, some l => match (Nat.beq s1 1 || k.isEmpty) && (Nat.beq s2 2 || l.isEmpty) with
      | true => some (k, l)
      | false => none
    | _, _ => none
  | _ => none
theorem decR_ok {x : AV} {k : List Bs} {l : List Sp} (h : decR x = some (k, l)) : VSub x (encR k l) := by
  unfold decR at h
  split at h
  · split at h
    · rename_i s1 xs c1 s2 ys c2 _ _ k' l' h1 h2
      split at h
      · rename_i hc
        cases h
        rw [unStrs_ok h1, unSps_ok h2]
        simp only [Bool.and_eq_true, Bool.or_eq_true] at hc
        have e1 : VSub (.sl s1 (strs k) c1) (.sl 1 (strs k) .any) := by
          rcases hc.1 with e | e
          · rw [Nat.eq_of_beq_eq_true e]; exact VSub.cap
          · have : k = [] := List.isEmpty_iff.1 e
            subst this; exact VSub.nil
        have e2 : VSub (.sl s2 (sps l) c2) (.sl 2 (sps l) .any) := by
          rcases hc.2 with e | e
          · rw [Nat.eq_of_beq_eq_true e]; exact VSub.cap
          · have : l = [] := List.isEmpty_iff.1 e
            subst this; exact VSub.nil
        exact VSub.agg (VSubs.cons e1 (VSubs.cons e2 VSubs.nil))
      · cases h
    · cases h
  · cases h
def readsPP (f : Nat) (args : List AV) : Option AV :=
  match Nat.beq f 169 with
  | true => match args with
    | [r, .str key] => match decR r with
      | some (k, l) => some (encO (keyB k l key))
      | none => none
    | _ => none
  | false => match Nat.beq f 121 with
    | true => match args with
      | [r, .str a, .str b] => match decR r with
        | some (k, l) => some (encO (spanB k l ⟨a, b⟩))
        | none => none
      | _ => none
    | false => none
theorem named {f : Nat} {fn : Func} (h : Tryz.prog.funcs[f]? = some fn) (hb : fn.body.isSome = true) (hn : fn.name ≠ "runtime.NumGoroutine") : ∃ fn, Tryz.prog.funcs[f]? = some fn ∧ fn.body.isSome = true ∧ fn.name ≠ "runtime.NumGoroutine" := ⟨fn, h, hb, hn⟩
theorem readsPP_ok {f : Nat} {args : List AV} {r : AV} (h : readsPP f args = some r) : (∃ vals, VSubs args vals ∧ PCalls Tryz.prog f vals r) ∧ ∃ fn, Tryz.prog.funcs[f]? = some fn ∧ fn.body.isSome = true ∧ fn.name ≠ "runtime.NumGoroutine" := by
  unfold readsPP at h
  split at h
  · rename_i e
    have e := Nat.eq_of_beq_eq_true e
    subst e
    refine ⟨?_, named Tryz.func169 (of_decide_eq_true (by kernel_rfl)) (of_decide_eq_true (by kernel_rfl))⟩
    split at h
    · split at h
      · rename_i hd
        cases h
        exact ⟨_, VSubs.cons (decR_ok hd) (VSubs.refl _), key_p _ _ _⟩
      · cases h
    · cases h
  · split at h
    · rename_i e
      have e := Nat.eq_of_beq_eq_true e
      subst e
      refine ⟨?_, named Tryz.func121 (of_decide_eq_true (by kernel_rfl)) (of_decide_eq_true (by kernel_rfl))⟩
      split at h
      · split at h
        · rename_i hd
          cases h
          exact ⟨_, VSubs.cons (decR_ok hd) (VSubs.refl _), span_p _ _ ⟨_, _⟩⟩
        · cases h
      · cases h
    · cases h
def rowH (id id2 : Nat) (l : List Bs) (x : Bs) (n m : Nat) : H := .only (upd (upd none' id (some (.cells (strs l)))) id2 (some (.cells [.str x]))) [] n m
def rowE (id2 : Nat) (x : Bs) (n m : Nat) : H := .only (upd none' id2 (some (.cells [.str x]))) [] n m
noncomputable def HZ.turnZ (h : HZ) (id : Nat) (o : Av.Obj) : HZ := ⟨(h.o.set 6 id none).set 6 h.n (some o), h.n + 1, h.toks, h.m⟩
theorem HZ.turnZ_at (h : HZ) (id : Nat) (o : Av.Obj) (j : Nat) : (HZ.turnZ h id o).at j = if j = h.n then some o else if j = id then none else h.at j := by
  have e1 := Av.HZ.at_set ⟨h.o.set 6 id none, h.n, h.toks, h.m⟩ h.n (some o) j
  have e2 := Av.HZ.at_set h id none j
  change (Av.HZ.set ⟨h.o.set 6 id none, h.n, h.toks, h.m⟩ h.n (some o)).at j = _
  rw [e1]
  change (if j = h.n then some o else (Av.HZ.set h id none).at j) = _
  rw [e2]
noncomputable def insPrim (f : Nat) : PrimsZ := fun g args h => match Nat.beq g f with
  | false => none
  | true => match args with
    | [.sl s [] (.exact 0), .int .i64 i, .tsl s2 id2 0 1 _] => match h.at id2 with
      | some (.cells [.str x]) => match Nat.beq s 1 && Nat.beq s2 1 && decide (i = 0) with
        | true => some (.tsl 1 h.n 0 1 none, HZ.turnZ h id2 (.cells (strs [x])), ⟨[], [id2] ++ (List.range 1).map (h.n + ·), []⟩)
        | false => none
      | _ => none
    | [.tsl s id 0 len _, .int .i64 i, .tsl s2 id2 0 1 _] => match h.at id, h.at id2 with
      | some (.cells cs), some (.cells [.str x]) => match unStrs cs with
        | some l => match Nat.beq s 1 && Nat.beq s2 1 && Nat.beq l.length len && decide (0 ≤ i) && Nat.ble i.toNat l.length && Nat.blt 0 l.length && Nat.blt l.length 1099511627776 && !Nat.beq id id2 with
          | true => some (.tsl 1 h.n 0 (l.length + 1) none, HZ.turnZ h id (.cells (strs (l.take i.toNat ++ x :: l.drop i.toNat))), ⟨[], [id, id2] ++ (List.range 1).map (h.n + ·), []⟩)
          | false => none
        | none => none
      | _, _ => none
    | _ => none
theorem rowE_sg {σ : Sg} {id2 : Nat} {x : Bs} {n m : Nat} : (rowE id2 x n m).sg σ = rowE id2 x n m := H.ext (fun j => by
  simp only [H.sg, rowE, H.only, upd, none']; split <;> simp [sgO]) rfl rfl rfl
theorem rowE_turn_sg {σ : Sg} {id2 : Nat} {x : Bs} {n m : Nat} {cs : List AV} : ((rowE id2 x n m).turn id2 (.cells cs)).sg σ = (rowE id2 x n m).turn id2 (.cells cs) := H.ext (fun j => by
  simp only [H.sg, H.turn, rowE, H.only, upd, none']; (repeat' split) <;> simp [sgO]) rfl rfl rfl
theorem rowH_sg {σ : Sg} {id id2 : Nat} {l : List Bs} {x : Bs} {n m : Nat} : (rowH id id2 l x n m).sg σ = rowH id id2 l x n m := H.ext (fun j => by
  simp only [H.sg, rowH, H.only, upd, none']; (repeat' split) <;> simp [sgO]) rfl rfl rfl
theorem rowH_turn_sg {σ : Sg} {id id2 : Nat} {l : List Bs} {x : Bs} {n m : Nat} {cs : List AV} : ((rowH id id2 l x n m).turn id (.cells cs)).sg σ = (rowH id id2 l x n m).turn id (.cells cs) := H.ext (fun j => by
  simp only [H.sg, H.turn, rowH, H.only, upd, none']; (repeat' split) <;> simp [sgO]) rfl rfl rfl
theorem tsl_any {sz id off len : Nat} {c : Option Nat} : VSub (.tsl sz id off len c) (.tsl sz id off len none) := by
  intro G w v hv
  simp only [VRel] at hv ⊢
  obtain ⟨h1, ⟨C, c0, T, fr, h2, h3, -, h4⟩ | ⟨h2, h3, -⟩⟩ := hv
  · exact ⟨h1, .inl ⟨C, c0, T, fr, h2, h3, by simp, h4⟩⟩
  · exact ⟨h1, .inr ⟨h2, h3, by simp⟩⟩
theorem insPrim_ok : PrimsOkZ Tryz.prog (insPrim 183) := by
  intro σ g args h r h' en hx
  have hf := named Tryz.func183 (of_decide_eq_true (by kernel_rfl)) (of_decide_eq_true (by kernel_rfl))
  unfold insPrim at hx
  split at hx
  · cases hx
  · rename_i e
    have e := Nat.eq_of_beq_eq_true e
    subst e
    split at hx
    · rename_i s i s2 id2 cp2
      split at hx
      · rename_i x ho
        split at hx
        · rename_i hc
          simp only [Bool.and_eq_true, decide_eq_true_eq] at hc
          obtain ⟨⟨c1, c2⟩, c3⟩ := hc
          have c1 := Nat.eq_of_beq_eq_true c1
          have c2 := Nat.eq_of_beq_eq_true c2
          subst c1 c2 c3
          cases hx
          have hs1 : ∀ j o, (rowE id2 x h.n h.m).objs j = some o → h.at j = some o := fun j o hj => by
            simp only [rowE, H.only, upd, none'] at hj
            split at hj
            · rename_i e; subst e; rw [ho]; exact hj
            · cases hj
          have hi1 : ∀ id, ((rowE id2 x h.n h.m).objs id).isSome → id ∈ [id2] := fun id hx => by
            simp only [rowE, H.only, upd, none'] at hx
            split at hx
            · rename_i e; subst e; simp
            · simp at hx
          have tc := touch_genY σ h.hp (rowE id2 x h.n h.m) ((rowE id2 x h.n h.m).turn id2 (.cells (strs [x]))) (ids := [id2]) ⟨hs1, fun t ht => by simp [rowE, H.only] at ht⟩ rfl rfl hi1 (by simp [rowE, H.turn, H.only, Av.HZ.hp]) (by simp [rowE, H.turn, H.only, Av.HZ.hp])
          rw [rowE_sg, rowE_turn_sg] at tc
          have ez : (HZ.turnZ h id2 (.cells (strs [x]))).hp = h.hp.patch (rowE id2 x h.n h.m) ((rowE id2 x h.n h.m).turn id2 (.cells (strs [x]))) := by
            refine H.ext (fun j => ?_) rfl (by simp [H.patch, rowE, H.turn, H.only, Av.HZ.hp, HZ.turnZ]; exact filter_tt.symm) rfl
            change (HZ.turnZ h id2 (.cells (strs [x]))).at j = _
            rw [HZ.turnZ_at]
            simp only [H.patch, rowE, H.turn, H.only, upd, none']
            by_cases e1 : j = h.n
            · simp [e1]
            · by_cases e2 : j = id2
              · simp [e1, e2]
              · rw [if_neg e1, if_neg e2, if_neg (by simp [e2]; omega)]; rfl
          have ac := insert_e x (id2 := id2) (h := rowE id2 x h.n h.m) (by simp [rowE, H.only, upd]) rfl
          refine ⟨⟨_, _, ?_, fun G w vs hv R F => ac G w vs (VSubs.cons (VSub.refl _) (VSubs.cons (VSub.refl _) (VSubs.cons tsl_any VSubs.nil)) G w vs hv) R F⟩, hf⟩
          rw [ez]; simpa [rowE, H.turn, H.only, Av.HZ.hp] using tc
        · cases hx
      · cases hx
    · rename_i s id len cp i s2 id2 cp2
      split at hx
      · rename_i cs x ho1 ho2
        split at hx
        · rename_i l hl
          split at hx
          · rename_i hc
            simp only [Bool.and_eq_true, decide_eq_true_eq, Bool.not_eq_true'] at hc
            obtain ⟨⟨⟨⟨⟨⟨⟨c1, c2⟩, c3⟩, c4⟩, c5⟩, c6⟩, c7⟩, c8⟩ := hc
            have c1 := Nat.eq_of_beq_eq_true c1
            have c2 := Nat.eq_of_beq_eq_true c2
            have c3 := Nat.eq_of_beq_eq_true c3
            have c5 := Nat.le_of_ble_eq_true c5
            have c6 := Nat.le_of_ble_eq_true c6
            have c7 := Nat.le_of_ble_eq_true c7
            have c8 : id ≠ id2 := fun e => by rw [e] at c8; simp at c8
            subst c1 c2 c3
            have hcs := unStrs_ok hl
            subst hcs
            cases hx
            have hs1 : ∀ j o, (rowH id id2 l x h.n h.m).objs j = some o → h.at j = some o := fun j o hj => by
              simp only [rowH, H.only, upd, none'] at hj
              split at hj
              · rename_i e; subst e; rw [ho2]; exact hj
              · split at hj
                · rename_i e; subst e; rw [ho1]; exact hj
                · cases hj
            have hi1 : ∀ j, ((rowH id id2 l x h.n h.m).objs j).isSome → j ∈ [id, id2] := fun j hx => by
              simp only [rowH, H.only, upd, none'] at hx
              split at hx
              · rename_i e; subst e; simp
              · split at hx
                · rename_i e; subst e; simp
                · simp at hx
            have tc := touch_genY σ h.hp (rowH id id2 l x h.n h.m) ((rowH id id2 l x h.n h.m).turn id (.cells (strs (l.take i.toNat ++ x :: l.drop i.toNat)))) (ids := [id, id2]) ⟨hs1, fun t ht => by simp [rowH, H.only] at ht⟩ rfl rfl hi1 (by simp [rowH, H.turn, H.only, Av.HZ.hp]) (by simp [rowH, H.turn, H.only, Av.HZ.hp])
            rw [rowH_sg, rowH_turn_sg] at tc
            have ez : (HZ.turnZ h id (.cells (strs (l.take i.toNat ++ x :: l.drop i.toNat)))).hp = h.hp.patch (rowH id id2 l x h.n h.m) ((rowH id id2 l x h.n h.m).turn id (.cells (strs (l.take i.toNat ++ x :: l.drop i.toNat)))) := by
              refine H.ext (fun j => ?_) rfl (by simp [H.patch, rowH, H.turn, H.only, Av.HZ.hp, HZ.turnZ]; exact filter_tt.symm) rfl
              change (HZ.turnZ h id (.cells (strs (l.take i.toNat ++ x :: l.drop i.toNat)))).at j = _
              rw [HZ.turnZ_at]
              simp only [H.patch, rowH, H.turn, H.only, upd, none']
              by_cases e1 : j = h.n
              · simp [e1]
              · by_cases e2 : j = id
                · subst e2; simp [e1]; intro hh; split at hh <;> cases hh
                · by_cases e3 : j = id2
                  · subst e3; simp [e1, e2, ho2]
                  · rw [if_neg e1, if_neg e2, if_neg (by simp [e2, e3]; omega)]; rfl
            have hi : ((i.toNat : Nat) : Int) = i := Int.toNat_of_nonneg c4
            have ac := insert_t l i.toNat x c5 c7 c6 c8 (h := rowH id id2 l x h.n h.m) (by simp [rowH, H.only, upd, c8]) (by simp [rowH, H.only, upd]) rfl
            rw [hi] at ac
            refine ⟨⟨_, _, ?_, fun G w vs hv R F => ac G w vs (VSubs.cons tsl_any (VSubs.cons (VSub.refl _) (VSubs.cons tsl_any VSubs.nil)) G w vs hv) R F⟩, hf⟩
            rw [ez]; simpa [rowH, H.turn, H.only, Av.HZ.hp] using tc
          · cases hx
        · cases hx
      · cases hx
    · cases hx
end Go.Proofs.YtkcgpcbpieofnaaGreatDoor.Desk
end
section
set_option linter.unusedVariables false
set_option linter.unusedSimpArgs false
namespace Go.Fl
open Ieee
def fl (s : Bool) (n : Nat) : Nat := double.nearest s n 0
theorem log2_bounds {n : Nat} (h : 0 < n) : 2 ^ n.log2 ≤ n ∧ n < 2 ^ (n.log2 + 1) :=
  ⟨Nat.log2_self_le (by omega), Nat.lt_log2_self⟩
theorem log2_mul_pow {n k : Nat} (h : 0 < n) : (n * 2 ^ k).log2 = n.log2 + k := by
  obtain ⟨h1, h2⟩ := log2_bounds h
  have hp : 0 < 2 ^ k := Nat.two_pow_pos _
  have hm : n * 2 ^ k ≠ 0 := Nat.ne_of_gt (Nat.mul_pos h hp)
  refine (Nat.log2_eq_iff hm).2 ⟨?_, ?_⟩
  · rw [Nat.pow_add]; exact Nat.mul_le_mul_right _ h1
  · rw [Nat.add_right_comm, Nat.pow_add]
    exact Nat.mul_lt_mul_of_lt_of_le h2 (Nat.le_refl _) hp
theorem log2_lt53 {n : Nat} (h : 0 < n) (h2 : n < 2 ^ 53) : n.log2 ≤ 52 := by
  have := (log2_bounds h).1
  rcases Nat.lt_or_ge n.log2 53 with h3 | h3
  · omega
  · have := Nat.pow_le_pow_right (n := 2) (by omega) h3
    omega
theorem cut_exact (way : Toward) (neg : Bool) (n k : Nat) : way.cut neg (n * 2 ^ k) k = n := by
  have key : (1 <<< min k ((n * 2 ^ k).log2 + 2)) = if n = 0 then 2 ^ min k 2 else 2 ^ k := by
    rw [Nat.shiftLeft_eq, Nat.one_mul]
    by_cases h : n = 0
    · subst h; simp
    · rw [if_neg h, log2_mul_pow (by omega), Nat.min_eq_left (by omega)]
  unfold Toward.cut
  simp only [key]
  by_cases h : n = 0
  · subst h
    have hp : 0 < 2 ^ min k 2 := Nat.two_pow_pos _
    simp only [if_true, Nat.zero_mul, Nat.zero_div, Nat.zero_mod, Nat.mul_zero, Nat.zero_add]
    cases way <;> simp <;> omega
  · have hp : 0 < 2 ^ k := Nat.two_pow_pos _
    simp only [if_neg h, Nat.mul_div_cancel _ hp, Nat.mul_mod_left, Nat.mul_zero]
    cases way <;> simp <;> omega
theorem nearest_scale {n : Nat} (s : Bool) (h : 0 < n) (h2 : n < 2 ^ 53) (k : Nat) : double.nearest s (n * 2 ^ k) (-(k : Int)) = double.word s ((n.log2 + 1022) * 2 ^ 52 + n * 2 ^ (52 - n.log2)) := by
  have he := log2_lt53 h h2
  obtain ⟨b1, b2⟩ := log2_bounds h
  have hp : 0 < 2 ^ k := Nat.two_pow_pos _
  have hm : n * 2 ^ k ≠ 0 := Nat.ne_of_gt (Nat.mul_pos h hp)
  have hl := log2_mul_pow (k := k) h
  have hlast : max (-(k : Int) + ((n * 2 ^ k).log2 : Nat) - (double.fractionBits : Int)) double.leastPlace = (n.log2 : Int) - 52 := by
    have e1 : double.leastPlace = -1074 := by decide
    have e2 : double.fractionBits = 52 := rfl
    rw [hl, e1, e2]
    omega
  have hcut : Toward.even.cut s ((n * 2 ^ k) <<< (-(k : Int) - ((n.log2 : Int) - 52)).toNat) (((n.log2 : Int) - 52) - -(k : Int)).toNat = n * 2 ^ (52 - n.log2) := by
    rcases Nat.lt_or_ge (n.log2 + k) 52 with h3 | h3
    · have e1 : (-(k : Int) - ((n.log2 : Int) - 52)).toNat = 52 - n.log2 - k := by omega
      have e2 : (((n.log2 : Int) - 52) - -(k : Int)).toNat = 0 := by omega
      rw [e1, e2, Nat.shiftLeft_eq, Nat.mul_assoc, ← Nat.pow_add, show k + (52 - n.log2 - k) = 52 - n.log2 by omega]
      have := cut_exact .even s (n * 2 ^ (52 - n.log2)) 0
      simpa using this
    · have e1 : (-(k : Int) - ((n.log2 : Int) - 52)).toNat = 0 := by omega
      have e2 : (((n.log2 : Int) - 52) - -(k : Int)).toNat = n.log2 + k - 52 := by omega
      rw [e1, e2, Nat.shiftLeft_eq, Nat.pow_zero, Nat.mul_one]
      have := cut_exact .even s (n * 2 ^ (52 - n.log2)) (n.log2 + k - 52)
      rw [Nat.mul_assoc, ← Nat.pow_add, show 52 - n.log2 + (n.log2 + k - 52) = k by omega] at this
      exact this
  have hb : n * 2 ^ (52 - n.log2) < 2 ^ 53 := by
    calc n * 2 ^ (52 - n.log2) < 2 ^ (n.log2 + 1) * 2 ^ (52 - n.log2) := Nat.mul_lt_mul_of_lt_of_le b2 (Nat.le_refl _) (Nat.two_pow_pos _)
      _ = 2 ^ 53 := by rw [← Nat.pow_add, show n.log2 + 1 + (52 - n.log2) = 53 by omega]
  unfold Format.nearest
  rw [if_neg hm]
  dsimp only
  rw [hlast, hcut]
  have e1 : (((n.log2 : Int) - 52) - double.leastPlace).toNat = n.log2 + 1022 := by
    rw [show double.leastPlace = -1074 by decide]; omega
  rw [e1, show double.binade = 2 ^ 52 from rfl]
  rw [Nat.min_eq_left]
  rw [show double.infRung = 2047 * 2 ^ 52 by decide]
  omega
theorem fl_bits {n : Nat} (s : Bool) (h : 0 < n) (h2 : n < 2 ^ 53) : fl s n = double.word s ((n.log2 + 1022) * 2 ^ 52 + n * 2 ^ (52 - n.log2)) := by
  have := nearest_scale s h h2 0
  simpa [fl] using this
theorem fl_scale {n : Nat} (s : Bool) (h2 : n < 2 ^ 53) (k : Nat) : double.nearest s (n * 2 ^ k) (-(k : Int)) = fl s n := by
  rcases Nat.eq_zero_or_pos n with h | h
  · subst h; simp [fl, Format.nearest]
  · rw [nearest_scale s h h2, fl_bits s h h2]
theorem mant {n : Nat} (h : 0 < n) (h2 : n < 2 ^ 53) : 2 ^ 52 ≤ n * 2 ^ (52 - n.log2) ∧ n * 2 ^ (52 - n.log2) < 2 ^ 53 := by
  have he := log2_lt53 h h2
  obtain ⟨b1, b2⟩ := log2_bounds h
  constructor
  · calc 2 ^ 52 = 2 ^ n.log2 * 2 ^ (52 - n.log2) := by rw [← Nat.pow_add, show n.log2 + (52 - n.log2) = 52 by omega]
      _ ≤ _ := Nat.mul_le_mul_right _ b1
  · calc n * 2 ^ (52 - n.log2) < 2 ^ (n.log2 + 1) * 2 ^ (52 - n.log2) := Nat.mul_lt_mul_of_lt_of_le b2 (Nat.le_refl _) (Nat.two_pow_pos _)
      _ = 2 ^ 53 := by rw [← Nat.pow_add, show n.log2 + 1 + (52 - n.log2) = 53 by omega]
theorem read_word {r : Nat} (s : Bool) (hr : r < double.signWeight) : double.read (double.word s r) = (if r < double.binade then .number s r double.leastPlace
  else if r < double.infRung then .number s (double.binade + r % double.binade) (double.leastPlace + (r / double.binade - 1 : Nat))
  else if r = double.infRung then .infinity s else .nan s (r - double.infRung)) := by
  have hw : double.signWeight = 2 ^ 63 := rfl
  have e1 : double.word s r / double.signWeight % 2 = if s then 1 else 0 := by
    unfold Format.word
    rw [hw] at hr ⊢
    cases s
    · simp only [Bool.false_eq_true, if_false]; omega
    · simp only [if_true]; omega
  have e2 : double.word s r % double.signWeight = r := by
    unfold Format.word
    rw [hw] at hr ⊢
    cases s
    · simp only [Bool.false_eq_true, if_false]; omega
    · simp only [if_true]; omega
  unfold Format.read
  simp only [e1, e2]
  cases s <;> simp
theorem read_exp {e m : Nat} (s : Bool) (he : e < 2046) (h1 : 2 ^ 52 ≤ m) (h2 : m < 2 ^ 53) : double.read (double.word s (e * 2 ^ 52 + m)) = .number s m ((e : Int) - 1074) := by
  have hr : e * 2 ^ 52 + m < double.infRung := by
    rw [show double.infRung = 2047 * 2 ^ 52 by decide]; omega
  rw [read_word s (Nat.lt_trans hr (Format.infRung_lt _))]
  have hb : double.binade = 2 ^ 52 := rfl
  rw [if_neg (by rw [hb]; omega), if_pos hr, hb]
  have e1 : (e * 2 ^ 52 + m) % 2 ^ 52 = m - 2 ^ 52 := by omega
  have e2 : (e * 2 ^ 52 + m) / 2 ^ 52 = e + 1 := by omega
  rw [e1, e2, show double.leastPlace = -1074 by decide]
  have e3 : 2 ^ 52 + (m - 2 ^ 52) = m := by omega
  have e4 : (-1074 : Int) + ((e + 1 - 1 : Nat) : Int) = (e : Int) - 1074 := by omega
  rw [e3, e4]
theorem read_fl {n : Nat} (s : Bool) (h2 : n < 2 ^ 53) : ∃ k : Nat, double.read (fl s n) = .number s (n * 2 ^ k) (-(k : Int)) := by
  rcases Nat.eq_zero_or_pos n with h | h
  · subst h
    obtain ⟨k, hk⟩ : ∃ k : Nat, k = 1074 := ⟨_, rfl⟩
    refine ⟨k, ?_⟩
    have : fl s 0 = double.word s 0 := by simp [fl, Format.nearest]
    rw [this, read_word s (by decide), if_pos (by decide)]
    rw [show double.leastPlace = -1074 by decide, Nat.zero_mul, hk]; rfl
  · have he := log2_lt53 h h2
    obtain ⟨m1, m2⟩ := mant h h2
    refine ⟨52 - n.log2, ?_⟩
    rw [fl_bits s h h2, read_exp s (by omega) m1 m2]
    have e4 : ((n.log2 + 1022 : Nat) : Int) - 1074 = -((52 - n.log2 : Nat) : Int) := by omega
    rw [e4]
def sg (s : Bool) (n : Nat) : Int := if s then -(n : Int) else n
theorem signed_eq (s : Bool) (n k K : Nat) (h : k ≤ K) : signed s (n * 2 ^ k) (-(k : Int) - -(K : Int)).toNat = sg s n * 2 ^ K := by
  have e : (-(k : Int) - -(K : Int)).toNat = K - k := by omega
  have e2 : (n * 2 ^ k) <<< (K - k) = n * 2 ^ K := by
    rw [Nat.shiftLeft_eq, Nat.mul_assoc, ← Nat.pow_add, show k + (K - k) = K by omega]
  unfold signed sg
  rw [e, e2]
  cases s <;> simp [Int.neg_mul]
def sumS (s t : Bool) (T : Int) : Bool := if T = 0 then s && t else decide (T < 0)
theorem pow_pos' (K : Nat) : (0 : Int) < 2 ^ K := by
  have : (0 : Nat) < 2 ^ K := Nat.two_pow_pos _
  exact_mod_cast this
theorem sum_fl {m n : Nat} (s t : Bool) (hm : m < 2 ^ 53) (hn : n < 2 ^ 53) (hT : (sg s m + sg t n).natAbs < 2 ^ 53) :
    ((double.read (fl s m)).sum (double.read (fl t n))).map double.write = some (fl (sumS s t (sg s m + sg t n)) (sg s m + sg t n).natAbs) := by
  obtain ⟨k1, e1⟩ := read_fl s hm
  obtain ⟨k2, e2⟩ := read_fl t hn
  rw [e1, e2]
  have hbase : min (-(k1 : Int)) (-(k2 : Int)) = -((max k1 k2 : Nat) : Int) := by omega
  simp only [Datum.sum, hbase, signed_eq s m k1 (max k1 k2) (by omega), signed_eq t n k2 (max k1 k2) (by omega), ← Int.add_mul]
  generalize max k1 k2 = K
  generalize hTd : sg s m + sg t n = T at hT
  have hp := pow_pos' K
  have h0 : T * 2 ^ K = 0 ↔ T = 0 := by
    constructor
    · intro h
      rcases Int.mul_eq_zero.1 h with h | h
      · exact h
      · omega
    · intro h; rw [h]; simp
  have hneg : T * 2 ^ K < 0 ↔ T < 0 := by
    constructor
    · intro h
      by_cases h1 : T < 0
      · exact h1
      · have := Int.mul_nonneg (show 0 ≤ T by omega) (Int.le_of_lt hp); omega
    · intro h; exact Int.mul_neg_of_neg_of_pos h hp
  have habs : (T * 2 ^ K).natAbs = T.natAbs * 2 ^ K := by rw [Int.natAbs_mul]; congr 1
  simp only [Option.map_some, Format.write, habs, Option.some.injEq, h0, hneg]
  rw [← fl_scale _ hT K]
  rfl
theorem add_fl {m n : Nat} (s t : Bool) (hm : m < 2 ^ 53) (hn : n < 2 ^ 53) (hT : (sg s m + sg t n).natAbs < 2 ^ 53) : double.add (fl s m) (fl t n) = some (fl (sumS s t (sg s m + sg t n)) (sg s m + sg t n).natAbs) :=
  sum_fl s t hm hn hT
theorem opp_fl {n : Nat} (s : Bool) (h : n < 2 ^ 53) : (double.read (fl s n)).opposite = double.read (fl (!s) n) := by
  rcases Nat.eq_zero_or_pos n with h0 | h0
  · subst h0
    have : ∀ s, fl s 0 = double.word s 0 := fun s => by simp [fl, Format.nearest]
    rw [this, this, read_word s (by decide), read_word (!s) (by decide), if_pos (by decide), if_pos (by decide)]
    rfl
  · have he := log2_lt53 h0 h
    obtain ⟨m1, m2⟩ := mant h0 h
    rw [fl_bits s h0 h, fl_bits (!s) h0 h, read_exp s (by omega) m1 m2, read_exp (!s) (by omega) m1 m2]
    rfl
theorem sg_not (s : Bool) (n : Nat) : sg (!s) n = - sg s n := by cases s <;> simp [sg]
theorem sub_fl {m n : Nat} (s t : Bool) (hm : m < 2 ^ 53) (hn : n < 2 ^ 53) (hT : (sg s m - sg t n).natAbs < 2 ^ 53) : double.sub (fl s m) (fl t n) = some (fl (sumS s (!t) (sg s m - sg t n)) (sg s m - sg t n).natAbs) := by
  unfold Format.sub
  rw [opp_fl t hn]
  have e : sg s m + sg (!t) n = sg s m - sg t n := by rw [sg_not]; omega
  have := sum_fl s (!t) hm hn (by rw [e]; exact hT)
  rw [e] at this
  exact this
theorem mul_fl {m n : Nat} (s t : Bool) (hm : m < 2 ^ 53) (hn : n < 2 ^ 53) (hT : m * n < 2 ^ 53) : double.mul (fl s m) (fl t n) = some (fl (s ^^ t) (m * n)) := by
  obtain ⟨k1, e1⟩ := read_fl s hm
  obtain ⟨k2, e2⟩ := read_fl t hn
  unfold Format.mul
  rw [e1, e2]
  simp only [Datum.product, Option.map_some, Format.write, Option.some.injEq]
  have e3 : m * 2 ^ k1 * (n * 2 ^ k2) = m * n * 2 ^ (k1 + k2) := by rw [Nat.pow_add]; ac_rfl
  have e4 : -(k1 : Int) + -(k2 : Int) = -((k1 + k2 : Nat) : Int) := by omega
  rw [e3, e4]
  exact fl_scale _ hT _
theorem order_fl {m n : Nat} (s t : Bool) (hm : m < 2 ^ 53) (hn : n < 2 ^ 53) : double.order (fl s m) (fl t n) = some (compare (sg s m) (sg t n)) := by
  obtain ⟨k1, e1⟩ := read_fl s hm
  obtain ⟨k2, e2⟩ := read_fl t hn
  unfold Format.order
  rw [e1, e2]
  have hbase : min (-(k1 : Int)) (-(k2 : Int)) = -((max k1 k2 : Nat) : Int) := by omega
  simp only [Datum.order, hbase, signed_eq s m k1 (max k1 k2) (by omega), signed_eq t n k2 (max k1 k2) (by omega), Option.some.injEq]
  have hp := pow_pos' (max k1 k2)
  generalize max k1 k2 = K at hp
  generalize sg s m = x
  generalize sg t n = y
  rcases Int.lt_trichotomy x y with h | h | h
  · have h2 : x * 2 ^ K < y * 2 ^ K := Int.mul_lt_mul_of_pos_right h hp
    simp only [compare, compareOfLessAndEq, if_pos h, if_pos h2]
  · subst h; simp [compare, compareOfLessAndEq]
  · have h2 : y * 2 ^ K < x * 2 ^ K := Int.mul_lt_mul_of_pos_right h hp
    simp only [compare, compareOfLessAndEq, if_neg (show ¬ x < y by omega), if_neg (show ¬ x = y by omega), if_neg (show ¬ x * 2 ^ K < y * 2 ^ K by omega), if_neg (show ¬ x * 2 ^ K = y * 2 ^ K by omega)]
theorem toInt_fl {n : Nat} (s : Bool) (h : n < 2 ^ 53) : (double.read (fl s n)).toInt .zero = some (sg s n) := by
  obtain ⟨k, e⟩ := read_fl s h
  rw [e]
  have e1 : (-(k : Int)).toNat = 0 := by omega
  have e2 : (- -(k : Int)).toNat = k := by omega
  simp only [Datum.toInt, Datum.integral, e1, e2, Nat.shiftLeft_zero, cut_exact, signed, sg]
end Go.Fl
end
section
set_option linter.unusedVariables false
set_option linter.unusedSimpArgs false
namespace Go.Fl
open Ieee
theorem and_split {i a b x y : Nat} (ha : a < 2 ^ i) (hb : b < 2 ^ i) : (2 ^ i * x + a) &&& (2 ^ i * y + b) = 2 ^ i * (x &&& y) + (a &&& b) := by
  refine Nat.eq_of_testBit_eq fun j => ?_
  have hab : a &&& b < 2 ^ i := Nat.lt_of_le_of_lt Nat.and_le_left ha
  rw [Nat.testBit_and, Nat.testBit_two_pow_mul_add _ ha, Nat.testBit_two_pow_mul_add _ hb, Nat.testBit_two_pow_mul_add _ hab]
  split <;> simp [Nat.testBit_and]
theorem or_split {i a b x y : Nat} (ha : a < 2 ^ i) (hb : b < 2 ^ i) : (2 ^ i * x + a) ||| (2 ^ i * y + b) = 2 ^ i * (x ||| y) + (a ||| b) := by
  refine Nat.eq_of_testBit_eq fun j => ?_
  have hab : a ||| b < 2 ^ i := Nat.or_lt_two_pow ha hb
  rw [Nat.testBit_or, Nat.testBit_two_pow_mul_add _ ha, Nat.testBit_two_pow_mul_add _ hb, Nat.testBit_two_pow_mul_add _ hab]
  split <;> simp [Nat.testBit_or]
theorem clear_exp {f lo : Nat} (hf : f < 2 ^ 11) (hl : lo < 2 ^ 52) : (2 ^ 52 * f + lo) &&& 9227875636482146303 = lo := by
  have e : 9227875636482146303 = 2 ^ 63 * 1 + (2 ^ 52 * 0 + (2 ^ 52 - 1)) := by decide
  have h1 : 2 ^ 52 * f + lo < 2 ^ 63 := by omega
  have h0 : 2 ^ 52 * f + lo = 2 ^ 63 * 0 + (2 ^ 52 * f + lo) := by omega
  rw [e, h0, and_split h1 (by decide), and_split hl (by decide), Nat.and_two_pow_sub_one_eq_mod, Nat.mod_eq_of_lt hl]
  simp
theorem set_exp {k lo : Nat} (hl : lo < 2 ^ 52) : lo ||| (2 ^ 52 * k) = 2 ^ 52 * k + lo := by
  have h0 : lo = 2 ^ 52 * 0 + lo := by omega
  have h1 : 2 ^ 52 * k = 2 ^ 52 * k + 0 := by omega
  rw [h0, h1, or_split hl (by decide)]
  simp
theorem clear_sign {r : Nat} (h : r < 2 ^ 63) (s : Bool) : (double.word s r) &&& 9223372036854775807 = r := by
  have e : 9223372036854775807 = 2 ^ 63 - 1 := by decide
  rw [e, Nat.and_two_pow_sub_one_eq_mod]
  unfold Format.word
  have hw : double.signWeight = 2 ^ 63 := rfl
  rw [hw]
  cases s
  · simp only [Bool.false_eq_true, if_false]; omega
  · simp only [if_true]; omega
def ex (n : Nat) : Nat := n.log2 + 1023
def lo (n : Nat) : Nat := n * 2 ^ (52 - n.log2) - 2 ^ 52
theorem ex_lt {n : Nat} (h : 0 < n) (h2 : n < 2 ^ 53) : ex n < 2 ^ 11 := by
  have := log2_lt53 h h2; unfold ex; omega
theorem lo_lt {n : Nat} (h : 0 < n) (h2 : n < 2 ^ 53) : lo n < 2 ^ 52 := by
  have := mant h h2; unfold lo; omega
theorem fl_ex {n : Nat} (h : 0 < n) (h2 : n < 2 ^ 53) : fl false n = 2 ^ 52 * ex n + lo n := by
  have := mant h h2
  rw [fl_bits false h h2]
  unfold ex lo Format.word
  simp only [Bool.false_eq_true, if_false]
  omega
theorem fl_zero (s : Bool) : fl s 0 = double.word s 0 := by simp [fl, Format.nearest]
theorem fl_word {n : Nat} (s : Bool) (h2 : n < 2 ^ 53) : ∃ r, r < 2047 * 2 ^ 52 ∧ ∀ s, fl s n = double.word s r := by
  rcases Nat.eq_zero_or_pos n with h | h
  · subst h; exact ⟨0, by decide, fun s => fl_zero s⟩
  · have he := log2_lt53 h h2
    have := mant h h2
    refine ⟨_, ?_, fun s => fl_bits s h h2⟩
    omega
theorem abs_fl {n : Nat} (s : Bool) (h2 : n < 2 ^ 53) : fl s n &&& 9223372036854775807 = fl false n := by
  obtain ⟨r, hr, e⟩ := fl_word s h2
  rw [e, e, clear_sign (by omega)]
  rfl
theorem fl_lt {n : Nat} (s : Bool) (h2 : n < 2 ^ 53) : fl s n < 2 ^ 64 := by
  obtain ⟨r, hr, e⟩ := fl_word s h2
  have hw : double.signWeight = 2 ^ 63 := rfl
  rw [e]
  unfold Format.word
  rw [hw]
  split <;> omega
def fr (n : Nat) : Nat := 2 ^ 52 * 1022 + lo n
theorem read_fr {n : Nat} (h : 0 < n) (h2 : n < 2 ^ 53) : double.read (fr n) = .number false (n * 2 ^ (52 - n.log2)) (-53) := by
  obtain ⟨m1, m2⟩ := mant h h2
  have e : fr n = double.word false (1021 * 2 ^ 52 + n * 2 ^ (52 - n.log2)) := by
    unfold fr lo Format.word
    simp only [Bool.false_eq_true, if_false]
    omega
  rw [e, read_exp false (by omega) m1 m2]
  rfl
theorem order_fr {m n : Nat} (hm : 0 < m) (hm2 : m < 2 ^ 53) (hn : 0 < n) (hn2 : n < 2 ^ 53) : double.order (fr m) (fr n) = some (compare (m * 2 ^ (52 - m.log2)) (n * 2 ^ (52 - n.log2))) := by
  unfold Format.order
  rw [read_fr hm hm2, read_fr hn hn2]
  have e : (-53 - min (-53 : Int) (-53)).toNat = 0 := by decide
  simp only [Datum.order, e, signed, Bool.false_eq_true, if_false, Nat.shiftLeft_zero, Option.some.injEq]
  simp only [compare, compareOfLessAndEq]
  generalize m * 2 ^ (52 - m.log2) = x
  generalize n * 2 ^ (52 - n.log2) = y
  by_cases h1 : x < y
  · rw [if_pos h1, if_pos (by omega)]
  · rw [if_neg h1, if_neg (show ¬ (x : Int) < (y : Int) by omega)]
    by_cases h2 : x = y
    · rw [if_pos h2, if_pos (by omega)]
    · rw [if_neg h2, if_neg (by omega)]
theorem log2_mono {m n : Nat} (h : 0 < m) (hmn : m ≤ n) : m.log2 ≤ n.log2 := by
  have h1 := (log2_bounds h).1
  have h2 := (log2_bounds (Nat.lt_of_lt_of_le h hmn)).2
  rcases Nat.lt_or_ge n.log2 m.log2 with h3 | h3
  · have := Nat.pow_le_pow_right (n := 2) (by omega) (show n.log2 + 1 ≤ m.log2 by omega)
    omega
  · exact h3
def lift (p r : Nat) : Nat := r.log2 - p.log2 - (if r * 2 ^ (52 - r.log2) < p * 2 ^ (52 - p.log2) then 1 else 0)
theorem lift_int {p r : Nat} (hp : 0 < p) (hr : p ≤ r) (h2 : r < 2 ^ 53) : ((lift p r : Nat) : Int) = (r.log2 : Int) - (p.log2 : Int) - (if r * 2 ^ (52 - r.log2) < p * 2 ^ (52 - p.log2) then 1 else 0) := by
  have hl := log2_mono hp hr
  unfold lift
  split
  · rename_i h
    have : p.log2 ≠ r.log2 := by
      intro e
      rw [e] at h
      have := Nat.lt_of_mul_lt_mul_right h
      omega
    omega
  · omega
theorem lift_le {p r : Nat} (hp : 0 < p) (hr : p ≤ r) (h2 : r < 2 ^ 53) : p * 2 ^ lift p r ≤ r := by
  have hl := log2_mono hp hr
  have hr0 : 0 < r := by omega
  have h52 := log2_lt53 hr0 h2
  obtain ⟨a1, a2⟩ := log2_bounds hp
  obtain ⟨b1, b2⟩ := log2_bounds hr0
  have hi := lift_int hp hr h2
  by_cases h : r * 2 ^ (52 - r.log2) < p * 2 ^ (52 - p.log2)
  · rw [if_pos h] at hi
    have e : p.log2 + 1 + lift p r = r.log2 := by omega
    calc p * 2 ^ lift p r ≤ 2 ^ (p.log2 + 1) * 2 ^ lift p r := Nat.mul_le_mul_right _ (by omega)
      _ = 2 ^ r.log2 := by rw [← Nat.pow_add, e]
      _ ≤ r := b1
  · rw [if_neg h] at hi
    have e : r.log2 = p.log2 + lift p r := by omega
    have h3 : p * 2 ^ (52 - p.log2) ≤ r * 2 ^ (52 - r.log2) := by omega
    have e2 : 52 - p.log2 = lift p r + (52 - r.log2) := by omega
    rw [e2, Nat.pow_add, ← Nat.mul_assoc] at h3
    exact Nat.le_of_mul_le_mul_right h3 (Nat.two_pow_pos _)
theorem fl_lift {p d : Nat} (hp : 0 < p) (h2 : p * 2 ^ d < 2 ^ 53) : fl false (p * 2 ^ d) = 2 ^ 52 * (ex p + d) + lo p := by
  have hp2 : p < 2 ^ 53 := Nat.lt_of_le_of_lt (Nat.le_mul_of_pos_right _ (Nat.two_pow_pos _)) h2
  have h0 : 0 < p * 2 ^ d := Nat.mul_pos hp (Nat.two_pow_pos _)
  rw [fl_ex h0 h2]
  have hl := log2_mul_pow (k := d) hp
  have h52 := log2_lt53 h0 h2
  have e1 : ex (p * 2 ^ d) = ex p + d := by unfold ex; omega
  have e2 : lo (p * 2 ^ d) = lo p := by
    unfold lo
    rw [hl, Nat.mul_assoc, ← Nat.pow_add, show d + (52 - (p.log2 + d)) = 52 - p.log2 by omega]
  rw [e1, e2]
theorem rem_round {p r d : Nat} (h : p * 2 ^ d ≤ r) : (r - p * 2 ^ d) % p = r % p := by
  have : r = (r - p * 2 ^ d) + p * 2 ^ d := by omega
  conv => rhs; rw [this]
  rw [Nat.add_mul_mod_self_left]
end Go.Fl
end
section
set_option linter.unusedVariables false
set_option linter.unusedSimpArgs false
namespace Go.Fl
open Ieee Go.Av
abbrev F (s : Bool) (n : Nat) : AV := .sc (.float .f64 (fl s n))
theorem fl00 : fl false 0 = 0 := by rw [fl_zero]; rfl
theorem wrap_u64 (n : Nat) (h : n < 2 ^ 64) : IntKind.u64.wrap (n : Int) = (n : Int) := by
  exact IntWalk.u64_in _ ⟨by omega, by omega⟩
theorem bv_nat (a : Nat) (h : a < 2 ^ 64) : (BitVec.ofInt 64 (a : Int)).toNat = a := by
  rw [BitVec.ofInt_natCast, BitVec.toNat_ofNat, Nat.mod_eq_of_lt h]
theorem w_and (a b : Nat) (ha : a < 2 ^ 64) (hb : b < 2 ^ 64) : IntKind.u64.wrap ((BitVec.ofInt 64 (a : Int) &&& BitVec.ofInt 64 (b : Int)).toNat : Int) = ((a &&& b : Nat) : Int) := by
  rw [BitVec.toNat_and, bv_nat a ha, bv_nat b hb]
  exact wrap_u64 _ (Nat.lt_of_le_of_lt Nat.and_le_left ha)
theorem w_or (a b : Nat) (ha : a < 2 ^ 64) (hb : b < 2 ^ 64) : IntKind.u64.wrap ((BitVec.ofInt 64 (a : Int) ||| BitVec.ofInt 64 (b : Int)).toNat : Int) = ((a ||| b : Nat) : Int) := by
  rw [BitVec.toNat_or, bv_nat a ha, bv_nat b hb]
  exact wrap_u64 _ (Nat.or_lt_two_pow ha hb)
theorem w_not (a b c : Nat) (ha : a < 2 ^ 64) (hc : (~~~(BitVec.ofInt 64 (b : Int))).toNat = c) : IntKind.u64.wrap ((BitVec.ofInt 64 (a : Int) &&& ~~~(BitVec.ofInt 64 (b : Int))).toNat : Int) = ((a &&& c : Nat) : Int) := by
  rw [BitVec.toNat_and, bv_nat a ha, hc]
  exact wrap_u64 _ (Nat.lt_of_le_of_lt Nat.and_le_left ha)
theorem w_abs {n : Nat} (s : Bool) (h : n < 2 ^ 53) : IntKind.u64.wrap ((BitVec.ofInt 64 (fl s n : Int) &&& ~~~(BitVec.ofInt 64 9223372036854775808)).toNat : Int) = (fl false n : Int) := by
  have := w_not (fl s n) 9223372036854775808 9223372036854775807 (fl_lt s h) (by decide)
  rw [abs_fl s h] at this
  exact this
theorem w_clear {f l : Nat} (hf : f < 2 ^ 11) (hl : l < 2 ^ 52) : IntKind.u64.wrap ((BitVec.ofInt 64 ((2 ^ 52 * f + l : Nat) : Int) &&& ~~~(BitVec.ofInt 64 9218868437227405312)).toNat : Int) = (l : Int) := by
  have := w_not (2 ^ 52 * f + l) 9218868437227405312 9227875636482146303 (by omega) (by decide)
  rw [clear_exp hf hl] at this
  exact this
theorem m_abs {n : Nat} (s : Bool) (h : n < 2 ^ 53) : notI .u64 (fl s n : Int) 9223372036854775808 = (fl false n : Int) := w_abs s h
theorem m_clear {f l : Nat} (hf : f < 2 ^ 11) (hl : l < 2 ^ 52) : notI .u64 ((2 ^ 52 * f + l : Nat) : Int) 9218868437227405312 = (l : Int) := w_clear hf hl
theorem m_exp {f : Nat} (hf : f < 2 ^ 11) : andI .u64 (f : Int) 2047 = (f : Int) := by
  have := w_and f 2047 (by omega) (by decide)
  have e3 : f &&& 2047 = f := by
    have e : (2047 : Nat) = 2 ^ 11 - 1 := by decide
    rw [e, Nat.and_two_pow_sub_one_eq_mod, Nat.mod_eq_of_lt hf]
  rw [e3] at this
  exact this
theorem m_half {l : Nat} (hl : l < 2 ^ 52) : orI .u64 (l : Int) 4602678819172646912 = ((2 ^ 52 * 1022 + l : Nat) : Int) := by
  have := w_or l 4602678819172646912 (by omega) (by decide)
  have e : (4602678819172646912 : Nat) = 2 ^ 52 * 1022 := by decide
  rw [e, set_exp hl] at this
  exact this
theorem ord_fl {m n : Nat} (s t : Bool) (hm : m < 2 ^ 53) (hn : n < 2 ^ 53) : FloatKind.f64.format.order (fl s m) (fl t n) = some (compare (sg s m) (sg t n)) := order_fl s t hm hn
theorem ord_self {n : Nat} (s : Bool) (h : n < 2 ^ 53) : FloatKind.f64.format.order (fl s n) (fl s n) = some .eq := by
  rw [ord_fl s s h h]; simp [compare, compareOfLessAndEq]
theorem ord_zero {n : Nat} (s : Bool) (h : n < 2 ^ 53) : FloatKind.f64.format.order (fl s n) 0 = some (compare (sg s n) 0) := by
  have := ord_fl s false h (show 0 < 2 ^ 53 by decide)
  rw [fl00] at this
  simpa [sg] using this
theorem sg_false (n : Nat) : sg false n = (n : Int) := rfl
theorem sg_true (n : Nat) : sg true n = -(n : Int) := rfl
theorem ord_max {n : Nat} (h : n < 2 ^ 53) : FloatKind.f64.format.order (fl false n) 9218868437227405311 = some .lt := by
  obtain ⟨k, e⟩ := read_fl false h
  have e2 : double.read 9218868437227405311 = .number false 9007199254740991 971 := by decide
  change ((double.read (fl false n)).order (double.read 9218868437227405311)) = _
  rw [e, e2]
  have hb : min (-(k : Int)) 971 = -(k : Int) := by omega
  have e3 : (-(k : Int) - -(k : Int)).toNat = 0 := by omega
  have e4 : ((971 : Int) - -(k : Int)).toNat = 971 + k := by omega
  simp only [Datum.order, hb, e3, e4, signed, Bool.false_eq_true, if_false, Nat.shiftLeft_zero, Option.some.injEq, Nat.shiftLeft_eq, Nat.pow_zero, Nat.mul_one]
  have hlt : n * 2 ^ k < 9007199254740991 * 2 ^ (971 + k) := by
    calc n * 2 ^ k < 2 ^ 53 * 2 ^ k := Nat.mul_lt_mul_of_lt_of_le h (Nat.le_refl _) (Nat.two_pow_pos _)
      _ ≤ 9007199254740991 * (2 * 2 ^ k) := by generalize 2 ^ k = z; omega
      _ ≤ 9007199254740991 * 2 ^ (971 + k) := Nat.mul_le_mul_left _ (by rw [← Nat.pow_succ']; exact Nat.pow_le_pow_right (by omega) (by omega))
  have : (compare ((n * 2 ^ k : Nat) : Int) ((9007199254740991 * 2 ^ (971 + k) : Nat) : Int)) = .lt := by
    generalize n * 2 ^ k = x at hlt
    generalize 9007199254740991 * 2 ^ (971 + k) = y at hlt
    simp only [compare, compareOfLessAndEq, if_pos (show (x : Int) < (y : Int) by omega)]
  exact this
theorem ord_least {n : Nat} (h0 : 0 < n) (h : n < 2 ^ 53) : FloatKind.f64.format.order (fl false n) 4503599627370496 = some .gt := by
  have he := log2_lt53 h0 h
  obtain ⟨m1, m2⟩ := mant h0 h
  have e : double.read (fl false n) = .number false (n * 2 ^ (52 - n.log2)) ((n.log2 : Int) - 52) := by
    rw [fl_bits false h0 h, read_exp false (by omega) m1 m2]
    have : ((n.log2 + 1022 : Nat) : Int) - 1074 = (n.log2 : Int) - 52 := by omega
    rw [this]
  have e2 : double.read 4503599627370496 = .number false 4503599627370496 (-1074) := by decide
  change ((double.read (fl false n)).order (double.read 4503599627370496)) = _
  rw [e, e2]
  have hb : min ((n.log2 : Int) - 52) (-1074) = -1074 := by omega
  have e3 : ((n.log2 : Int) - 52 - -1074).toNat = n.log2 + 1022 := by omega
  have e4 : ((-1074 : Int) - -1074).toNat = 0 := by decide
  simp only [Datum.order, hb, e3, e4, signed, Bool.false_eq_true, if_false, Nat.shiftLeft_zero, Option.some.injEq, Nat.shiftLeft_eq]
  generalize hm : n * 2 ^ (52 - n.log2) = m at m1 m2
  have hlt : 4503599627370496 < m * 2 ^ (n.log2 + 1022) := by
    calc 4503599627370496 < 2 ^ 52 * 2 := by decide
      _ ≤ m * 2 ^ (n.log2 + 1022) := Nat.mul_le_mul m1 (by
          calc 2 = 2 ^ 1 := rfl
            _ ≤ _ := Nat.pow_le_pow_right (by omega) (by omega))
  generalize m * 2 ^ (n.log2 + 1022) = x at hlt
  have h1 : ¬ ((x : Int) < ((4503599627370496 : Nat) : Int)) := by omega
  have h2 : ¬ ((x : Int) = ((4503599627370496 : Nat) : Int)) := by omega
  simp only [compare, compareOfLessAndEq, if_neg h1, if_neg h2]
theorem ord_fr {m n : Nat} (hm : 0 < m) (hm2 : m < 2 ^ 53) (hn : 0 < n) (hn2 : n < 2 ^ 53) : FloatKind.f64.format.order (fr m) (fr n) = some (compare (m * 2 ^ (52 - m.log2)) (n * 2 ^ (52 - n.log2))) := order_fr hm hm2 hn hn2
theorem fb_add {m n : Nat} (s t : Bool) (hm : m < 2 ^ 53) (hn : n < 2 ^ 53) (hT : (sg s m + sg t n).natAbs < 2 ^ 53) : floatBits .add .f64 (fl s m) (fl t n) = some (fl (sumS s t (sg s m + sg t n)) (sg s m + sg t n).natAbs) := add_fl s t hm hn hT
theorem fb_sub {m n : Nat} (s t : Bool) (hm : m < 2 ^ 53) (hn : n < 2 ^ 53) (hT : (sg s m - sg t n).natAbs < 2 ^ 53) : floatBits .sub .f64 (fl s m) (fl t n) = some (fl (sumS s (!t) (sg s m - sg t n)) (sg s m - sg t n).natAbs) := sub_fl s t hm hn hT
theorem fb_mul {m n : Nat} (s t : Bool) (hm : m < 2 ^ 53) (hn : n < 2 ^ 53) (hT : m * n < 2 ^ 53) : floatBits .mul .f64 (fl s m) (fl t n) = some (fl (s ^^ t) (m * n)) := mul_fl s t hm hn hT
theorem fb_nat {m n : Nat} (hn : n ≤ m) (hm : m < 2 ^ 53) : floatBits .sub .f64 (fl false m) (fl false n) = some (fl false (m - n)) := by
  have e : sg false m - sg false n = ((m - n : Nat) : Int) := by simp only [sg_false]; omega
  have := fb_sub (m := m) (n := n) false false hm (by omega) (by rw [e]; simp; omega)
  rw [e] at this
  rw [this, Int.natAbs_natCast]
  have : sumS false (!false) ((m - n : Nat) : Int) = false := by
    unfold sumS
    split
    · rfl
    · simp
  rw [this]
theorem xor_split {i a b x y : Nat} (ha : a < 2 ^ i) (hb : b < 2 ^ i) : (2 ^ i * x + a) ^^^ (2 ^ i * y + b) = 2 ^ i * (x ^^^ y) + (a ^^^ b) := by
  refine Nat.eq_of_testBit_eq fun j => ?_
  have hab : a ^^^ b < 2 ^ i := Nat.xor_lt_two_pow ha hb
  rw [Nat.testBit_xor, Nat.testBit_two_pow_mul_add _ ha, Nat.testBit_two_pow_mul_add _ hb, Nat.testBit_two_pow_mul_add _ hab]
  split <;> simp [Nat.testBit_xor]
theorem neg_fl {n : Nat} (s : Bool) (h : n < 2 ^ 53) : Op.negFloat .f64 (fl s n) = fl (!s) n := by
  obtain ⟨r, hr, e⟩ := fl_word s h
  rw [e, e]
  have hw : double.signWeight = 2 ^ 63 := rfl
  have hr' : r < 2 ^ 63 := by omega
  have key : ∀ x : Nat, (2 ^ 63 * x + r) ^^^ (2 ^ 63 * 1 + 0) = 2 ^ 63 * (x ^^^ 1) + r := fun x => by
    rw [xor_split hr' (by decide)]; simp
  change (double.word s r) ^^^ 2 ^ 63 = double.word (!s) r
  unfold Format.word
  rw [hw]
  cases s
  · have := key 0
    simp only [Nat.mul_zero, Nat.zero_add, Nat.mul_one, Nat.add_zero, Nat.zero_xor] at this
    simpa using this
  · have := key 1
    simp only [Nat.mul_one, Nat.add_zero, Nat.xor_self, Nat.mul_zero, Nat.zero_add] at this
    simpa using this
theorem toInt_nat {n : Nat} (h : n < 2 ^ 53) : floatToIntVal .f64 (fl false n) .i64 = some (n : Int) := by
  unfold floatToIntVal
  have : (FloatKind.f64.decode (fl false n)).toInt .zero = some (sg false n) := toInt_fl false h
  rw [this, sg_false]
  have h1 : IntKind.i64.min = -9223372036854775808 := by decide
  have h2 : IntKind.i64.max = 9223372036854775807 := by decide
  simp only
  rw [if_pos (by rw [h1, h2]; omega)]
theorem ofInt_nat (n : Nat) : floatOfInt .f64 (n : Int) = fl false n := by
  unfold floatOfInt FloatKind.nearest fl
  have h1 : decide ((n : Int) < 0) = false := by simp
  rw [h1, Int.natAbs_natCast]; rfl
theorem m_exp' {f : Nat} (hf : f < 2 ^ 11) : andI .i64 (f : Int) 2047 = (f : Int) := by
  have e3 : f &&& 2047 = f := by
    have e : (2047 : Nat) = 2 ^ 11 - 1 := by decide
    rw [e, Nat.and_two_pow_sub_one_eq_mod, Nat.mod_eq_of_lt hf]
  have e1 : (BitVec.ofInt 64 (f : Int) &&& BitVec.ofInt 64 2047).toNat = f := by
    rw [BitVec.toNat_and, bv_nat f (by omega), show (BitVec.ofInt 64 2047).toNat = 2047 by decide, e3]
  have := congrArg (fun x : Nat => IntKind.i64.wrap (x : Int)) e1
  refine Eq.trans this ?_
  exact IntWalk.i64_in _ (by omega)
theorem m_set {k l : Nat} (hk : k < 2 ^ 11) (hl : l < 2 ^ 52) : orI .u64 (l : Int) ((2 ^ 52 * k : Nat) : Int) = ((2 ^ 52 * k + l : Nat) : Int) := by
  have := w_or l (2 ^ 52 * k) (by omega) (by omega)
  rw [set_exp hl] at this
  exact this
theorem m_shl {k : Nat} (hk : k < 2 ^ 11) : IntKind.u64.wrap ((k : Int) * 2 ^ (min (52 : Int).toNat 64)) = ((2 ^ 52 * k : Nat) : Int) := by
  have e3 : (2 : Int) ^ (min (52 : Int).toNat 64) = 4503599627370496 := by decide
  have e4 : (2 : Nat) ^ 52 = 4503599627370496 := by decide
  rw [e3, e4]
  rw [IntWalk.u64_in _ (by omega)]; omega
theorem m_shr {f l : Nat} (hl : l < 2 ^ 52) : ((2 ^ 52 * f + l : Nat) : Int).fdiv (2 ^ (min (52 : Int).toNat 64)) = (f : Int) := by
  have e3 : (2 : Int) ^ (min (52 : Int).toNat 64) = 4503599627370496 := by decide
  have e4 : (2 : Nat) ^ 52 = 4503599627370496 := by decide
  rw [e4] at hl ⊢
  rw [e3, Int.fdiv_eq_ediv_of_nonneg _ (by decide)]
  omega
theorem fl_one : fl false 1 = 4607182418800017408 := by
  rw [fl_bits false (by decide) (by decide)]; decide
theorem mul_one' {n : Nat} (h : n < 2 ^ 53) : floatBits .mul .f64 4607182418800017408 (fl false n) = some (fl false n) := by
  have := fb_mul (m := 1) (n := n) false false (by decide) h (by omega)
  rw [fl_one, Nat.one_mul] at this
  exact this
end Go.Fl
end
section
set_option linter.unusedSimpArgs false
set_option linter.unusedVariables false
set_option maxRecDepth 10000
namespace Go.Proofs.YtkcgpcbpieofnaaGreatDoor.Fl
open Go Go.Av Go.Proofs Go.Proofs.YtkcgpcbpieofnaaGreatDoor.C Go.Fl
theorem abs_p (s : Bool) {n : Nat} (h : n < 2 ^ 53) : PCalls Tryz.prog 239 [F s n] (F false n) := by
  refine f239.pcalls0 (by simp) rfl rfl ?_
  unfold c239
  have w1 := m_abs s h
  repeat (first
    | ((first | apply Wp.seqItemsR | apply Wp.itemsR); (· simp only [go_sem, reduceIte, Nat.reduceEqDiff, Nat.reduceAdd, bx, ax, if_true, if_false, Nat.reduceMul, Nat.reduceLeDiff, w1, Int.toNat_natCast]; exact rfl))
    | (refine WpItems.nil ⟨?_, ?_⟩; (· first | trivial | simp [pairsQ, pairsOk, apart, ent0]))
    | (apply Wp.cond_lit; (· simp only [go_sem, reduceIte, Nat.reduceEqDiff, Nat.reduceAdd, bx, ax, if_true, if_false, Nat.reduceMul, Nat.reduceLeDiff, w1, Int.toNat_natCast]; exact rfl); (· rfl))
    | refine Wp.skip ?_
    | refine Wp.label ?_
    | refine Wp.block ?_
    | refine Wp.exit ?_
    | refine Wp.seq ?_)
  refine Wp.ret ⟨trivial, _, rfl, ?_⟩
  simp only [go_sem, reduceIte, Nat.reduceEqDiff, Nat.reduceAdd, bx]
  exact VSub.refl _
theorem nan_p (s : Bool) {n : Nat} (h : n < 2 ^ 53) : PCalls Tryz.prog 237 [F s n] (.bool false) := by
  refine f237.pcalls0 (by simp) rfl rfl ?_
  unfold c237
  have w1 := ord_self s h
  repeat (first
    | ((first | apply Wp.seqItemsR | apply Wp.itemsR); (· simp only [go_sem, reduceIte, Nat.reduceEqDiff, Nat.reduceAdd, bx, ax, if_true, if_false, Nat.reduceMul, Nat.reduceLeDiff, w1, bne_self_eq_false]; exact rfl))
    | (refine WpItems.nil ⟨?_, ?_⟩; (· first | trivial | simp [pairsQ, pairsOk, apart, ent0]))
    | (apply Wp.cond_lit; (· simp only [go_sem, reduceIte, Nat.reduceEqDiff, Nat.reduceAdd, bx, ax, if_true, if_false, Nat.reduceMul, Nat.reduceLeDiff, w1, bne_self_eq_false]; exact rfl); (· rfl))
    | refine Wp.skip ?_
    | refine Wp.label ?_
    | refine Wp.block ?_
    | refine Wp.exit ?_
    | refine Wp.seq ?_)
  refine Wp.ret ⟨trivial, _, rfl, ?_⟩
  simp only [go_sem, reduceIte, Nat.reduceEqDiff, Nat.reduceAdd, bx]
  exact VSub.refl _
theorem inf_p (s : Bool) {n : Nat} (h : n < 2 ^ 53) : PCalls Tryz.prog 236 [F s n, .int .i64 0] (.bool false) := by
  refine f236.pcalls0 (by simp) rfl rfl ?_
  unfold c236
  have w1 : (FloatKind.f64.format.order (fl false n) 9218868437227405311 == some Ordering.gt) = false := by rw [ord_max h]; rfl
  repeat (first
    | ((first | apply Wp.seqItemsR | apply Wp.itemsR | ((first
        | (refine WpItems.pcall ?_ ?_ (abs_p s h) ?_; (· simp only [go_sem, reduceIte, Nat.reduceEqDiff, Nat.reduceAdd, bx]); (· simp only [go_sem, reduceIte, Nat.reduceEqDiff, Nat.reduceAdd, bx, List.map]; first | exact VSubs.refl _ | (repeat (first | exact VSubs.nil | refine VSubs.cons (by first | exact VSub.refl _ | assumption | exact VSub.cap | exact VSub.any _) ?_))))); apply WpItems.evR)); (· simp only [go_sem, reduceIte, Nat.reduceEqDiff, Nat.reduceAdd, bx, ax, if_true, if_false, Nat.reduceMul, Nat.reduceLeDiff, w1, decide_true]; exact rfl))
    | (refine WpItems.nil ⟨?_, ?_⟩; (· first | trivial | simp [pairsQ, pairsOk, apart, ent0]))
    | (apply Wp.cond_lit; (· simp only [go_sem, reduceIte, Nat.reduceEqDiff, Nat.reduceAdd, bx, ax, if_true, if_false, Nat.reduceMul, Nat.reduceLeDiff, w1, decide_true]; exact rfl); (· rfl))
    | refine Wp.skip ?_
    | refine Wp.label ?_
    | refine Wp.block ?_
    | refine Wp.exit ?_
    | refine Wp.seq ?_)
  refine Wp.ret ⟨trivial, _, rfl, ?_⟩
  simp only [go_sem, reduceIte, Nat.reduceEqDiff, Nat.reduceAdd, bx]
  exact VSub.refl _
theorem norm_p {n : Nat} (h0 : 0 < n) (h : n < 2 ^ 53) : PCalls Tryz.prog 259 [F false n] (.tup [F false n, .int .i64 0]) := by
  refine f259.pcalls0 (by simp) rfl rfl ?_
  unfold c259
  have w1 : (FloatKind.f64.format.order (fl false n) 4503599627370496 == some Ordering.lt) = false := by rw [ord_least h0 h]; rfl
  repeat (first
    | ((first | apply Wp.seqItemsR | apply Wp.itemsR | ((first
        | (refine WpItems.pcall ?_ ?_ (abs_p false h) ?_; (· simp only [go_sem, reduceIte, Nat.reduceEqDiff, Nat.reduceAdd, bx]); (· simp only [go_sem, reduceIte, Nat.reduceEqDiff, Nat.reduceAdd, bx, List.map]; first | exact VSubs.refl _ | (repeat (first | exact VSubs.nil | refine VSubs.cons (by first | exact VSub.refl _ | assumption | exact VSub.cap | exact VSub.any _) ?_))))); apply WpItems.evR)); (· simp only [go_sem, reduceIte, Nat.reduceEqDiff, Nat.reduceAdd, bx, ax, if_true, if_false, Nat.reduceMul, Nat.reduceLeDiff, w1]; exact rfl))
    | (refine WpItems.nil ⟨?_, ?_⟩; (· first | trivial | simp [pairsQ, pairsOk, apart, ent0]))
    | (apply Wp.cond_lit; (· simp only [go_sem, reduceIte, Nat.reduceEqDiff, Nat.reduceAdd, bx, ax, if_true, if_false, Nat.reduceMul, Nat.reduceLeDiff, w1]; exact rfl); (· rfl))
    | refine Wp.skip ?_
    | refine Wp.label ?_
    | refine Wp.block ?_
    | refine Wp.exit ?_
    | refine Wp.seq ?_)
  refine Wp.ret ⟨trivial, _, rfl, ?_⟩
  simp only [go_sem, reduceIte, Nat.reduceEqDiff, Nat.reduceAdd, bx]
  exact VSub.refl _
theorem ex_pos {n : Nat} (h0 : 0 < n) (h : n < 2 ^ 53) : 1023 ≤ ex n ∧ ex n ≤ 1075 := by
  have := log2_lt53 h0 h; unfold ex; omega
theorem frexp_p {n : Nat} (h0 : 0 < n) (h : n < 2 ^ 53) : PCalls Tryz.prog 251 [F false n] (.tup [.sc (.float .f64 (fr n)), .int .i64 ((n.log2 : Int) + 1)]) := by
  refine f251.pcalls0 (by simp) rfl rfl ?_
  unfold c251
  have hl := log2_lt53 h0 h
  obtain ⟨e1, e2⟩ := ex_pos h0 h
  have hlo := lo_lt h0 h
  have hx := ex_lt h0 h
  have w0 : (FloatKind.f64.format.order (fl false n) 0 == some Ordering.eq) = false := by
    rw [ord_zero false h, sg_false]
    have : compare (n : Int) 0 = .gt := by simp only [compare, compareOfLessAndEq, if_neg (show ¬ (n : Int) < 0 by omega), if_neg (show ¬ (n : Int) = 0 by omega)]
    rw [this]; rfl
  have wb := fl_ex h0 h
  have w1 := m_shr (f := ex n) hlo
  rw [← wb] at w1
  have w2 := m_exp hx
  have w3 : IntKind.i64.wrap ((ex n : Nat) : Int) = ((ex n : Nat) : Int) := IntWalk.i64_in _ (by omega)
  have w4 : IntKind.i64.wrap (((ex n : Nat) : Int) - 1023) = (n.log2 : Int) := by rw [IntWalk.i64_in _ (by omega)]; unfold ex; omega
  have w5 : IntKind.i64.wrap ((n.log2 : Int) + 1) = (n.log2 : Int) + 1 := IntWalk.i64_in _ (by omega)
  have w6 : IntKind.i64.wrap (0 + ((n.log2 : Int) + 1)) = (n.log2 : Int) + 1 := by rw [IntWalk.i64_in _ (by omega)]; omega
  have w7 := m_clear hx hlo
  rw [← wb] at w7
  have w8 := m_half hlo
  rw [← fr.eq_1] at w8
  repeat (first
    | ((first | apply Wp.seqItemsR | apply Wp.itemsR | ((first
        | (refine WpItems.pcall ?_ ?_ (inf_p false h) ?_; (· simp only [go_sem, reduceIte, Nat.reduceEqDiff, Nat.reduceAdd, bx]); (· simp only [go_sem, reduceIte, Nat.reduceEqDiff, Nat.reduceAdd, bx, List.map]; first | exact VSubs.refl _ | (repeat (first | exact VSubs.nil | refine VSubs.cons (by first | exact VSub.refl _ | assumption | exact VSub.cap | exact VSub.any _) ?_))))
        | (refine WpItems.pcall ?_ ?_ (nan_p false h) ?_; (· simp only [go_sem, reduceIte, Nat.reduceEqDiff, Nat.reduceAdd, bx]); (· simp only [go_sem, reduceIte, Nat.reduceEqDiff, Nat.reduceAdd, bx, List.map]; first | exact VSubs.refl _ | (repeat (first | exact VSubs.nil | refine VSubs.cons (by first | exact VSub.refl _ | assumption | exact VSub.cap | exact VSub.any _) ?_))))
        | (refine WpItems.pcall ?_ ?_ (norm_p h0 h) ?_; (· simp only [go_sem, reduceIte, Nat.reduceEqDiff, Nat.reduceAdd, bx]); (· simp only [go_sem, reduceIte, Nat.reduceEqDiff, Nat.reduceAdd, bx, List.map]; first | exact VSubs.refl _ | (repeat (first | exact VSubs.nil | refine VSubs.cons (by first | exact VSub.refl _ | assumption | exact VSub.cap | exact VSub.any _) ?_))))); apply WpItems.evR)); (· simp only [go_sem, reduceIte, Nat.reduceEqDiff, Nat.reduceAdd, bx, ax, if_true, if_false, Nat.reduceMul, Nat.reduceLeDiff, w0, w1, w2, w3, w4, w5, w6, w7, w8, Int.toNat_natCast]; exact rfl))
    | (refine WpItems.nil ⟨?_, ?_⟩; (· first | trivial | simp [pairsQ, pairsOk, apart, ent0]))
    | (apply Wp.cond_lit; (· simp only [go_sem, reduceIte, Nat.reduceEqDiff, Nat.reduceAdd, bx, ax, if_true, if_false, Nat.reduceMul, Nat.reduceLeDiff, w0, w1, w2, w3, w4, w5, w6, w7, w8, Int.toNat_natCast]; exact rfl); (· rfl))
    | refine Wp.skip ?_
    | refine Wp.label ?_
    | refine Wp.block ?_
    | refine Wp.exit ?_
    | refine Wp.seq ?_)
  refine Wp.ret ⟨trivial, _, rfl, ?_⟩
  simp only [go_sem, reduceIte, Nat.reduceEqDiff, Nat.reduceAdd, bx]
  exact VSub.refl _
theorem Frexp_p {n : Nat} (h0 : 0 < n) (h : n < 2 ^ 53) : PCalls Tryz.prog 240 [F false n] (.tup [.sc (.float .f64 (fr n)), .int .i64 ((n.log2 : Int) + 1)]) := by
  refine f240.pcalls0 (by simp) rfl rfl ?_
  unfold c240
  repeat (first
    | ((first | apply Wp.seqItemsR | apply Wp.itemsR | ((first
        | (refine WpItems.pcall ?_ ?_ (frexp_p h0 h) ?_; (· simp only [go_sem, reduceIte, Nat.reduceEqDiff, Nat.reduceAdd, bx]); (· simp only [go_sem, reduceIte, Nat.reduceEqDiff, Nat.reduceAdd, bx, List.map]; first | exact VSubs.refl _ | (repeat (first | exact VSubs.nil | refine VSubs.cons (by first | exact VSub.refl _ | assumption | exact VSub.cap | exact VSub.any _) ?_))))); apply WpItems.evR)); (· simp only [go_sem, reduceIte, Nat.reduceEqDiff, Nat.reduceAdd, bx, ax, if_true, if_false, Nat.reduceMul, Nat.reduceLeDiff]; exact rfl))
    | (refine WpItems.nil ⟨?_, ?_⟩; (· first | trivial | simp [pairsQ, pairsOk, apart, ent0]))
    | (apply Wp.cond_lit; (· simp only [go_sem, reduceIte, Nat.reduceEqDiff, Nat.reduceAdd, bx, ax, if_true, if_false, Nat.reduceMul, Nat.reduceLeDiff]; exact rfl); (· rfl))
    | refine Wp.skip ?_
    | refine Wp.label ?_
    | refine Wp.block ?_
    | refine Wp.exit ?_
    | refine Wp.seq ?_)
  refine Wp.ret ⟨trivial, _, rfl, ?_⟩
  simp only [go_sem, reduceIte, Nat.reduceEqDiff, Nat.reduceAdd, bx]
  exact VSub.refl _
theorem ldexp_p {p d : Nat} (h0 : 0 < p) (h : p * 2 ^ d < 2 ^ 53) : PCalls Tryz.prog 253 [F false p, .int .i64 (d : Int)] (F false (p * 2 ^ d)) := by
  have hp : p < 2 ^ 53 := Nat.lt_of_le_of_lt (Nat.le_mul_of_pos_right _ (Nat.two_pow_pos _)) h
  have hq0 : 0 < p * 2 ^ d := Nat.mul_pos h0 (Nat.two_pow_pos _)
  have hl := log2_lt53 hq0 h
  rw [log2_mul_pow h0] at hl
  obtain ⟨e1, e2⟩ := ex_pos h0 hp
  have hlo := lo_lt h0 hp
  have hx := ex_lt h0 hp
  have hex : ex p = p.log2 + 1023 := rfl
  refine f253.pcalls0 (by simp) rfl rfl ?_
  unfold c253
  have w0 : (FloatKind.f64.format.order (fl false p) 0 == some Ordering.eq) = false := by
    rw [ord_zero false hp, sg_false]
    have : compare (p : Int) 0 = .gt := by simp only [compare, compareOfLessAndEq, if_neg (show ¬ (p : Int) < 0 by omega), if_neg (show ¬ (p : Int) = 0 by omega)]
    rw [this]; rfl
  have wb := fl_ex h0 hp
  have w1 := m_shr (f := ex p) hlo
  rw [← wb] at w1
  have w2 := m_exp' hx
  have w3 : IntKind.i64.wrap ((ex p : Nat) : Int) = ((ex p : Nat) : Int) := IntWalk.i64_in _ (by omega)
  have w4 : IntKind.i64.wrap (((ex p : Nat) : Int) - 1023) = (p.log2 : Int) := by rw [IntWalk.i64_in _ (by omega)]; omega
  have w5 : IntKind.i64.wrap ((d : Int) + 0) = (d : Int) := by rw [IntWalk.i64_in _ (by omega)]; omega
  have w6 : IntKind.i64.wrap ((d : Int) + (p.log2 : Int)) = ((p.log2 + d : Nat) : Int) := by rw [IntWalk.i64_in _ (by omega)]; omega
  have d1 := decide_eq_false (show ¬ ((p.log2 + d : Nat) : Int) < -1075 by omega)
  have d2 := decide_eq_false (show ¬ (1023 : Int) < ((p.log2 + d : Nat) : Int) by omega)
  have d3 := decide_eq_false (show ¬ ((p.log2 + d : Nat) : Int) < -1022 by omega)
  have w7 := m_clear hx hlo
  rw [← wb] at w7
  have w8 : IntKind.i64.wrap (((p.log2 + d : Nat) : Int) + 1023) = ((ex p + d : Nat) : Int) := by rw [IntWalk.i64_in _ (by omega)]; omega
  have w9 : IntKind.u64.wrap ((ex p + d : Nat) : Int) = ((ex p + d : Nat) : Int) := IntWalk.u64_in _ (by omega)
  have hxd : ex p + d < 2 ^ 11 := by omega
  have wa := m_shl hxd
  have wc := m_set hxd hlo
  rw [← fl_lift h0 h] at wc
  have wd := mul_one' h
  have c1 := inf_p false hp
  have c2 := nan_p false hp
  have c3 := norm_p h0 hp
  clear wb hex hlo hx hxd h0 h hp hq0 hl e1 e2
  simp only [F] at c1 c2 c3 ⊢
  generalize fl false (p * 2 ^ d) = z at wc wd ⊢
  generalize fl false p = y at w0 w1 w7 c1 c2 c3 ⊢
  generalize lo p = l at w7 wc
  generalize 2 ^ 52 * (ex p + d) = sh at wa wc
  generalize ex p + d = ed at w8 w9 wa
  generalize ex p = ep at w1 w2 w3 w4
  generalize p.log2 + d = pd at w6 w8 d1 d2 d3
  generalize p.log2 = pl at w4 w6
  repeat (first
    | ((first | apply Wp.seqItemsR | apply Wp.itemsR | ((first
        | (refine WpItems.pcall ?_ ?_ (c1) ?_; (· simp only [go_sem, reduceIte, Nat.reduceEqDiff, Nat.reduceAdd, bx]); (· simp only [go_sem, reduceIte, Nat.reduceEqDiff, Nat.reduceAdd, bx, List.map]; first | exact VSubs.refl _ | (repeat (first | exact VSubs.nil | refine VSubs.cons (by first | exact VSub.refl _ | assumption | exact VSub.cap | exact VSub.any _) ?_))))
        | (refine WpItems.pcall ?_ ?_ (c2) ?_; (· simp only [go_sem, reduceIte, Nat.reduceEqDiff, Nat.reduceAdd, bx]); (· simp only [go_sem, reduceIte, Nat.reduceEqDiff, Nat.reduceAdd, bx, List.map]; first | exact VSubs.refl _ | (repeat (first | exact VSubs.nil | refine VSubs.cons (by first | exact VSub.refl _ | assumption | exact VSub.cap | exact VSub.any _) ?_))))
        | (refine WpItems.pcall ?_ ?_ (c3) ?_; (· simp only [go_sem, reduceIte, Nat.reduceEqDiff, Nat.reduceAdd, bx]); (· simp only [go_sem, reduceIte, Nat.reduceEqDiff, Nat.reduceAdd, bx, List.map]; first | exact VSubs.refl _ | (repeat (first | exact VSubs.nil | refine VSubs.cons (by first | exact VSub.refl _ | assumption | exact VSub.cap | exact VSub.any _) ?_))))); apply WpItems.evR)); (· simp only [go_sem, reduceIte, Nat.reduceEqDiff, Nat.reduceAdd, bx, ax, if_true, if_false, Nat.reduceMul, Nat.reduceLeDiff, w0, w1, w2, w3, w4, w5, w6, w7, w8, w9, wa, wc, d1, d2, d3, Int.toNat_natCast, Option.map_some]; exact rfl))
    | (refine WpItems.nil ⟨?_, ?_⟩; (· first | trivial | simp [pairsQ, pairsOk, apart, ent0]))
    | (apply Wp.cond_lit; (· simp only [go_sem, reduceIte, Nat.reduceEqDiff, Nat.reduceAdd, bx, ax, if_true, if_false, Nat.reduceMul, Nat.reduceLeDiff, w0, w1, w2, w3, w4, w5, w6, w7, w8, w9, wa, wc, d1, d2, d3, Int.toNat_natCast, Option.map_some]; exact rfl); (· rfl))
    | refine Wp.skip ?_
    | refine Wp.label ?_
    | refine Wp.block ?_
    | refine Wp.exit ?_
    | refine Wp.seq ?_)
  refine Wp.le (s' := ⟨tm [(6, .int .u64 (z : Int)), (7, .sc (.float .f64 4607182418800017408))], H0 0 0⟩) ?_ ?_
  · refine StLe.of (tm_le ?_) (fun j o h => ⟨o, h, OSub.refl _⟩) (fun _ h => h) (Nat.le_refl _) (Nat.le_refl _)
    simp only [AllSub, go_sem, reduceIte, Nat.reduceEqDiff, Nat.reduceAdd, bx]; and_intros <;> first | exact trivial | exact VSub.refl _ | exact VSub.any _ | (refine VSub.int ?_; omega)
  clear w0 w1 w2 w3 w4 w5 w6 w7 w8 w9 wa wc d1 d2 d3 c1 c2 c3
  repeat (first
    | ((first | apply Wp.seqItemsR | apply Wp.itemsR); (· simp only [go_sem, reduceIte, Nat.reduceEqDiff, Nat.reduceAdd, bx, ax, if_true, if_false, Nat.reduceMul, Nat.reduceLeDiff, wd, Int.toNat_natCast, Option.map_some]; exact rfl))
    | (refine WpItems.nil ⟨?_, ?_⟩; (· first | trivial | simp [pairsQ, pairsOk, apart, ent0]))
    | (apply Wp.cond_lit; (· simp only [go_sem, reduceIte, Nat.reduceEqDiff, Nat.reduceAdd, bx, ax, if_true, if_false, Nat.reduceMul, Nat.reduceLeDiff, wd, Int.toNat_natCast, Option.map_some]; exact rfl); (· rfl))
    | refine Wp.skip ?_
    | refine Wp.label ?_
    | refine Wp.block ?_
    | refine Wp.exit ?_
    | refine Wp.seq ?_)
  refine Wp.ret ⟨trivial, _, rfl, ?_⟩
  simp only [go_sem, reduceIte, Nat.reduceEqDiff, Nat.reduceAdd, bx]
  exact VSub.refl _
theorem Ldexp_p {p d : Nat} (h0 : 0 < p) (h : p * 2 ^ d < 2 ^ 53) : PCalls Tryz.prog 241 [F false p, .int .i64 (d : Int)] (F false (p * 2 ^ d)) := by
  refine f241.pcalls0 (by simp) rfl rfl ?_
  unfold c241
  repeat (first
    | ((first | apply Wp.seqItemsR | apply Wp.itemsR | ((first
        | (refine WpItems.pcall ?_ ?_ (ldexp_p h0 h) ?_; (· simp only [go_sem, reduceIte, Nat.reduceEqDiff, Nat.reduceAdd, bx]); (· simp only [go_sem, reduceIte, Nat.reduceEqDiff, Nat.reduceAdd, bx, List.map]; first | exact VSubs.refl _ | (repeat (first | exact VSubs.nil | refine VSubs.cons (by first | exact VSub.refl _ | assumption | exact VSub.cap | exact VSub.any _) ?_))))); apply WpItems.evR)); (· simp only [go_sem, reduceIte, Nat.reduceEqDiff, Nat.reduceAdd, bx, ax, if_true, if_false, Nat.reduceMul, Nat.reduceLeDiff]; exact rfl))
    | (refine WpItems.nil ⟨?_, ?_⟩; (· first | trivial | simp [pairsQ, pairsOk, apart, ent0]))
    | (apply Wp.cond_lit; (· simp only [go_sem, reduceIte, Nat.reduceEqDiff, Nat.reduceAdd, bx, ax, if_true, if_false, Nat.reduceMul, Nat.reduceLeDiff]; exact rfl); (· rfl))
    | refine Wp.skip ?_
    | refine Wp.label ?_
    | refine Wp.block ?_
    | refine Wp.exit ?_
    | refine Wp.seq ?_)
  refine Wp.ret ⟨trivial, _, rfl, ?_⟩
  simp only [go_sem, reduceIte, Nat.reduceEqDiff, Nat.reduceAdd, bx]
  exact VSub.refl _
theorem cmp_gt {a b : Int} (h : b < a) : compare a b = .gt := by
  simp only [compare, compareOfLessAndEq, if_neg (show ¬ a < b by omega), if_neg (show ¬ a = b by omega)]
theorem cmp_lt {a b : Int} (h : a < b) : compare a b = .lt := by
  simp only [compare, compareOfLessAndEq, if_pos h]
theorem cmp_eq (a : Int) : compare a a = .eq := by simp [compare, compareOfLessAndEq]
theorem ge_yes {m p : Nat} (hm : m < 2 ^ 53) (hp : p < 2 ^ 53) (h : p ≤ m) : (FloatKind.f64.format.order (fl false m) (fl false p) == some .gt || FloatKind.f64.format.order (fl false m) (fl false p) == some .eq) = true := by
  rw [ord_fl false false hm hp, sg_false, sg_false]
  rcases Nat.lt_or_eq_of_le h with h | h
  · rw [cmp_gt (by omega)]; rfl
  · subst h; rw [cmp_eq]; rfl
theorem ge_no {m p : Nat} (hm : m < 2 ^ 53) (hp : p < 2 ^ 53) (h : m < p) : (FloatKind.f64.format.order (fl false m) (fl false p) == some .gt || FloatKind.f64.format.order (fl false m) (fl false p) == some .eq) = false := by
  rw [ord_fl false false hm hp, sg_false, sg_false, cmp_lt (by omega)]; rfl
theorem lt0_no {n : Nat} (h : n < 2 ^ 53) : (FloatKind.f64.format.order (fl false n) 0 == some .lt) = false := by
  rw [ord_zero false h, sg_false]
  rcases Nat.eq_zero_or_pos n with h0 | h0
  · subst h0; rfl
  · rw [cmp_gt (by omega)]; rfl
theorem lt0_yes {n : Nat} (h0 : 0 < n) (h : n < 2 ^ 53) : (FloatKind.f64.format.order (fl true n) 0 == some .lt) = true := by
  rw [ord_zero true h, sg_true, cmp_lt (by omega)]; rfl
theorem lt0_nil : (FloatKind.f64.format.order (fl true 0) 0 == some .lt) = false := by
  rw [ord_zero true (by decide), sg_true]; rfl
theorem eq0_no {n : Nat} (h0 : 0 < n) (h : n < 2 ^ 53) : (FloatKind.f64.format.order (fl false n) 0 == some .eq) = false := by
  rw [ord_zero false h, sg_false, cmp_gt (by omega)]; rfl
theorem fr_lt_yes {m n : Nat} (hm : 0 < m) (hm2 : m < 2 ^ 53) (hn : 0 < n) (hn2 : n < 2 ^ 53) (h : m * 2 ^ (52 - m.log2) < n * 2 ^ (52 - n.log2)) : (FloatKind.f64.format.order (fr m) (fr n) == some .lt) = true := by
  rw [ord_fr hm hm2 hn hn2]
  simp only [compare, compareOfLessAndEq, if_pos h]; rfl
theorem fr_lt_no {m n : Nat} (hm : 0 < m) (hm2 : m < 2 ^ 53) (hn : 0 < n) (hn2 : n < 2 ^ 53) (h : ¬ m * 2 ^ (52 - m.log2) < n * 2 ^ (52 - n.log2)) : (FloatKind.f64.format.order (fr m) (fr n) == some .lt) = false := by
  rw [ord_fr hm hm2 hn hn2]
  simp only [compare, compareOfLessAndEq, if_neg h]
  split <;> rfl
set_option maxHeartbeats 1000000 in
theorem mod_p {p n : Nat} (s : Bool) (h0 : 0 < p) (hp : p < 2 ^ 53) (h : n < 2 ^ 53) (hs : s = true → 0 < n) : PCalls Tryz.prog 221 [F s n, F false p] (F s (n % p)) := by
  refine f221.pcalls0 (by simp) rfl rfl ?_
  unfold c221
  have g0 := eq0_no h0 hp
  have hmod : n % p < 2 ^ 53 := Nat.lt_of_le_of_lt (Nat.mod_le _ _) h
  have g1 : (FloatKind.f64.format.order (fl s n) 0 == some .lt) = s := by
    cases s with
    | false => exact lt0_no h
    | true => exact lt0_yes (hs rfl) h
  cases s with
  | false =>
    repeat (first
      | ((first | apply Wp.seqItemsR | apply Wp.itemsR | ((first
          | (refine WpItems.pcall ?_ ?_ (inf_p false h) ?_; (· simp only [go_sem, reduceIte, Nat.reduceEqDiff, Nat.reduceAdd, bx]); (· simp only [go_sem, reduceIte, Nat.reduceEqDiff, Nat.reduceAdd, bx, List.map]; first | exact VSubs.refl _ | (repeat (first | exact VSubs.nil | refine VSubs.cons (by first | exact VSub.refl _ | assumption | exact VSub.cap | exact VSub.any _) ?_))))
          | (refine WpItems.pcall ?_ ?_ (nan_p false h) ?_; (· simp only [go_sem, reduceIte, Nat.reduceEqDiff, Nat.reduceAdd, bx]); (· simp only [go_sem, reduceIte, Nat.reduceEqDiff, Nat.reduceAdd, bx, List.map]; first | exact VSubs.refl _ | (repeat (first | exact VSubs.nil | refine VSubs.cons (by first | exact VSub.refl _ | assumption | exact VSub.cap | exact VSub.any _) ?_))))
          | (refine WpItems.pcall ?_ ?_ (nan_p false hp) ?_; (· simp only [go_sem, reduceIte, Nat.reduceEqDiff, Nat.reduceAdd, bx]); (· simp only [go_sem, reduceIte, Nat.reduceEqDiff, Nat.reduceAdd, bx, List.map]; first | exact VSubs.refl _ | (repeat (first | exact VSubs.nil | refine VSubs.cons (by first | exact VSub.refl _ | assumption | exact VSub.cap | exact VSub.any _) ?_))))
          | (refine WpItems.pcall ?_ ?_ (abs_p false hp) ?_; (· simp only [go_sem, reduceIte, Nat.reduceEqDiff, Nat.reduceAdd, bx]); (· simp only [go_sem, reduceIte, Nat.reduceEqDiff, Nat.reduceAdd, bx, List.map]; first | exact VSubs.refl _ | (repeat (first | exact VSubs.nil | refine VSubs.cons (by first | exact VSub.refl _ | assumption | exact VSub.cap | exact VSub.any _) ?_))))
          | (refine WpItems.pcall ?_ ?_ (Frexp_p h0 hp) ?_; (· simp only [go_sem, reduceIte, Nat.reduceEqDiff, Nat.reduceAdd, bx]); (· simp only [go_sem, reduceIte, Nat.reduceEqDiff, Nat.reduceAdd, bx, List.map]; first | exact VSubs.refl _ | (repeat (first | exact VSubs.nil | refine VSubs.cons (by first | exact VSub.refl _ | assumption | exact VSub.cap | exact VSub.any _) ?_))))); apply WpItems.evR)); (· simp only [go_sem, reduceIte, Nat.reduceEqDiff, Nat.reduceAdd, bx, ax, if_true, if_false, Nat.reduceMul, Nat.reduceLeDiff, g0, g1]; exact rfl))
      | (refine WpItems.nil ⟨?_, ?_⟩; (· first | trivial | simp [pairsQ, pairsOk, apart, ent0]))
      | (apply Wp.cond_lit; (· simp only [go_sem, reduceIte, Nat.reduceEqDiff, Nat.reduceAdd, bx, ax, if_true, if_false, Nat.reduceMul, Nat.reduceLeDiff, g0, g1]; exact rfl); (· rfl))
      | refine Wp.skip ?_
      | refine Wp.label ?_
      | refine Wp.block ?_
      | refine Wp.exit ?_
      | refine Wp.seq ?_)
    refine Wp.loopK [0, 1, 5, 6] (by simp only [go_sem, reduceIte, Nat.reduceEqDiff, Nat.reduceAdd, bx, List.map]; exact rfl) (fun m : Nat => [(7, F false m)]) (fun m => m ≤ n ∧ m % p = n % p) (fun m => m) n ⟨Nat.le_refl _, rfl⟩ ?_ ?_
    · simp only [AllSub, go_sem, reduceIte, Nat.reduceEqDiff, Nat.reduceAdd, bx]; and_intros <;> first | exact trivial | exact VSub.refl _ | exact VSub.any _ | (refine VSub.int ?_; omega)
    rintro m ⟨hm1, hm2⟩
    have hm : m < 2 ^ 53 := by omega
    by_cases hc : p ≤ m
    · have g2 := ge_yes hm hp hc
      have hm0 : 0 < m := by omega
      have hl := lift_le h0 hc hm
      have hi := lift_int h0 hc hm
      have hq : p * 2 ^ lift p m < 2 ^ 53 := by omega
      have hb := log2_lt53 hm0 hm
      have hbp := log2_lt53 h0 hp
      have hpos : 0 < p * 2 ^ lift p m := Nat.mul_pos h0 (Nat.two_pow_pos _)
      have hsub := fb_nat hl hm
      by_cases hlt : m * 2 ^ (52 - m.log2) < p * 2 ^ (52 - p.log2)
      · have g3 := fr_lt_yes hm0 hm h0 hp hlt
        rw [if_pos hlt] at hi
        have w1 : IntKind.i64.wrap ((m.log2 : Int) + 1 - 1) = (m.log2 : Int) := by rw [IntWalk.i64_in _ (by omega)]; omega
        have w2 : IntKind.i64.wrap ((m.log2 : Int) - ((p.log2 : Int) + 1)) = ((lift p m : Nat) : Int) := by rw [IntWalk.i64_in _ (by omega)]; omega
        repeat (first
          | ((first | apply Wp.seqItemsR | apply Wp.itemsR | ((first
              | (refine WpItems.pcall ?_ ?_ (Frexp_p hm0 hm) ?_; (· simp only [go_sem, reduceIte, Nat.reduceEqDiff, Nat.reduceAdd, bx]); (· simp only [go_sem, reduceIte, Nat.reduceEqDiff, Nat.reduceAdd, bx, List.map]; first | exact VSubs.refl _ | (repeat (first | exact VSubs.nil | refine VSubs.cons (by first | exact VSub.refl _ | assumption | exact VSub.cap | exact VSub.any _) ?_))))
              | (refine WpItems.pcall ?_ ?_ (Ldexp_p h0 hq) ?_; (· simp only [go_sem, reduceIte, Nat.reduceEqDiff, Nat.reduceAdd, bx]); (· simp only [go_sem, reduceIte, Nat.reduceEqDiff, Nat.reduceAdd, bx, List.map]; first | exact VSubs.refl _ | (repeat (first | exact VSubs.nil | refine VSubs.cons (by first | exact VSub.refl _ | assumption | exact VSub.cap | exact VSub.any _) ?_))))); apply WpItems.evR)); (· simp only [go_sem, reduceIte, Nat.reduceEqDiff, Nat.reduceAdd, bx, ax, if_true, if_false, Nat.reduceMul, Nat.reduceLeDiff, g2, g3, w1, w2, hsub, Option.map_some]; exact rfl))
          | (refine WpItems.nil ⟨?_, ?_⟩; (· first | trivial | simp [pairsQ, pairsOk, apart, ent0]))
          | (apply Wp.cond_lit; (· simp only [go_sem, reduceIte, Nat.reduceEqDiff, Nat.reduceAdd, bx, ax, if_true, if_false, Nat.reduceMul, Nat.reduceLeDiff, g2, g3, w1, w2, hsub, Option.map_some]; exact rfl); (· rfl))
          | refine Wp.skip ?_
          | refine Wp.label ?_
          | refine Wp.block ?_
          | refine Wp.exit ?_
          | refine Wp.seq ?_)
        refine ⟨m - p * 2 ^ lift p m, ⟨by omega, by rw [rem_round hl]; exact hm2⟩, by omega, ?_⟩
        refine StLe.tm (by simp only [AllSub, go_sem, reduceIte, Nat.reduceEqDiff, Nat.reduceAdd, bx]; and_intros <;> first | exact trivial | exact VSub.refl _ | exact VSub.any _ | (refine VSub.int ?_; omega))
      · have g3 := fr_lt_no hm0 hm h0 hp hlt
        rw [if_neg hlt] at hi
        have w2 : IntKind.i64.wrap ((m.log2 : Int) + 1 - ((p.log2 : Int) + 1)) = ((lift p m : Nat) : Int) := by rw [IntWalk.i64_in _ (by omega)]; omega
        repeat (first
          | ((first | apply Wp.seqItemsR | apply Wp.itemsR | ((first
              | (refine WpItems.pcall ?_ ?_ (Frexp_p hm0 hm) ?_; (· simp only [go_sem, reduceIte, Nat.reduceEqDiff, Nat.reduceAdd, bx]); (· simp only [go_sem, reduceIte, Nat.reduceEqDiff, Nat.reduceAdd, bx, List.map]; first | exact VSubs.refl _ | (repeat (first | exact VSubs.nil | refine VSubs.cons (by first | exact VSub.refl _ | assumption | exact VSub.cap | exact VSub.any _) ?_))))
              | (refine WpItems.pcall ?_ ?_ (Ldexp_p h0 hq) ?_; (· simp only [go_sem, reduceIte, Nat.reduceEqDiff, Nat.reduceAdd, bx]); (· simp only [go_sem, reduceIte, Nat.reduceEqDiff, Nat.reduceAdd, bx, List.map]; first | exact VSubs.refl _ | (repeat (first | exact VSubs.nil | refine VSubs.cons (by first | exact VSub.refl _ | assumption | exact VSub.cap | exact VSub.any _) ?_))))); apply WpItems.evR)); (· simp only [go_sem, reduceIte, Nat.reduceEqDiff, Nat.reduceAdd, bx, ax, if_true, if_false, Nat.reduceMul, Nat.reduceLeDiff, g2, g3, w2, hsub, Option.map_some]; exact rfl))
          | (refine WpItems.nil ⟨?_, ?_⟩; (· first | trivial | simp [pairsQ, pairsOk, apart, ent0]))
          | (apply Wp.cond_lit; (· simp only [go_sem, reduceIte, Nat.reduceEqDiff, Nat.reduceAdd, bx, ax, if_true, if_false, Nat.reduceMul, Nat.reduceLeDiff, g2, g3, w2, hsub, Option.map_some]; exact rfl); (· rfl))
          | refine Wp.skip ?_
          | refine Wp.label ?_
          | refine Wp.block ?_
          | refine Wp.exit ?_
          | refine Wp.seq ?_)
        refine ⟨m - p * 2 ^ lift p m, ⟨by omega, by rw [rem_round hl]; exact hm2⟩, by omega, ?_⟩
        refine StLe.tm (by simp only [AllSub, go_sem, reduceIte, Nat.reduceEqDiff, Nat.reduceAdd, bx]; and_intros <;> first | exact trivial | exact VSub.refl _ | exact VSub.any _ | (refine VSub.int ?_; omega))
    · have g2 := ge_no hm hp (by omega)
      have e : m = n % p := by rw [← hm2, Nat.mod_eq_of_lt (by omega)]
      repeat (first
        | ((first | apply Wp.seqItemsR | apply Wp.itemsR); (· simp only [go_sem, reduceIte, Nat.reduceEqDiff, Nat.reduceAdd, bx, ax, if_true, if_false, Nat.reduceMul, Nat.reduceLeDiff, g2, g1]; exact rfl))
        | (refine WpItems.nil ⟨?_, ?_⟩; (· first | trivial | simp [pairsQ, pairsOk, apart, ent0]))
        | (apply Wp.cond_lit; (· simp only [go_sem, reduceIte, Nat.reduceEqDiff, Nat.reduceAdd, bx, ax, if_true, if_false, Nat.reduceMul, Nat.reduceLeDiff, g2, g1]; exact rfl); (· rfl))
        | refine Wp.skip ?_
        | refine Wp.label ?_
        | refine Wp.block ?_
        | refine Wp.exit ?_
        | refine Wp.seq ?_)
      refine Wp.ret ⟨trivial, _, rfl, ?_⟩
      simp only [go_sem, reduceIte, Nat.reduceEqDiff, Nat.reduceAdd, bx]
      rw [e]; exact VSub.refl _
  | true =>
    have n1 : Op.negFloat .f64 (fl true n) = fl false n := neg_fl true h
    have n2 : Op.negFloat .f64 (fl false (n % p)) = fl true (n % p) := neg_fl false hmod
    repeat (first
      | ((first | apply Wp.seqItemsR | apply Wp.itemsR | ((first
          | (refine WpItems.pcall ?_ ?_ (inf_p true h) ?_; (· simp only [go_sem, reduceIte, Nat.reduceEqDiff, Nat.reduceAdd, bx]); (· simp only [go_sem, reduceIte, Nat.reduceEqDiff, Nat.reduceAdd, bx, List.map]; first | exact VSubs.refl _ | (repeat (first | exact VSubs.nil | refine VSubs.cons (by first | exact VSub.refl _ | assumption | exact VSub.cap | exact VSub.any _) ?_))))
          | (refine WpItems.pcall ?_ ?_ (nan_p true h) ?_; (· simp only [go_sem, reduceIte, Nat.reduceEqDiff, Nat.reduceAdd, bx]); (· simp only [go_sem, reduceIte, Nat.reduceEqDiff, Nat.reduceAdd, bx, List.map]; first | exact VSubs.refl _ | (repeat (first | exact VSubs.nil | refine VSubs.cons (by first | exact VSub.refl _ | assumption | exact VSub.cap | exact VSub.any _) ?_))))
          | (refine WpItems.pcall ?_ ?_ (nan_p false hp) ?_; (· simp only [go_sem, reduceIte, Nat.reduceEqDiff, Nat.reduceAdd, bx]); (· simp only [go_sem, reduceIte, Nat.reduceEqDiff, Nat.reduceAdd, bx, List.map]; first | exact VSubs.refl _ | (repeat (first | exact VSubs.nil | refine VSubs.cons (by first | exact VSub.refl _ | assumption | exact VSub.cap | exact VSub.any _) ?_))))
          | (refine WpItems.pcall ?_ ?_ (abs_p false hp) ?_; (· simp only [go_sem, reduceIte, Nat.reduceEqDiff, Nat.reduceAdd, bx]); (· simp only [go_sem, reduceIte, Nat.reduceEqDiff, Nat.reduceAdd, bx, List.map]; first | exact VSubs.refl _ | (repeat (first | exact VSubs.nil | refine VSubs.cons (by first | exact VSub.refl _ | assumption | exact VSub.cap | exact VSub.any _) ?_))))
          | (refine WpItems.pcall ?_ ?_ (Frexp_p h0 hp) ?_; (· simp only [go_sem, reduceIte, Nat.reduceEqDiff, Nat.reduceAdd, bx]); (· simp only [go_sem, reduceIte, Nat.reduceEqDiff, Nat.reduceAdd, bx, List.map]; first | exact VSubs.refl _ | (repeat (first | exact VSubs.nil | refine VSubs.cons (by first | exact VSub.refl _ | assumption | exact VSub.cap | exact VSub.any _) ?_))))); apply WpItems.evR)); (· simp only [go_sem, reduceIte, Nat.reduceEqDiff, Nat.reduceAdd, bx, ax, if_true, if_false, Nat.reduceMul, Nat.reduceLeDiff, g0, g1, n1]; exact rfl))
      | (refine WpItems.nil ⟨?_, ?_⟩; (· first | trivial | simp [pairsQ, pairsOk, apart, ent0]))
      | (apply Wp.cond_lit; (· simp only [go_sem, reduceIte, Nat.reduceEqDiff, Nat.reduceAdd, bx, ax, if_true, if_false, Nat.reduceMul, Nat.reduceLeDiff, g0, g1, n1]; exact rfl); (· rfl))
      | refine Wp.skip ?_
      | refine Wp.label ?_
      | refine Wp.block ?_
      | refine Wp.exit ?_
      | refine Wp.seq ?_)
    refine Wp.loopK [0, 1, 5, 6] (by simp only [go_sem, reduceIte, Nat.reduceEqDiff, Nat.reduceAdd, bx, List.map]; exact rfl) (fun m : Nat => [(7, F false m)]) (fun m => m ≤ n ∧ m % p = n % p) (fun m => m) n ⟨Nat.le_refl _, rfl⟩ ?_ ?_
    · simp only [AllSub, go_sem, reduceIte, Nat.reduceEqDiff, Nat.reduceAdd, bx]; and_intros <;> first | exact trivial | exact VSub.refl _ | exact VSub.any _ | (refine VSub.int ?_; omega)
    rintro m ⟨hm1, hm2⟩
    have hm : m < 2 ^ 53 := by omega
    by_cases hc : p ≤ m
    · have g2 := ge_yes hm hp hc
      have hm0 : 0 < m := by omega
      have hl := lift_le h0 hc hm
      have hi := lift_int h0 hc hm
      have hq : p * 2 ^ lift p m < 2 ^ 53 := by omega
      have hb := log2_lt53 hm0 hm
      have hbp := log2_lt53 h0 hp
      have hpos : 0 < p * 2 ^ lift p m := Nat.mul_pos h0 (Nat.two_pow_pos _)
      have hsub := fb_nat hl hm
      by_cases hlt : m * 2 ^ (52 - m.log2) < p * 2 ^ (52 - p.log2)
      · have g3 := fr_lt_yes hm0 hm h0 hp hlt
        rw [if_pos hlt] at hi
        have w1 : IntKind.i64.wrap ((m.log2 : Int) + 1 - 1) = (m.log2 : Int) := by rw [IntWalk.i64_in _ (by omega)]; omega
        have w2 : IntKind.i64.wrap ((m.log2 : Int) - ((p.log2 : Int) + 1)) = ((lift p m : Nat) : Int) := by rw [IntWalk.i64_in _ (by omega)]; omega
        repeat (first
          | ((first | apply Wp.seqItemsR | apply Wp.itemsR | ((first
              | (refine WpItems.pcall ?_ ?_ (Frexp_p hm0 hm) ?_; (· simp only [go_sem, reduceIte, Nat.reduceEqDiff, Nat.reduceAdd, bx]); (· simp only [go_sem, reduceIte, Nat.reduceEqDiff, Nat.reduceAdd, bx, List.map]; first | exact VSubs.refl _ | (repeat (first | exact VSubs.nil | refine VSubs.cons (by first | exact VSub.refl _ | assumption | exact VSub.cap | exact VSub.any _) ?_))))
              | (refine WpItems.pcall ?_ ?_ (Ldexp_p h0 hq) ?_; (· simp only [go_sem, reduceIte, Nat.reduceEqDiff, Nat.reduceAdd, bx]); (· simp only [go_sem, reduceIte, Nat.reduceEqDiff, Nat.reduceAdd, bx, List.map]; first | exact VSubs.refl _ | (repeat (first | exact VSubs.nil | refine VSubs.cons (by first | exact VSub.refl _ | assumption | exact VSub.cap | exact VSub.any _) ?_))))); apply WpItems.evR)); (· simp only [go_sem, reduceIte, Nat.reduceEqDiff, Nat.reduceAdd, bx, ax, if_true, if_false, Nat.reduceMul, Nat.reduceLeDiff, g2, g3, w1, w2, hsub, Option.map_some]; exact rfl))
          | (refine WpItems.nil ⟨?_, ?_⟩; (· first | trivial | simp [pairsQ, pairsOk, apart, ent0]))
          | (apply Wp.cond_lit; (· simp only [go_sem, reduceIte, Nat.reduceEqDiff, Nat.reduceAdd, bx, ax, if_true, if_false, Nat.reduceMul, Nat.reduceLeDiff, g2, g3, w1, w2, hsub, Option.map_some]; exact rfl); (· rfl))
          | refine Wp.skip ?_
          | refine Wp.label ?_
          | refine Wp.block ?_
          | refine Wp.exit ?_
          | refine Wp.seq ?_)
        refine ⟨m - p * 2 ^ lift p m, ⟨by omega, by rw [rem_round hl]; exact hm2⟩, by omega, ?_⟩
        refine StLe.tm (by simp only [AllSub, go_sem, reduceIte, Nat.reduceEqDiff, Nat.reduceAdd, bx]; and_intros <;> first | exact trivial | exact VSub.refl _ | exact VSub.any _ | (refine VSub.int ?_; omega))
      · have g3 := fr_lt_no hm0 hm h0 hp hlt
        rw [if_neg hlt] at hi
        have w2 : IntKind.i64.wrap ((m.log2 : Int) + 1 - ((p.log2 : Int) + 1)) = ((lift p m : Nat) : Int) := by rw [IntWalk.i64_in _ (by omega)]; omega
        repeat (first
          | ((first | apply Wp.seqItemsR | apply Wp.itemsR | ((first
              | (refine WpItems.pcall ?_ ?_ (Frexp_p hm0 hm) ?_; (· simp only [go_sem, reduceIte, Nat.reduceEqDiff, Nat.reduceAdd, bx]); (· simp only [go_sem, reduceIte, Nat.reduceEqDiff, Nat.reduceAdd, bx, List.map]; first | exact VSubs.refl _ | (repeat (first | exact VSubs.nil | refine VSubs.cons (by first | exact VSub.refl _ | assumption | exact VSub.cap | exact VSub.any _) ?_))))
              | (refine WpItems.pcall ?_ ?_ (Ldexp_p h0 hq) ?_; (· simp only [go_sem, reduceIte, Nat.reduceEqDiff, Nat.reduceAdd, bx]); (· simp only [go_sem, reduceIte, Nat.reduceEqDiff, Nat.reduceAdd, bx, List.map]; first | exact VSubs.refl _ | (repeat (first | exact VSubs.nil | refine VSubs.cons (by first | exact VSub.refl _ | assumption | exact VSub.cap | exact VSub.any _) ?_))))); apply WpItems.evR)); (· simp only [go_sem, reduceIte, Nat.reduceEqDiff, Nat.reduceAdd, bx, ax, if_true, if_false, Nat.reduceMul, Nat.reduceLeDiff, g2, g3, w2, hsub, Option.map_some]; exact rfl))
          | (refine WpItems.nil ⟨?_, ?_⟩; (· first | trivial | simp [pairsQ, pairsOk, apart, ent0]))
          | (apply Wp.cond_lit; (· simp only [go_sem, reduceIte, Nat.reduceEqDiff, Nat.reduceAdd, bx, ax, if_true, if_false, Nat.reduceMul, Nat.reduceLeDiff, g2, g3, w2, hsub, Option.map_some]; exact rfl); (· rfl))
          | refine Wp.skip ?_
          | refine Wp.label ?_
          | refine Wp.block ?_
          | refine Wp.exit ?_
          | refine Wp.seq ?_)
        refine ⟨m - p * 2 ^ lift p m, ⟨by omega, by rw [rem_round hl]; exact hm2⟩, by omega, ?_⟩
        refine StLe.tm (by simp only [AllSub, go_sem, reduceIte, Nat.reduceEqDiff, Nat.reduceAdd, bx]; and_intros <;> first | exact trivial | exact VSub.refl _ | exact VSub.any _ | (refine VSub.int ?_; omega))
    · have g2 := ge_no hm hp (by omega)
      have e : m = n % p := by rw [← hm2, Nat.mod_eq_of_lt (by omega)]
      subst e
      repeat (first
        | ((first | apply Wp.seqItemsR | apply Wp.itemsR); (· simp only [go_sem, reduceIte, Nat.reduceEqDiff, Nat.reduceAdd, bx, ax, if_true, if_false, Nat.reduceMul, Nat.reduceLeDiff, g2, g1, n2]; exact rfl))
        | (refine WpItems.nil ⟨?_, ?_⟩; (· first | trivial | simp [pairsQ, pairsOk, apart, ent0]))
        | (apply Wp.cond_lit; (· simp only [go_sem, reduceIte, Nat.reduceEqDiff, Nat.reduceAdd, bx, ax, if_true, if_false, Nat.reduceMul, Nat.reduceLeDiff, g2, g1, n2]; exact rfl); (· rfl))
        | refine Wp.skip ?_
        | refine Wp.label ?_
        | refine Wp.block ?_
        | refine Wp.exit ?_
        | refine Wp.seq ?_)
      refine Wp.ret ⟨trivial, _, rfl, ?_⟩
      simp only [go_sem, reduceIte, Nat.reduceEqDiff, Nat.reduceAdd, bx]
      exact VSub.refl _
theorem Mod_p {p n : Nat} (s : Bool) (h0 : 0 < p) (hp : p < 2 ^ 53) (h : n < 2 ^ 53) (hs : s = true → 0 < n) : PCalls Tryz.prog 190 [F s n, F false p] (F s (n % p)) := by
  refine f190.pcalls0 (by simp) rfl rfl ?_
  unfold c190
  repeat (first
    | ((first | apply Wp.seqItemsR | apply Wp.itemsR | ((first
        | (refine WpItems.pcall ?_ ?_ (mod_p s h0 hp h hs) ?_; (· simp only [go_sem, reduceIte, Nat.reduceEqDiff, Nat.reduceAdd, bx]); (· simp only [go_sem, reduceIte, Nat.reduceEqDiff, Nat.reduceAdd, bx, List.map]; first | exact VSubs.refl _ | (repeat (first | exact VSubs.nil | refine VSubs.cons (by first | exact VSub.refl _ | assumption | exact VSub.cap | exact VSub.any _) ?_))))); apply WpItems.evR)); (· simp only [go_sem, reduceIte, Nat.reduceEqDiff, Nat.reduceAdd, bx, ax, if_true, if_false, Nat.reduceMul, Nat.reduceLeDiff]; exact rfl))
    | (refine WpItems.nil ⟨?_, ?_⟩; (· first | trivial | simp [pairsQ, pairsOk, apart, ent0]))
    | (apply Wp.cond_lit; (· simp only [go_sem, reduceIte, Nat.reduceEqDiff, Nat.reduceAdd, bx, ax, if_true, if_false, Nat.reduceMul, Nat.reduceLeDiff]; exact rfl); (· rfl))
    | refine Wp.skip ?_
    | refine Wp.label ?_
    | refine Wp.block ?_
    | refine Wp.exit ?_
    | refine Wp.seq ?_)
  refine Wp.ret ⟨trivial, _, rfl, ?_⟩
  simp only [go_sem, reduceIte, Nat.reduceEqDiff, Nat.reduceAdd, bx]
  exact VSub.refl _
end Go.Proofs.YtkcgpcbpieofnaaGreatDoor.Fl
end
section
set_option linter.unusedSimpArgs false
set_option linter.unusedVariables false
set_option maxRecDepth 10000
namespace Go.Proofs.YtkcgpcbpieofnaaGreatDoor.Fl
open Go Go.Av Go.Proofs Go.Proofs.YtkcgpcbpieofnaaGreatDoor.C Go.Fl
theorem flP : fl false 1048573 = 4697254385577623552 := by rw [fl_bits false (by decide) (by decide)]; decide
theorem fl3 : fl false 3 = 4613937818241073152 := by rw [fl_bits false (by decide) (by decide)]; decide
theorem fl2 : fl false 2 = 4611686018427387904 := by rw [fl_bits false (by decide) (by decide)]; decide
theorem fl256 : fl false 256 = 4643211215818981376 := by rw [fl_bits false (by decide) (by decide)]; decide
def leftZ (s : Bool) (n : Nat) : Bool := s && decide (n % 1048573 = 0)
def leftN (s : Bool) (n : Nat) : Nat := if s then (if n % 1048573 = 0 then 0 else 1048573 - n % 1048573) else n % 1048573
theorem leftN_lt (s : Bool) (n : Nat) : leftN s n < 1048573 := by
  unfold leftN
  have := Nat.mod_lt n (show 0 < 1048573 by decide)
  split
  · split <;> omega
  · exact this
theorem left_p (s : Bool) {n : Nat} (h : n < 2 ^ 53) (hs : s = true → 0 < n) : PCalls Tryz.prog 146 [F s n] (F (leftZ s n) (leftN s n)) := by
  refine f146.pcalls0 (by simp) rfl rfl ?_
  unfold c146
  have hM := Mod_p (p := 1048573) s (by decide) (by decide) h hs
  have hr := Nat.mod_lt n (show 0 < 1048573 by decide)
  generalize hrd : n % 1048573 = r at hM hr
  have e1 : leftZ s n = (s && decide (r = 0)) := by unfold leftZ; rw [hrd]
  have e2 : leftN s n = if s then (if r = 0 then 0 else 1048573 - r) else r := by unfold leftN; rw [hrd]
  simp only [F, flP] at hM
  rw [e1, e2]
  cases s with
  | false =>
    have g := lt0_no (n := r) (by omega)
    repeat (first
      | ((first | apply Wp.seqItemsR | apply Wp.itemsR | ((first
          | (refine WpItems.pcall ?_ ?_ (hM) ?_; (· simp only [go_sem, reduceIte, Nat.reduceEqDiff, Nat.reduceAdd, bx]); (· simp only [go_sem, reduceIte, Nat.reduceEqDiff, Nat.reduceAdd, bx, List.map]; first | exact VSubs.refl _ | (repeat (first | exact VSubs.nil | refine VSubs.cons (by first | exact VSub.refl _ | assumption | exact VSub.cap | exact VSub.any _) ?_))))); apply WpItems.evR)); (· simp only [go_sem, reduceIte, Nat.reduceEqDiff, Nat.reduceAdd, bx, ax, if_true, if_false, Nat.reduceMul, Nat.reduceLeDiff, g]; exact rfl))
      | (refine WpItems.nil ⟨?_, ?_⟩; (· first | trivial | simp [pairsQ, pairsOk, apart, ent0]))
      | (apply Wp.cond_lit; (· simp only [go_sem, reduceIte, Nat.reduceEqDiff, Nat.reduceAdd, bx, ax, if_true, if_false, Nat.reduceMul, Nat.reduceLeDiff, g]; exact rfl); (· rfl))
      | refine Wp.skip ?_
      | refine Wp.label ?_
      | refine Wp.block ?_
      | refine Wp.exit ?_
      | refine Wp.seq ?_)
    refine Wp.ret ⟨trivial, _, rfl, ?_⟩
    simp only [go_sem, reduceIte, Nat.reduceEqDiff, Nat.reduceAdd, bx]
    simp only [Bool.false_and, Bool.false_eq_true, if_false]
    exact VSub.refl _
  | true =>
    by_cases h0 : r = 0
    · subst h0
      have g := lt0_nil
      repeat (first
        | ((first | apply Wp.seqItemsR | apply Wp.itemsR | ((first
            | (refine WpItems.pcall ?_ ?_ (hM) ?_; (· simp only [go_sem, reduceIte, Nat.reduceEqDiff, Nat.reduceAdd, bx]); (· simp only [go_sem, reduceIte, Nat.reduceEqDiff, Nat.reduceAdd, bx, List.map]; first | exact VSubs.refl _ | (repeat (first | exact VSubs.nil | refine VSubs.cons (by first | exact VSub.refl _ | assumption | exact VSub.cap | exact VSub.any _) ?_))))); apply WpItems.evR)); (· simp only [go_sem, reduceIte, Nat.reduceEqDiff, Nat.reduceAdd, bx, ax, if_true, if_false, Nat.reduceMul, Nat.reduceLeDiff, g]; exact rfl))
        | (refine WpItems.nil ⟨?_, ?_⟩; (· first | trivial | simp [pairsQ, pairsOk, apart, ent0]))
        | (apply Wp.cond_lit; (· simp only [go_sem, reduceIte, Nat.reduceEqDiff, Nat.reduceAdd, bx, ax, if_true, if_false, Nat.reduceMul, Nat.reduceLeDiff, g]; exact rfl); (· rfl))
        | refine Wp.skip ?_
        | refine Wp.label ?_
        | refine Wp.block ?_
        | refine Wp.exit ?_
        | refine Wp.seq ?_)
      refine Wp.ret ⟨trivial, _, rfl, ?_⟩
      simp only [go_sem, reduceIte, Nat.reduceEqDiff, Nat.reduceAdd, bx]
      simp only [decide_true, Bool.and_self, if_true]
      exact VSub.refl _
    · have g := lt0_yes (n := r) (by omega) (by omega)
      have e3 : sg true r + sg false 1048573 = ((1048573 - r : Nat) : Int) := by simp only [sg_true, sg_false]; omega
      have ha := fb_add (m := r) (n := 1048573) true false (by omega) (by decide) (by rw [e3]; simp; omega)
      rw [e3, flP, Int.natAbs_natCast] at ha
      have e4 : sumS true false ((1048573 - r : Nat) : Int) = false := by
        unfold sumS
        rw [if_neg (by omega)]
        exact decide_eq_false (by omega)
      rw [e4] at ha
      repeat (first
        | ((first | apply Wp.seqItemsR | apply Wp.itemsR | ((first
            | (refine WpItems.pcall ?_ ?_ (hM) ?_; (· simp only [go_sem, reduceIte, Nat.reduceEqDiff, Nat.reduceAdd, bx]); (· simp only [go_sem, reduceIte, Nat.reduceEqDiff, Nat.reduceAdd, bx, List.map]; first | exact VSubs.refl _ | (repeat (first | exact VSubs.nil | refine VSubs.cons (by first | exact VSub.refl _ | assumption | exact VSub.cap | exact VSub.any _) ?_))))); apply WpItems.evR)); (· simp only [go_sem, reduceIte, Nat.reduceEqDiff, Nat.reduceAdd, bx, ax, if_true, if_false, Nat.reduceMul, Nat.reduceLeDiff, g, ha, Option.map_some]; exact rfl))
        | (refine WpItems.nil ⟨?_, ?_⟩; (· first | trivial | simp [pairsQ, pairsOk, apart, ent0]))
        | (apply Wp.cond_lit; (· simp only [go_sem, reduceIte, Nat.reduceEqDiff, Nat.reduceAdd, bx, ax, if_true, if_false, Nat.reduceMul, Nat.reduceLeDiff, g, ha, Option.map_some]; exact rfl); (· rfl))
        | refine Wp.skip ?_
        | refine Wp.label ?_
        | refine Wp.block ?_
        | refine Wp.exit ?_
        | refine Wp.seq ?_)
      refine Wp.ret ⟨trivial, _, rfl, ?_⟩
      simp only [go_sem, reduceIte, Nat.reduceEqDiff, Nat.reduceAdd, bx]
      simp only [decide_eq_false h0, Bool.and_false, if_true, if_neg h0]
      exact VSub.refl _
abbrev Cx (s : Bool) (m : Nat) (t : Bool) (n : Nat) : AV := .sc (.complex .f64 (fl s m) (fl t n))
theorem small_p (s t : Bool) {m n : Nat} (hm : m < 2 ^ 53) (hn : n < 2 ^ 53) (hs : s = true → 0 < m) (ht : t = true → 0 < n) : PCalls Tryz.prog 109 [Cx s m t n] (Cx (leftZ s m) (leftN s m) (leftZ t n) (leftN t n)) := by
  refine f109.pcalls0 (by simp) rfl rfl ?_
  unfold c109
  repeat (first
    | ((first | apply Wp.seqItemsR | apply Wp.itemsR | ((first
        | (refine WpItems.pcall ?_ ?_ (left_p s hm hs) ?_; (· simp only [go_sem, reduceIte, Nat.reduceEqDiff, Nat.reduceAdd, bx]); (· simp only [go_sem, reduceIte, Nat.reduceEqDiff, Nat.reduceAdd, bx, List.map]; first | exact VSubs.refl _ | (repeat (first | exact VSubs.nil | refine VSubs.cons (by first | exact VSub.refl _ | assumption | exact VSub.cap | exact VSub.any _) ?_))))
        | (refine WpItems.pcall ?_ ?_ (left_p t hn ht) ?_; (· simp only [go_sem, reduceIte, Nat.reduceEqDiff, Nat.reduceAdd, bx]); (· simp only [go_sem, reduceIte, Nat.reduceEqDiff, Nat.reduceAdd, bx, List.map]; first | exact VSubs.refl _ | (repeat (first | exact VSubs.nil | refine VSubs.cons (by first | exact VSub.refl _ | assumption | exact VSub.cap | exact VSub.any _) ?_))))); apply WpItems.evR)); (· simp only [go_sem, reduceIte, Nat.reduceEqDiff, Nat.reduceAdd, bx, ax, if_true, if_false, Nat.reduceMul, Nat.reduceLeDiff]; exact rfl))
    | (refine WpItems.nil ⟨?_, ?_⟩; (· first | trivial | simp [pairsQ, pairsOk, apart, ent0]))
    | (apply Wp.cond_lit; (· simp only [go_sem, reduceIte, Nat.reduceEqDiff, Nat.reduceAdd, bx, ax, if_true, if_false, Nat.reduceMul, Nat.reduceLeDiff]; exact rfl); (· rfl))
    | refine Wp.skip ?_
    | refine Wp.label ?_
    | refine Wp.block ?_
    | refine Wp.exit ?_
    | refine Wp.seq ?_)
  refine Wp.ret ⟨trivial, _, rfl, ?_⟩
  simp only [go_sem, reduceIte, Nat.reduceEqDiff, Nat.reduceAdd, bx]
  exact VSub.refl _
def reS (a b : Nat) : Bool := decide ((3 * a : Int) - 2 * b < 0)
def reN (a b : Nat) : Nat := ((3 * a : Int) - 2 * b).natAbs
theorem times_p {a b : Nat} (ha : a < 1048573) (hb : b < 1048573) : PCalls Tryz.prog 108 [Cx false a false b, .sc (.complex .f64 4613937818241073152 4611686018427387904)] (Cx (leftZ (reS a b) (reN a b)) (leftN (reS a b) (reN a b)) false ((2 * a + 3 * b) % 1048573)) := by
  refine f108.pcalls0 (by simp) rfl rfl ?_
  unfold c108
  have m1 := fb_mul (m := a) (n := 3) false false (by omega) (by decide) (by omega)
  have m2 := fb_mul (m := b) (n := 2) false false (by omega) (by decide) (by omega)
  have m3 := fb_mul (m := a) (n := 2) false false (by omega) (by decide) (by omega)
  have m4 := fb_mul (m := b) (n := 3) false false (by omega) (by decide) (by omega)
  rw [fl3] at m1 m4
  rw [fl2] at m2 m3
  have e1 : sg false (a * 3) - sg false (b * 2) = (3 * a : Int) - 2 * b := by simp only [sg_false]; omega
  have d1 := fb_sub (m := a * 3) (n := b * 2) false false (by omega) (by omega) (by rw [e1]; omega)
  rw [e1] at d1
  have e2 : sumS false (!false) ((3 * a : Int) - 2 * b) = reS a b := by
    unfold sumS reS
    by_cases h : (3 * a : Int) - 2 * b = 0
    · rw [if_pos h, h]; rfl
    · rw [if_neg h]
  rw [e2] at d1
  have e3 : sg false (a * 2) + sg false (b * 3) = ((2 * a + 3 * b : Nat) : Int) := by simp only [sg_false]; omega
  have d2 := fb_add (m := a * 2) (n := b * 3) false false (by omega) (by omega) (by rw [e3]; simp; omega)
  have e4 : sumS false false ((2 * a + 3 * b : Nat) : Int) = false := by
    unfold sumS
    split
    · rfl
    · exact decide_eq_false (by omega)
  rw [e3, e4, Int.natAbs_natCast] at d2
  have hre : reN a b < 2 ^ 53 := by unfold reN; omega
  have hS : reS a b = true → 0 < reN a b := by
    intro h
    have := of_decide_eq_true h
    unfold reN
    omega
  have hsm := small_p (reS a b) false hre (show 2 * a + 3 * b < 2 ^ 53 by omega) hS (by simp)
  have z1 : leftZ false (2 * a + 3 * b) = false := rfl
  have z2 : leftN false (2 * a + 3 * b) = (2 * a + 3 * b) % 1048573 := rfl
  rw [z1, z2] at hsm
  simp only [Bool.false_bne, Bool.xor_false, Bool.false_xor] at m1 m2 m3 m4
  change floatBits .sub .f64 _ _ = some (fl (reS a b) (reN a b)) at d1
  clear hS hre e1 e2 e3 e4 z1 z2
  simp only [Cx] at hsm ⊢
  generalize fl (reS a b) (reN a b) = q1 at hsm d1
  generalize fl false (2 * a + 3 * b) = q2 at hsm d2
  generalize fl false (a * 3) = p1 at m1 d1
  generalize fl false (b * 2) = p2 at m2 d1
  generalize fl false (a * 2) = p3 at m3 d2
  generalize fl false (b * 3) = p4 at m4 d2
  generalize fl false a = xa at m1 m3 ⊢
  generalize fl false b = xb at m2 m4 ⊢
  repeat (first
    | ((first | apply Wp.seqItemsR | apply Wp.itemsR | ((first
        | (refine WpItems.pcall ?_ ?_ (hsm) ?_; (· simp only [go_sem, reduceIte, Nat.reduceEqDiff, Nat.reduceAdd, bx]); (· simp only [go_sem, reduceIte, Nat.reduceEqDiff, Nat.reduceAdd, bx, List.map]; first | exact VSubs.refl _ | (repeat (first | exact VSubs.nil | refine VSubs.cons (by first | exact VSub.refl _ | assumption | exact VSub.cap | exact VSub.any _) ?_))))); apply WpItems.evR)); (· simp only [go_sem, reduceIte, Nat.reduceEqDiff, Nat.reduceAdd, bx, ax, if_true, if_false, Nat.reduceMul, Nat.reduceLeDiff, m1, m2, m3, m4, d1, d2, Option.map_some]; exact rfl))
    | (refine WpItems.nil ⟨?_, ?_⟩; (· first | trivial | simp [pairsQ, pairsOk, apart, ent0]))
    | (apply Wp.cond_lit; (· simp only [go_sem, reduceIte, Nat.reduceEqDiff, Nat.reduceAdd, bx, ax, if_true, if_false, Nat.reduceMul, Nat.reduceLeDiff, m1, m2, m3, m4, d1, d2, Option.map_some]; exact rfl); (· rfl))
    | refine Wp.skip ?_
    | refine Wp.label ?_
    | refine Wp.block ?_
    | refine Wp.exit ?_
    | refine Wp.seq ?_)
  refine Wp.ret ⟨trivial, _, rfl, ?_⟩
  simp only [go_sem, reduceIte, Nat.reduceEqDiff, Nat.reduceAdd, bx]
  exact VSub.refl _
def tagStep (t : Nat × Nat) (c : Nat) : Nat × Nat := ((leftN (reS t.1 t.2) (reN t.1 t.2) + c + 1) % 1048573, ((2 * t.1 + 3 * t.2) % 1048573 + (256 - c)) % 1048573)
def tagN (l : List UInt8) : Nat × Nat := l.foldl (fun t c => tagStep t c.toNat) (0, 0)
theorem tag_lt (l : List UInt8) : (tagN l).1 < 1048573 ∧ (tagN l).2 < 1048573 := by
  have key : ∀ (l : List UInt8) (t : Nat × Nat), t.1 < 1048573 ∧ t.2 < 1048573 → (l.foldl (fun t c => tagStep t c.toNat) t).1 < 1048573 ∧ (l.foldl (fun t c => tagStep t c.toNat) t).2 < 1048573 := by
    intro l
    induction l with
    | nil => intro t h; exact h
    | cons c l ih => intro t h; exact ih _ ⟨Nat.mod_lt _ (by decide), Nat.mod_lt _ (by decide)⟩
  exact key l (0, 0) (by decide)
theorem tag_snoc (l : List UInt8) (j : Nat) (h : j < l.length) : tagN (l.take (j + 1)) = tagStep (tagN (l.take j)) (l.getD j default).toNat := by
  unfold tagN
  rw [take_snoc default h, List.foldl_append]; rfl
theorem told_p {a b : Nat} (ha : a < 1048573) (hb : b < 1048573) : PCalls Tryz.prog 110 [Cx false a false b] (.agg [.int .i64 a, .int .i64 b]) := by
  refine f110.pcalls0 (by simp) rfl rfl ?_
  unfold c110
  have t1 := toInt_nat (n := a) (by omega)
  have t2 := toInt_nat (n := b) (by omega)
  simp only [Cx]
  generalize fl false a = xa at t1 ⊢
  generalize fl false b = xb at t2 ⊢
  repeat (first
    | ((first | apply Wp.seqItemsR | apply Wp.itemsR); (· simp only [go_sem, reduceIte, Nat.reduceEqDiff, Nat.reduceAdd, bx, ax, if_true, if_false, Nat.reduceMul, Nat.reduceLeDiff, t1, t2, Option.map_some]; exact rfl))
    | (refine WpItems.nil ⟨?_, ?_⟩; (· first | trivial | simp [pairsQ, pairsOk, apart, ent0]))
    | (apply Wp.cond_lit; (· simp only [go_sem, reduceIte, Nat.reduceEqDiff, Nat.reduceAdd, bx, ax, if_true, if_false, Nat.reduceMul, Nat.reduceLeDiff, t1, t2, Option.map_some]; exact rfl); (· rfl))
    | refine Wp.skip ?_
    | refine Wp.label ?_
    | refine Wp.block ?_
    | refine Wp.exit ?_
    | refine Wp.seq ?_)
  refine Wp.ret ⟨trivial, _, rfl, ?_⟩
  simp only [go_sem, reduceIte, Nat.reduceEqDiff, Nat.reduceAdd, bx]
  exact VSub.refl _
theorem of_p (l : List UInt8) (hl : l.length ≤ 140737488351232) : PCalls Tryz.prog 49 [.sl 1 (bytesAV l) .any] (.agg [.int .i64 ((tagN l).1 : Nat), .int .i64 ((tagN l).2 : Nat)]) := by
  refine f49.pcalls0 (by simp) (by
    have : allPure (bytesAV l) = true := Av.allPure_map (fun a => rfl) l
    simp [allPure, isPure, capPure, this]) rfl ?_
  unfold c49
  have hil : (bytesAV l).length = l.length := by simp [bytesAV]
  have z0 : fl false 0 = 0 := fl00
  repeat (first
    | ((first | apply Wp.seqItemsR | apply Wp.itemsR); (· simp only [go_sem, reduceIte, Nat.reduceEqDiff, Nat.reduceAdd, bx, ax, if_true, if_false, Nat.reduceMul, Nat.reduceLeDiff, hil]; exact rfl))
    | (refine WpItems.nil ⟨?_, ?_⟩; (· first | trivial | simp [pairsQ, pairsOk, apart, ent0]))
    | (apply Wp.cond_lit; (· simp only [go_sem, reduceIte, Nat.reduceEqDiff, Nat.reduceAdd, bx, ax, if_true, if_false, Nat.reduceMul, Nat.reduceLeDiff, hil]; exact rfl); (· rfl))
    | refine Wp.skip ?_
    | refine Wp.label ?_
    | refine Wp.block ?_
    | refine Wp.exit ?_
    | refine Wp.seq ?_)
  refine Wp.loopK [2, 6, 7] (by simp only [go_sem, reduceIte, Nat.reduceEqDiff, Nat.reduceAdd, bx, List.map]; exact rfl) (fun j : Nat => [(3, Cx false (tagN (l.take j)).1 false (tagN (l.take j)).2), (8, .int .i64 (j : Nat))]) (fun j => j ≤ l.length) (fun j => l.length - j) 0 (Nat.zero_le _) ?_ ?_
  · simp only [AllSub, go_sem, reduceIte, Nat.reduceEqDiff, Nat.reduceAdd, bx, List.take_zero, tagN, List.foldl_nil, Int.ofNat_zero, z0]; and_intros <;> first | exact trivial | exact VSub.refl _ | exact VSub.any _ | (refine VSub.int ?_; omega)
  intro j hj
  by_cases hcj : j < l.length
  · have g1 : decide (((j : Nat) : Int) < ((l.length : Nat) : Int)) = true := decide_eq_true (by omega)
    have h2 : (0 : Int) ≤ ((j : Nat) : Int) := by omega
    have h3 : ((j : Nat) : Int) < ((l.length : Nat) : Int) := by omega
    have e1 : IntKind.i64.wrap (((j : Nat) : Int) + 1) = ((j + 1 : Nat) : Int) := by rw [IntWalk.i64_in _ (by omega)]; omega
    have hat : (bytesAV l).getD j .any = byte (l.getD j default) := enc_at byte l j .any hcj
    have hs := tag_snoc l j hcj
    obtain ⟨ha, hb⟩ := tag_lt (l.take j)
    generalize hx : l.getD j default = x at hat hs
    have hc : x.toNat < 256 := x.toNat_lt
    generalize tagN (l.take j) = t at hs ha hb
    obtain ⟨a, b⟩ := t
    simp only at ha hb
    have ht := times_p ha hb
    have i1 : floatOfInt .f64 ((x.toNat : Nat) : Int) = fl false x.toNat := ofInt_nat _
    have e1 : sg false x.toNat + sg false 1 = ((x.toNat + 1 : Nat) : Int) := by simp only [sg_false]; omega
    have a1 := fb_add (m := x.toNat) (n := 1) false false (by omega) (by decide) (by rw [e1]; simp; omega)
    have e2 : sumS false false ((x.toNat + 1 : Nat) : Int) = false := by
      unfold sumS
      split
      · rfl
      · exact decide_eq_false (by omega)
    rw [e1, e2, Int.natAbs_natCast, fl_one] at a1
    have a2 := fb_nat (m := 256) (n := x.toNat) (by omega) (by decide)
    rw [fl256] at a2
    have hL := leftN_lt (reS a b) (reN a b)
    have hZ : leftZ (reS a b) (reN a b) = true → leftN (reS a b) (reN a b) = 0 := by
      intro h
      unfold leftZ at h
      simp only [Bool.and_eq_true, decide_eq_true_eq] at h
      unfold leftN
      rw [h.1, h.2]; rfl
    have st : tagStep (a, b) x.toNat = ((leftN (reS a b) (reN a b) + x.toNat + 1) % 1048573, ((2 * a + 3 * b) % 1048573 + (256 - x.toNat)) % 1048573) := rfl
    rw [st] at hs
    generalize leftZ (reS a b) (reN a b) = z at ht hZ
    generalize leftN (reS a b) (reN a b) = p at ht hL hZ hs
    have hq := Nat.mod_lt (2 * a + 3 * b) (show 0 < 1048573 by decide)
    generalize (2 * a + 3 * b) % 1048573 = q at ht hq hs
    have e3 : sg z p + sg false (x.toNat + 1) = ((p + x.toNat + 1 : Nat) : Int) := by
      cases z with
      | false => simp only [sg_false]; omega
      | true => rw [hZ rfl]; simp only [sg_true, sg_false]; omega
    have a3 := fb_add (m := p) (n := x.toNat + 1) z false (by omega) (by omega) (by rw [e3]; simp; omega)
    have e4 : sumS z false ((p + x.toNat + 1 : Nat) : Int) = false := by
      unfold sumS
      rw [if_neg (by omega)]
      exact decide_eq_false (by omega)
    rw [e3, e4, Int.natAbs_natCast] at a3
    have e5 : sg false q + sg false (256 - x.toNat) = ((q + (256 - x.toNat) : Nat) : Int) := by simp only [sg_false]; omega
    have a4 := fb_add (m := q) (n := 256 - x.toNat) false false (by omega) (by omega) (by rw [e5]; simp; omega)
    have e6 : sumS false false ((q + (256 - x.toNat) : Nat) : Int) = false := by
      unfold sumS
      split
      · rfl
      · exact decide_eq_false (by omega)
    rw [e5, e6, Int.natAbs_natCast] at a4
    have hsm := small_p false false (m := p + x.toNat + 1) (n := q + (256 - x.toNat)) (by omega) (by omega) (by simp) (by simp)
    have z1 : ∀ n, leftZ false n = false := fun _ => rfl
    have z2 : ∀ n, leftN false n = n % 1048573 := fun _ => rfl
    rw [z1, z1, z2, z2] at hsm
    have s1 : cSumBits .add .f64 (fl z p) (fl false q) (fl false (x.toNat + 1)) (fl false (256 - x.toNat)) = some (fl false (p + x.toNat + 1), fl false (q + (256 - x.toNat))) := by
      unfold cSumBits
      rw [a3]
      simp only [Option.bind_some]
      rw [a4]; rfl
    have hby : byte x = .int .u8 (x.toNat : Nat) := rfl
    rw [hby] at hat
    simp only [Cx] at ht hsm
    repeat (first
      | ((first | apply Wp.seqItemsR | apply Wp.itemsR | ((first
          | (refine WpItems.pcall ?_ ?_ (ht) ?_; (· simp only [go_sem, reduceIte, Nat.reduceEqDiff, Nat.reduceAdd, bx]); (· simp only [go_sem, reduceIte, Nat.reduceEqDiff, Nat.reduceAdd, bx, List.map]; first | exact VSubs.refl _ | (repeat (first | exact VSubs.nil | refine VSubs.cons (by first | exact VSub.refl _ | assumption | exact VSub.cap | exact VSub.any _) ?_))))
          | (refine WpItems.pcall ?_ ?_ (hsm) ?_; (· simp only [go_sem, reduceIte, Nat.reduceEqDiff, Nat.reduceAdd, bx]); (· simp only [go_sem, reduceIte, Nat.reduceEqDiff, Nat.reduceAdd, bx, List.map]; first | exact VSubs.refl _ | (repeat (first | exact VSubs.nil | refine VSubs.cons (by first | exact VSub.refl _ | assumption | exact VSub.cap | exact VSub.any _) ?_))))); apply WpItems.evR)); (· simp only [go_sem, reduceIte, Nat.reduceEqDiff, Nat.reduceAdd, bx, ax, if_true, if_false, Nat.reduceMul, Nat.reduceLeDiff, g1, h2, h3, hat, hil, i1, a1, a2, s1, Option.map_some]; exact rfl))
      | (refine WpItems.nil ⟨?_, ?_⟩; (· first | trivial | simp [pairsQ, pairsOk, apart, ent0]))
      | (apply Wp.cond_lit; (· simp only [go_sem, reduceIte, Nat.reduceEqDiff, Nat.reduceAdd, bx, ax, if_true, if_false, Nat.reduceMul, Nat.reduceLeDiff, g1, h2, h3, hat, hil, i1, a1, a2, s1, Option.map_some]; exact rfl); (· rfl))
      | refine Wp.skip ?_
      | refine Wp.label ?_
      | refine Wp.block ?_
      | refine Wp.exit ?_
      | refine Wp.seq ?_)
    refine ⟨j + 1, by omega, by omega, ?_⟩
    rw [hs]
    refine StLe.tm (by simp only [AllSub, go_sem, reduceIte, Nat.reduceEqDiff, Nat.reduceAdd, bx, e1]; and_intros <;> first | exact trivial | exact VSub.refl _ | exact VSub.any _ | (refine VSub.int ?_; omega))
  · have hj2 : j = l.length := by omega
    subst hj2
    have g1 : decide (((l.length : Nat) : Int) < ((l.length : Nat) : Int)) = false := decide_eq_false (by omega)
    have hT := told_p (tag_lt l).1 (tag_lt l).2
    rw [List.take_length]
    repeat (first
      | ((first | apply Wp.seqItemsR | apply Wp.itemsR | ((first
          | (refine WpItems.pcall ?_ ?_ (hT) ?_; (· simp only [go_sem, reduceIte, Nat.reduceEqDiff, Nat.reduceAdd, bx]); (· simp only [go_sem, reduceIte, Nat.reduceEqDiff, Nat.reduceAdd, bx, List.map]; first | exact VSubs.refl _ | (repeat (first | exact VSubs.nil | refine VSubs.cons (by first | exact VSub.refl _ | assumption | exact VSub.cap | exact VSub.any _) ?_))))); apply WpItems.evR)); (· simp only [go_sem, reduceIte, Nat.reduceEqDiff, Nat.reduceAdd, bx, ax, if_true, if_false, Nat.reduceMul, Nat.reduceLeDiff, g1, hil]; exact rfl))
      | (refine WpItems.nil ⟨?_, ?_⟩; (· first | trivial | simp [pairsQ, pairsOk, apart, ent0]))
      | (apply Wp.cond_lit; (· simp only [go_sem, reduceIte, Nat.reduceEqDiff, Nat.reduceAdd, bx, ax, if_true, if_false, Nat.reduceMul, Nat.reduceLeDiff, g1, hil]; exact rfl); (· rfl))
      | refine Wp.skip ?_
      | refine Wp.label ?_
      | refine Wp.block ?_
      | refine Wp.exit ?_
      | refine Wp.seq ?_)
    refine Wp.ret ⟨trivial, _, rfl, ?_⟩
    simp only [go_sem, reduceIte, Nat.reduceEqDiff, Nat.reduceAdd, bx]
    exact VSub.refl _
end Go.Proofs.YtkcgpcbpieofnaaGreatDoor.Fl
end
section
set_option linter.unusedSimpArgs false
set_option linter.unusedVariables false
set_option maxRecDepth 100000
namespace Go.Proofs.YtkcgpcbpieofnaaGreatDoor.Desk
open Go Go.Av Go.Proofs Go.Proofs.YtkcgpcbpieofnaaGreatDoor.C Go.Proofs.YtkcgpcbpieofnaaGreatDoor.Batch Go.Proofs.YtkcgpcbpieofnaaGreatDoor.Reads
def bytesOf : List AV → Option (List UInt8)
  | [] => some []
  | .int .u8 (.ofNat n) :: l => match Nat.beq (UInt8.ofNat n).toNat n, bytesOf l with
    | true, some r => some (UInt8.ofNat n :: r)
    | _, _ => none
  | _ => none
theorem bytesOf_ok : ∀ {xs : List AV} {l : List UInt8}, bytesOf xs = some l → xs = bytesAV l
  | [], l, h => by simp only [bytesOf, Option.some.injEq] at h; subst h; rfl
  | x :: xs, l, h => by
    unfold bytesOf at h
    split at h
    · rename_i e; cases e
    · rename_i n l' e
      cases e
      split at h
      · rename_i r h1 h2
        cases h
        have h1 := Nat.eq_of_beq_eq_true h1
        rw [bytesOf_ok h2]
        have e2 : byte (UInt8.ofNat n) = .int .u8 (.ofNat n) := by
          change AV.int .u8 (((UInt8.ofNat n).toNat : Nat) : Int) = _
          rw [h1]; rfl
        change _ = byte (UInt8.ofNat n) :: bytesAV r
        rw [e2]
      · cases h
    · cases h
def tagPP (f : Nat) (args : List AV) : Option AV :=
  match Nat.beq f 49 with
  | true => match args with
    | [.sl s xs _] => match bytesOf xs with
      | some l => match (Nat.beq s 1 || l.isEmpty) && Nat.ble l.length 140737488351232 with
        | true => some (.agg [.int .i64 ((Fl.tagN l).1 : Nat), .int .i64 ((Fl.tagN l).2 : Nat)])
        | false => none
      | none => none
    | _ => none
  | false => none
theorem tagPP_ok {f : Nat} {args : List AV} {r : AV} (h : tagPP f args = some r) : (∃ vals, VSubs args vals ∧ PCalls Tryz.prog f vals r) ∧ NamedF Tryz.prog f := by
  unfold tagPP at h
  split at h
  · rename_i e
    have e := Nat.eq_of_beq_eq_true e
    subst e
    split at h
    · split at h
      · rename_i l hl
        split at h
        · rename_i hc
          cases h
          simp only [Bool.and_eq_true, Bool.or_eq_true] at hc
          refine ⟨⟨[.sl 1 (bytesAV l) .any], VSubs.cons ?_ VSubs.nil, Fl.of_p l (Nat.le_of_ble_eq_true hc.2)⟩, named Tryz.func49 (of_decide_eq_true (by kernel_rfl)) (of_decide_eq_true (by kernel_rfl))⟩
          rw [bytesOf_ok hl]
          rcases hc.1 with e | e
          · rw [Nat.eq_of_beq_eq_true e]; exact VSub.cap
          · have : l = [] := List.isEmpty_iff.1 e
            subst this; exact VSub.nil
        · cases h
      · cases h
    · cases h
  · cases h
noncomputable def prims : PrimsZ := orPrimsZ (insPrim 183) (orPrimsZ (purePrimZ readsPP) (purePrimZ tagPP))
theorem prims_ok : PrimsOkZ Tryz.prog prims := orPrimsZ_ok insPrim_ok (orPrimsZ_ok (purePrimZ_ok fun f args r h => readsPP_ok h) (purePrimZ_ok fun f args r h => tagPP_ok h))
end Go.Proofs.YtkcgpcbpieofnaaGreatDoor.Desk
end
section
set_option maxRecDepth 100000
namespace Go.Proofs.YtkcgpcbpieofnaaGreatDoor.C
open Go.Av
def tabE : FT :=
  (.node 119 ⟨55, c119, [.tmp 10, .tmp 11]⟩ (.node 69 ⟨17, c69, [.tmp 4]⟩ (.node 49 ⟨27, c49, [.cell 2 (some 2)]⟩ (.node 38 ⟨3, c38, [.tmp 0]⟩ (.node 21 ⟨32, c21, [.tmp 4]⟩ (.node 11 ⟨4, c11, [.tmp 0]⟩
  (.node 10 ⟨26, c10, [.tmp 4, .tmp 5]⟩ .leaf .leaf) (.node 15 ⟨72, c15, [.tmp 10, .tmp 11]⟩ .leaf .leaf)) (.node 37 ⟨110, c37, [.tmp 0]⟩ (.node 33 ⟨9, c33, [.tmp 2]⟩ .leaf .leaf) .leaf)) (.node 42
  ⟨15, c42, [.tmp 0, .tmp 1]⟩ (.node 40 ⟨40, c40, [.tmp 4, .tmp 5]⟩ (.node 39 ⟨22, c39, [.tmp 4]⟩ .leaf .leaf) (.node 41 ⟨40, c41, [.tmp 4, .tmp 5]⟩ .leaf .leaf)) (.node 47 ⟨80, c47, [.tmp 4]⟩ (.node
  46 ⟨22, c46, [.cell 4 (some 24)]⟩ .leaf .leaf) .leaf))) (.node 57 ⟨49, c57, [.tmp 2]⟩ (.node 53 ⟨15, c53, [.tmp 8, .tmp 9]⟩ (.node 51 ⟨12, c51, [.tmp 2]⟩ (.node 50 ⟨31, c50, [.tmp 6, .tmp 7]⟩ .leaf
  .leaf) (.node 52 ⟨62, c52, [.cell 2 (some 2), .tmp 3]⟩ .leaf .leaf)) (.node 56 ⟨7, c56, [.tmp 2]⟩ (.node 55 ⟨15, c55, [.tmp 2]⟩ .leaf .leaf) .leaf)) (.node 61 ⟨73, c61, [.tmp 2, .tmp 3]⟩ (.node 59
  ⟨26, c59, [.tmp 2]⟩ (.node 58 ⟨31, c58, [.tmp 4, .tmp 5]⟩ .leaf .leaf) (.node 60 ⟨18, c60, [.tmp 4]⟩ .leaf .leaf)) (.node 63 ⟨47, c63, [.tmp 10, .tmp 11]⟩ (.node 62 ⟨42, c62, [.tmp 4]⟩ .leaf .leaf)
  .leaf)))) (.node 106 ⟨26, c106, [.tmp 4]⟩ (.node 98 ⟨131, c98, [.cell 6 (some 24)]⟩ (.node 82 ⟨10, c82, [.tmp 2]⟩ (.node 78 ⟨29, c78, [.tmp 6]⟩ (.node 73 ⟨20, c73, [.tmp 4]⟩ .leaf .leaf) (.node 79
  ⟨40, c79, [.tmp 2, .tmp 3]⟩ .leaf .leaf)) (.node 84 ⟨12, c84, [.tmp 6]⟩ (.node 83 ⟨29, c83, [.tmp 2]⟩ .leaf .leaf) .leaf)) (.node 103 ⟨26, c103, [.tmp 4]⟩ (.node 100 ⟨90, c100, [.cell 6 (some 24)]⟩
  (.node 99 ⟨7, c99, [.cell 2 (some 24)]⟩ .leaf .leaf) (.node 101 ⟨6, c101, [.cell 2 (some 24)]⟩ .leaf .leaf)) (.node 105 ⟨52, c105, [.tmp 4]⟩ (.node 104 ⟨31, c104, [.tmp 4]⟩ .leaf .leaf) .leaf)))
  (.node 113 ⟨12, c113, [.tmp 2]⟩ (.node 110 ⟨10, c110, [.cell 2 (some 2)]⟩ (.node 108 ⟨33, c108, [.tmp 4]⟩ (.node 107 ⟨26, c107, [.tmp 4]⟩ .leaf .leaf) (.node 109 ⟨10, c109, [.tmp 2]⟩ .leaf .leaf))
  (.node 112 ⟨28, c112, [.tmp 4, .tmp 5]⟩ (.node 111 ⟨23, c111, [.tmp 4]⟩ .leaf .leaf) .leaf)) (.node 116 ⟨5, c116, [.tmp 2]⟩ (.node 115 ⟨55, c115, [.tmp 4]⟩ (.node 114 ⟨32, c114, [.tmp 2]⟩ .leaf
  .leaf) .leaf) (.node 118 ⟨78, c118, [.tmp 4, .tmp 5]⟩ (.node 117 ⟨26, c117, [.tmp 4, .tmp 5]⟩ .leaf .leaf) .leaf))))) (.node 167 ⟨26, c167, [.tmp 4, .tmp 5]⟩ (.node 145 ⟨11, c145, [.tmp 2]⟩ (.node
  130 ⟨12, c130, [.tmp 4]⟩ (.node 126 ⟨21, c126, [.tmp 2, .tmp 3]⟩ (.node 124 ⟨14, c124, [.tmp 4]⟩ (.node 120 ⟨101, c120, [.tmp 8]⟩ .leaf .leaf) (.node 125 ⟨11, c125, [.tmp 4, .tmp 5]⟩ .leaf .leaf))
  (.node 129 ⟨58, c129, [.tmp 6]⟩ (.node 128 ⟨19, c128, [.tmp 4]⟩ .leaf .leaf) .leaf)) (.node 139 ⟨14, c139, [.tmp 4]⟩ (.node 137 ⟨15, c137, [.tmp 2, .tmp 3]⟩ (.node 134 ⟨21, c134, [.tmp 6]⟩ .leaf
  .leaf) (.node 138 ⟨22, c138, [.tmp 2]⟩ .leaf .leaf)) (.node 142 ⟨30, c142, [.tmp 2, .tmp 3]⟩ (.node 141 ⟨58, c141, [.tmp 2, .tmp 3]⟩ .leaf .leaf) .leaf))) (.node 152 ⟨38, c152, [.tmp 2, .tmp 3]⟩
  (.node 149 ⟨9, c149, [.tmp 4]⟩ (.node 147 ⟨12, c147, [.tmp 2]⟩ (.node 146 ⟨10, c146, [.tmp 2]⟩ .leaf .leaf) (.node 148 ⟨31, c148, [.tmp 2]⟩ .leaf .leaf)) (.node 151 ⟨11, c151, [.cell 4 (some 3)]⟩
  (.node 150 ⟨5, c150, [.cell 2 (some 3)]⟩ .leaf .leaf) .leaf)) (.node 155 ⟨54, c155, [.tmp 4, .tmp 5]⟩ (.node 154 ⟨21, c154, []⟩ (.node 153 ⟨8, c153, [.tmp 6]⟩ .leaf .leaf) .leaf) (.node 166 ⟨72,
  c166, [.tmp 2, .tmp 3]⟩ (.node 165 ⟨26, c165, [.tmp 4, .tmp 5]⟩ .leaf .leaf) .leaf)))) (.node 198 ⟨6, c198, [.tmp 2]⟩ (.node 190 ⟨11, c190, [.tmp 4]⟩ (.node 185 ⟨9, c185, [.tmp 4]⟩ (.node 182 ⟨53,
  c182, [.tmp 2, .tmp 3]⟩ (.node 168 ⟨58, c168, [.tmp 2, .tmp 3]⟩ .leaf .leaf) (.node 184 ⟨20, c184, [.tmp 2]⟩ .leaf .leaf)) (.node 187 ⟨9, c187, [.tmp 4]⟩ (.node 186 ⟨9, c186, [.tmp 4]⟩ .leaf .leaf)
  .leaf)) (.node 195 ⟨49, c195, [.tmp 4]⟩ (.node 193 ⟨12, c193, [.tmp 4]⟩ (.node 192 ⟨26, c192, [.tmp 4]⟩ .leaf .leaf) (.node 194 ⟨16, c194, [.tmp 2]⟩ .leaf .leaf)) (.node 197 ⟨17, c197, [.tmp 4]⟩
  (.node 196 ⟨43, c196, []⟩ .leaf .leaf) .leaf))) (.node 236 ⟨15, c236, [.tmp 4]⟩ (.node 221 ⟨62, c221, [.tmp 4]⟩ (.node 216 ⟨24, c216, [.tmp 6]⟩ (.node 215 ⟨24, c215, [.tmp 6]⟩ .leaf .leaf) (.node
  217 ⟨24, c217, [.tmp 6]⟩ .leaf .leaf)) (.node 223 ⟨6, c223, [.tmp 2]⟩ (.node 222 ⟨26, c222, [.tmp 6]⟩ .leaf .leaf) .leaf)) (.node 240 ⟨12, c240, [.tmp 2, .tmp 3]⟩ (.node 239 ⟨7, c239, [.tmp 2]⟩
  (.node 237 ⟨6, c237, [.tmp 2]⟩ .leaf .leaf) .leaf) (.node 259 ⟨10, c259, [.tmp 2, .tmp 3]⟩ (.node 251 ⟨38, c251, [.tmp 2, .tmp 3]⟩ .leaf .leaf) .leaf))))))
theorem tabE_ok : tabE.Ok Tryz.prog :=
  ⟨f119, ⟨f69, ⟨f49, ⟨f38, ⟨f21, ⟨f11, ⟨f10, trivial, trivial⟩, ⟨f15, trivial, trivial⟩⟩, ⟨f37, ⟨f33, trivial, trivial⟩, trivial⟩⟩, ⟨f42, ⟨f40, ⟨f39, trivial, trivial⟩, ⟨f41, trivial, trivial⟩⟩, ⟨f47,
  ⟨f46, trivial, trivial⟩, trivial⟩⟩⟩, ⟨f57, ⟨f53, ⟨f51, ⟨f50, trivial, trivial⟩, ⟨f52, trivial, trivial⟩⟩, ⟨f56, ⟨f55, trivial, trivial⟩, trivial⟩⟩, ⟨f61, ⟨f59, ⟨f58, trivial, trivial⟩, ⟨f60,
  trivial, trivial⟩⟩, ⟨f63, ⟨f62, trivial, trivial⟩, trivial⟩⟩⟩⟩, ⟨f106, ⟨f98, ⟨f82, ⟨f78, ⟨f73, trivial, trivial⟩, ⟨f79, trivial, trivial⟩⟩, ⟨f84, ⟨f83, trivial, trivial⟩, trivial⟩⟩, ⟨f103, ⟨f100,
  ⟨f99, trivial, trivial⟩, ⟨f101, trivial, trivial⟩⟩, ⟨f105, ⟨f104, trivial, trivial⟩, trivial⟩⟩⟩, ⟨f113, ⟨f110, ⟨f108, ⟨f107, trivial, trivial⟩, ⟨f109, trivial, trivial⟩⟩, ⟨f112, ⟨f111, trivial,
  trivial⟩, trivial⟩⟩, ⟨f116, ⟨f115, ⟨f114, trivial, trivial⟩, trivial⟩, ⟨f118, ⟨f117, trivial, trivial⟩, trivial⟩⟩⟩⟩⟩, ⟨f167, ⟨f145, ⟨f130, ⟨f126, ⟨f124, ⟨f120, trivial, trivial⟩, ⟨f125, trivial,
  trivial⟩⟩, ⟨f129, ⟨f128, trivial, trivial⟩, trivial⟩⟩, ⟨f139, ⟨f137, ⟨f134, trivial, trivial⟩, ⟨f138, trivial, trivial⟩⟩, ⟨f142, ⟨f141, trivial, trivial⟩, trivial⟩⟩⟩, ⟨f152, ⟨f149, ⟨f147, ⟨f146,
  trivial, trivial⟩, ⟨f148, trivial, trivial⟩⟩, ⟨f151, ⟨f150, trivial, trivial⟩, trivial⟩⟩, ⟨f155, ⟨f154, ⟨f153, trivial, trivial⟩, trivial⟩, ⟨f166, ⟨f165, trivial, trivial⟩, trivial⟩⟩⟩⟩, ⟨f198,
  ⟨f190, ⟨f185, ⟨f182, ⟨f168, trivial, trivial⟩, ⟨f184, trivial, trivial⟩⟩, ⟨f187, ⟨f186, trivial, trivial⟩, trivial⟩⟩, ⟨f195, ⟨f193, ⟨f192, trivial, trivial⟩, ⟨f194, trivial, trivial⟩⟩, ⟨f197, ⟨f196,
  trivial, trivial⟩, trivial⟩⟩⟩, ⟨f236, ⟨f221, ⟨f216, ⟨f215, trivial, trivial⟩, ⟨f217, trivial, trivial⟩⟩, ⟨f223, ⟨f222, trivial, trivial⟩, trivial⟩⟩, ⟨f240, ⟨f239, ⟨f237, trivial, trivial⟩, trivial⟩,
  ⟨f259, ⟨f251, trivial, trivial⟩, trivial⟩⟩⟩⟩⟩⟩
theorem tabE_named : tabE.named Tryz.prog = true := by kernel_rfl
end Go.Proofs.YtkcgpcbpieofnaaGreatDoor.C
end
section
set_option maxRecDepth 100000
namespace Go.Proofs.YtkcgpcbpieofnaaGreatDoor.Desk
open Go Go.Av Go.Proofs Go.Proofs.YtkcgpcbpieofnaaGreatDoor.C
theorem lives25_p : PCalls Tryz.prog 37 [] (.bool true) := pcalls_runZ tabE_ok tabE_named prims_ok (k := 100000) (by kernel_rfl)
end Go.Proofs.YtkcgpcbpieofnaaGreatDoor.Desk
end
section
set_option linter.unusedSimpArgs false
set_option linter.unusedVariables false
set_option maxRecDepth 100000
namespace Go.Proofs.YtkcgpcbpieofnaaGreatDoor.Desk
open Go Go.Av Go.Proofs Go.Proofs.YtkcgpcbpieofnaaGreatDoor.C
def ownB (k : Int) : Bool := decide (5 ≤ k) && decide (k ≤ 21)
theorem own_p (k : Int) : PCalls Tryz.prog 33 [.int .i64 k] (.bool (ownB k)) := by
  refine f33.pcalls0 (by simp) rfl rfl ?_
  unfold c33 ownB
  by_cases h : 5 ≤ k
  · have d1 := decide_eq_true h
    repeat (first
      | ((first | apply Wp.seqItemsR | apply Wp.itemsR); (· simp only [go_sem, reduceIte, Nat.reduceEqDiff, Nat.reduceAdd, bx, ax, if_true, if_false, Nat.reduceMul, Nat.reduceLeDiff, d1]; exact rfl))
      | (refine WpItems.nil ⟨?_, ?_⟩; (· first | trivial | simp [pairsQ, pairsOk, apart, ent0]))
      | (apply Wp.cond_lit; (· simp only [go_sem, reduceIte, Nat.reduceEqDiff, Nat.reduceAdd, bx, ax, if_true, if_false, Nat.reduceMul, Nat.reduceLeDiff, d1]; exact rfl); (· rfl))
      | refine Wp.skip ?_
      | refine Wp.label ?_
      | refine Wp.block ?_
      | refine Wp.exit ?_
      | refine Wp.seq ?_)
    refine Wp.ret ⟨trivial, _, rfl, ?_⟩
    simp only [go_sem, reduceIte, Nat.reduceEqDiff, Nat.reduceAdd, bx]
    rw [d1]; exact VSub.refl _
  · have d1 := decide_eq_false h
    repeat (first
      | ((first | apply Wp.seqItemsR | apply Wp.itemsR); (· simp only [go_sem, reduceIte, Nat.reduceEqDiff, Nat.reduceAdd, bx, ax, if_true, if_false, Nat.reduceMul, Nat.reduceLeDiff, d1]; exact rfl))
      | (refine WpItems.nil ⟨?_, ?_⟩; (· first | trivial | simp [pairsQ, pairsOk, apart, ent0]))
      | (apply Wp.cond_lit; (· simp only [go_sem, reduceIte, Nat.reduceEqDiff, Nat.reduceAdd, bx, ax, if_true, if_false, Nat.reduceMul, Nat.reduceLeDiff, d1]; exact rfl); (· rfl))
      | refine Wp.skip ?_
      | refine Wp.label ?_
      | refine Wp.block ?_
      | refine Wp.exit ?_
      | refine Wp.seq ?_)
    refine Wp.ret ⟨trivial, _, rfl, ?_⟩
    simp only [go_sem, reduceIte, Nat.reduceEqDiff, Nat.reduceAdd, bx]
    rw [d1]; exact VSub.refl _
end Go.Proofs.YtkcgpcbpieofnaaGreatDoor.Desk
end
section
set_option linter.unusedSimpArgs false
set_option linter.unusedVariables false
set_option maxRecDepth 10000
namespace Go.Proofs.YtkcgpcbpieofnaaGreatDoor.Desk
open Go Go.Av Go.Proofs Go.Proofs.YtkcgpcbpieofnaaGreatDoor.C
def fitN (s : List UInt8) (a : Int) : Int := if 2560 < (s.length : Int) then 5 else if a < 0 ∨ 2 < a then 2 else 0
theorem fit_p (s : List UInt8) (a b c : Int) : PCalls Tryz.prog 60 [.str s, .agg [.int .i64 a, .int .i64 b, .int .i64 c]] (.int .i64 (fitN s a)) := by
  refine f60.pcalls0 (by simp) rfl rfl ?_
  unfold c60 fitN
  cases d1 : decide (2560 < (s.length : Int)) with
  | true =>
    rw [if_pos (of_decide_eq_true d1)]
    repeat (first
      | ((first | apply Wp.seqItemsR | apply Wp.itemsR); (· simp only [go_sem, reduceIte, Nat.reduceEqDiff, Nat.reduceAdd, bx, ax, if_true, if_false, Nat.reduceMul, Nat.reduceLeDiff, d1, List.all_cons, List.all_nil]; exact rfl))
      | (refine WpItems.nil ⟨?_, ?_⟩; (· first | trivial | simp [pairsQ, pairsOk, apart, ent0]))
      | (apply Wp.cond_lit; (· simp only [go_sem, reduceIte, Nat.reduceEqDiff, Nat.reduceAdd, bx, ax, if_true, if_false, Nat.reduceMul, Nat.reduceLeDiff, d1, List.all_cons, List.all_nil]; exact rfl); (· rfl))
      | refine Wp.skip ?_
      | refine Wp.label ?_
      | refine Wp.block ?_
      | refine Wp.exit ?_
      | refine Wp.seq ?_)
    refine Wp.ret ⟨trivial, _, rfl, ?_⟩
    simp only [go_sem, reduceIte, Nat.reduceEqDiff, Nat.reduceAdd, bx]
    exact VSub.refl _
  | false =>
  rw [if_neg (of_decide_eq_false d1)]
  cases d2 : decide (a < 0) with
  | true =>
    rw [if_pos (Or.inl (of_decide_eq_true d2))]
    repeat (first
      | ((first | apply Wp.seqItemsR | apply Wp.itemsR); (· simp only [go_sem, reduceIte, Nat.reduceEqDiff, Nat.reduceAdd, bx, ax, if_true, if_false, Nat.reduceMul, Nat.reduceLeDiff, d1, d2, List.all_cons, List.all_nil]; exact rfl))
      | (refine WpItems.nil ⟨?_, ?_⟩; (· first | trivial | simp [pairsQ, pairsOk, apart, ent0]))
      | (apply Wp.cond_lit; (· simp only [go_sem, reduceIte, Nat.reduceEqDiff, Nat.reduceAdd, bx, ax, if_true, if_false, Nat.reduceMul, Nat.reduceLeDiff, d1, d2, List.all_cons, List.all_nil]; exact rfl); (· rfl))
      | refine Wp.skip ?_
      | refine Wp.label ?_
      | refine Wp.block ?_
      | refine Wp.exit ?_
      | refine Wp.seq ?_)
    refine Wp.ret ⟨trivial, _, rfl, ?_⟩
    simp only [go_sem, reduceIte, Nat.reduceEqDiff, Nat.reduceAdd, bx]
    exact VSub.refl _
  | false =>
  cases d3 : decide (2 < a) with
  | true =>
    rw [if_pos (Or.inr (of_decide_eq_true d3))]
    repeat (first
      | ((first | apply Wp.seqItemsR | apply Wp.itemsR); (· simp only [go_sem, reduceIte, Nat.reduceEqDiff, Nat.reduceAdd, bx, ax, if_true, if_false, Nat.reduceMul, Nat.reduceLeDiff, d1, d2, d3, List.all_cons, List.all_nil]; exact rfl))
      | (refine WpItems.nil ⟨?_, ?_⟩; (· first | trivial | simp [pairsQ, pairsOk, apart, ent0]))
      | (apply Wp.cond_lit; (· simp only [go_sem, reduceIte, Nat.reduceEqDiff, Nat.reduceAdd, bx, ax, if_true, if_false, Nat.reduceMul, Nat.reduceLeDiff, d1, d2, d3, List.all_cons, List.all_nil]; exact rfl); (· rfl))
      | refine Wp.skip ?_
      | refine Wp.label ?_
      | refine Wp.block ?_
      | refine Wp.exit ?_
      | refine Wp.seq ?_)
    refine Wp.ret ⟨trivial, _, rfl, ?_⟩
    simp only [go_sem, reduceIte, Nat.reduceEqDiff, Nat.reduceAdd, bx]
    exact VSub.refl _
  | false =>
    rw [if_neg (fun h => h.elim (of_decide_eq_false d2) (of_decide_eq_false d3))]
    repeat (first
      | ((first | apply Wp.seqItemsR | apply Wp.itemsR); (· simp only [go_sem, reduceIte, Nat.reduceEqDiff, Nat.reduceAdd, bx, ax, if_true, if_false, Nat.reduceMul, Nat.reduceLeDiff, d1, d2, d3, List.all_cons, List.all_nil]; exact rfl))
      | (refine WpItems.nil ⟨?_, ?_⟩; (· first | trivial | simp [pairsQ, pairsOk, apart, ent0]))
      | (apply Wp.cond_lit; (· simp only [go_sem, reduceIte, Nat.reduceEqDiff, Nat.reduceAdd, bx, ax, if_true, if_false, Nat.reduceMul, Nat.reduceLeDiff, d1, d2, d3, List.all_cons, List.all_nil]; exact rfl); (· rfl))
      | refine Wp.skip ?_
      | refine Wp.label ?_
      | refine Wp.block ?_
      | refine Wp.exit ?_
      | refine Wp.seq ?_)
    refine Wp.ret ⟨trivial, _, rfl, ?_⟩
    simp only [go_sem, reduceIte, Nat.reduceEqDiff, Nat.reduceAdd, bx]
    exact VSub.refl _
def seen (c : UInt8) : Bool := decide (33 ≤ c.toNat) && decide (c.toNat ≤ 126)
def objectN (s : List UInt8) : Int := if s ≠ [] ∧ s.length ≤ 32 ∧ s.all seen = true then 0 else 15
theorem all_take (p : UInt8 → Bool) (s : List UInt8) (j : Nat) (h : j < s.length) : (s.take (j + 1)).all p = ((s.take j).all p && p (s.getD j default)) := by
  rw [List.take_add_one, List.all_append]
  simp [List.getD, List.getElem?_eq_getElem h]
theorem all_at (p : UInt8 → Bool) (s : List UInt8) (j : Nat) (h : j < s.length) (hp : p (s.getD j default) = false) : s.all p = false := by
  cases e : s.all p with
  | false => rfl
  | true =>
    have := List.all_eq_true.1 e (s.getD j default) (by simp [List.getD, List.getElem?_eq_getElem h])
    rw [hp] at this; exact this.symm
theorem object_p (s : List UInt8) : PCalls Tryz.prog 59 [.str s] (.int .i64 (objectN s)) := by
  by_cases h0 : s = []
  · subst h0
    refine f59.pcalls0 (by simp) rfl rfl ?_
    unfold c59
    repeat (first
      | ((first | apply Wp.seqItemsR | apply Wp.itemsR); (· simp only [go_sem, reduceIte, Nat.reduceEqDiff, Nat.reduceAdd, bx, ax, if_true, if_false, Nat.reduceMul, Nat.reduceLeDiff, decide_true]; exact rfl))
      | (refine WpItems.nil ⟨?_, ?_⟩; (· first | trivial | simp [pairsQ, pairsOk, apart, ent0]))
      | (apply Wp.cond_lit; (· simp only [go_sem, reduceIte, Nat.reduceEqDiff, Nat.reduceAdd, bx, ax, if_true, if_false, Nat.reduceMul, Nat.reduceLeDiff, decide_true]; exact rfl); (· rfl))
      | refine Wp.skip ?_
      | refine Wp.label ?_
      | refine Wp.block ?_
      | refine Wp.exit ?_
      | refine Wp.seq ?_)
    refine Wp.ret ⟨trivial, _, rfl, ?_⟩
    simp only [go_sem, reduceIte, Nat.reduceEqDiff, Nat.reduceAdd, bx]
    exact VSub.refl _
  have d0 := decide_eq_false h0
  cases d1 : decide (32 < (s.length : Int)) with
  | true =>
    have : objectN s = 15 := if_neg fun h => by have := of_decide_eq_true d1; omega
    rw [this]
    refine f59.pcalls0 (by simp) rfl rfl ?_
    unfold c59
    repeat (first
      | ((first | apply Wp.seqItemsR | apply Wp.itemsR); (· simp only [go_sem, reduceIte, Nat.reduceEqDiff, Nat.reduceAdd, bx, ax, if_true, if_false, Nat.reduceMul, Nat.reduceLeDiff, d0, d1]; exact rfl))
      | (refine WpItems.nil ⟨?_, ?_⟩; (· first | trivial | simp [pairsQ, pairsOk, apart, ent0]))
      | (apply Wp.cond_lit; (· simp only [go_sem, reduceIte, Nat.reduceEqDiff, Nat.reduceAdd, bx, ax, if_true, if_false, Nat.reduceMul, Nat.reduceLeDiff, d0, d1]; exact rfl); (· rfl))
      | refine Wp.skip ?_
      | refine Wp.label ?_
      | refine Wp.block ?_
      | refine Wp.exit ?_
      | refine Wp.seq ?_)
    refine Wp.ret ⟨trivial, _, rfl, ?_⟩
    simp only [go_sem, reduceIte, Nat.reduceEqDiff, Nat.reduceAdd, bx]
    exact VSub.refl _
  | false =>
  have hil : (bytesAV s).length = s.length := by simp [bytesAV]
  have hl := of_decide_eq_false d1
  refine f59.pcalls0 (by simp) rfl rfl ?_
  unfold c59
  repeat (first
    | ((first | apply Wp.seqItemsR | apply Wp.itemsR); (· simp only [go_sem, reduceIte, Nat.reduceEqDiff, Nat.reduceAdd, bx, ax, if_true, if_false, Nat.reduceMul, Nat.reduceLeDiff, d0, d1, hil]; exact rfl))
    | (refine WpItems.nil ⟨?_, ?_⟩; (· first | trivial | simp [pairsQ, pairsOk, apart, ent0]))
    | (apply Wp.cond_lit; (· simp only [go_sem, reduceIte, Nat.reduceEqDiff, Nat.reduceAdd, bx, ax, if_true, if_false, Nat.reduceMul, Nat.reduceLeDiff, d0, d1, hil]; exact rfl); (· rfl))
    | refine Wp.skip ?_
    | refine Wp.label ?_
    | refine Wp.block ?_
    | refine Wp.exit ?_
    | refine Wp.seq ?_)
  refine Wp.loopK [13, 14] (by simp only [go_sem, reduceIte, Nat.reduceEqDiff, Nat.reduceAdd, bx, List.map]; exact rfl) (fun j : Nat => [(15, .int .i64 (j : Nat))]) (fun j => j ≤ s.length ∧ (s.take j).all seen = true) (fun j => s.length - j) 0 ⟨Nat.zero_le _, rfl⟩ ?_ ?_
  · simp only [AllSub, go_sem, reduceIte, Nat.reduceEqDiff, Nat.reduceAdd, bx]; and_intros <;> first | exact trivial | exact VSub.refl _ | exact VSub.any _ | (refine VSub.int ?_; omega)
  rintro j ⟨hj, hall⟩
  by_cases hcj : j < s.length
  · have g1 : decide (((j : Nat) : Int) < ((s.length : Nat) : Int)) = true := decide_eq_true (by omega)
    have h2 : (0 : Int) ≤ ((j : Nat) : Int) := by omega
    have h3 : ((j : Nat) : Int) < ((s.length : Nat) : Int) := by omega
    have e1 : IntKind.i64.wrap (((j : Nat) : Int) + 1) = ((j + 1 : Nat) : Int) := by rw [IntWalk.i64_in _ (by omega)]; omega
    have hat : (bytesAV s).getD j .any = byte (s.getD j default) := enc_at byte s j .any hcj
    have tk := all_take seen s j hcj
    have fa := all_at seen s j hcj
    generalize hx : s.getD j default = x at hat tk fa
    have hby : byte x = .int .u8 (x.toNat : Nat) := rfl
    rw [hby] at hat
    cases b1 : decide ((x.toNat : Int) < 33) with
    | true =>
      have hv : objectN s = 15 := if_neg fun h => by
        have : seen x = false := by unfold seen; rw [decide_eq_false (by have := of_decide_eq_true b1; omega)]; rfl
        rw [fa this] at h; exact absurd h.2.2 (by decide)
      repeat (first
        | ((first | apply Wp.seqItemsR | apply Wp.itemsR); (· simp only [go_sem, reduceIte, Nat.reduceEqDiff, Nat.reduceAdd, bx, ax, if_true, if_false, Nat.reduceMul, Nat.reduceLeDiff, g1, h2, h3, e1, hat, b1, hil]; exact rfl))
        | (refine WpItems.nil ⟨?_, ?_⟩; (· first | trivial | simp [pairsQ, pairsOk, apart, ent0]))
        | (apply Wp.cond_lit; (· simp only [go_sem, reduceIte, Nat.reduceEqDiff, Nat.reduceAdd, bx, ax, if_true, if_false, Nat.reduceMul, Nat.reduceLeDiff, g1, h2, h3, e1, hat, b1, hil]; exact rfl); (· rfl))
        | refine Wp.skip ?_
        | refine Wp.label ?_
        | refine Wp.block ?_
        | refine Wp.exit ?_
        | refine Wp.seq ?_)
      refine Wp.ret ⟨trivial, _, rfl, ?_⟩
      simp only [go_sem, reduceIte, Nat.reduceEqDiff, Nat.reduceAdd, bx]
      rw [hv]; exact VSub.refl _
    | false =>
    cases b2 : decide (126 < (x.toNat : Int)) with
    | true =>
      have hv : objectN s = 15 := if_neg fun h => by
        have : seen x = false := by unfold seen; rw [decide_eq_false (p := x.toNat ≤ 126) (by have := of_decide_eq_true b2; omega)]; simp
        rw [fa this] at h; exact absurd h.2.2 (by decide)
      repeat (first
        | ((first | apply Wp.seqItemsR | apply Wp.itemsR); (· simp only [go_sem, reduceIte, Nat.reduceEqDiff, Nat.reduceAdd, bx, ax, if_true, if_false, Nat.reduceMul, Nat.reduceLeDiff, g1, h2, h3, e1, hat, b1, b2, hil]; exact rfl))
        | (refine WpItems.nil ⟨?_, ?_⟩; (· first | trivial | simp [pairsQ, pairsOk, apart, ent0]))
        | (apply Wp.cond_lit; (· simp only [go_sem, reduceIte, Nat.reduceEqDiff, Nat.reduceAdd, bx, ax, if_true, if_false, Nat.reduceMul, Nat.reduceLeDiff, g1, h2, h3, e1, hat, b1, b2, hil]; exact rfl); (· rfl))
        | refine Wp.skip ?_
        | refine Wp.label ?_
        | refine Wp.block ?_
        | refine Wp.exit ?_
        | refine Wp.seq ?_)
      refine Wp.ret ⟨trivial, _, rfl, ?_⟩
      simp only [go_sem, reduceIte, Nat.reduceEqDiff, Nat.reduceAdd, bx]
      rw [hv]; exact VSub.refl _
    | false =>
      have hs : seen x = true := by
        have := of_decide_eq_false b1; have := of_decide_eq_false b2
        unfold seen; rw [decide_eq_true (by omega), decide_eq_true (by omega)]; rfl
      repeat (first
        | ((first | apply Wp.seqItemsR | apply Wp.itemsR); (· simp only [go_sem, reduceIte, Nat.reduceEqDiff, Nat.reduceAdd, bx, ax, if_true, if_false, Nat.reduceMul, Nat.reduceLeDiff, g1, h2, h3, e1, hat, b1, b2, hil]; exact rfl))
        | (refine WpItems.nil ⟨?_, ?_⟩; (· first | trivial | simp [pairsQ, pairsOk, apart, ent0]))
        | (apply Wp.cond_lit; (· simp only [go_sem, reduceIte, Nat.reduceEqDiff, Nat.reduceAdd, bx, ax, if_true, if_false, Nat.reduceMul, Nat.reduceLeDiff, g1, h2, h3, e1, hat, b1, b2, hil]; exact rfl); (· rfl))
        | refine Wp.skip ?_
        | refine Wp.label ?_
        | refine Wp.block ?_
        | refine Wp.exit ?_
        | refine Wp.seq ?_)
      refine ⟨j + 1, ⟨by omega, by rw [tk, hall, hs]; rfl⟩, by omega, ?_⟩
      refine StLe.tm (by simp only [AllSub, go_sem, reduceIte, Nat.reduceEqDiff, Nat.reduceAdd, bx]; and_intros <;> first | exact trivial | exact VSub.refl _ | exact VSub.any _ | (refine VSub.int ?_; omega))
  · have hj2 : j = s.length := by omega
    subst hj2
    have g1 : decide (((s.length : Nat) : Int) < ((s.length : Nat) : Int)) = false := decide_eq_false (by omega)
    have ha : s.all seen = true := by rw [List.take_length] at hall; exact hall
    have hv : objectN s = 0 := if_pos ⟨h0, by omega, ha⟩
    rw [hv]
    repeat (first
      | ((first | apply Wp.seqItemsR | apply Wp.itemsR); (· simp only [go_sem, reduceIte, Nat.reduceEqDiff, Nat.reduceAdd, bx, ax, if_true, if_false, Nat.reduceMul, Nat.reduceLeDiff, g1, hil]; exact rfl))
      | (refine WpItems.nil ⟨?_, ?_⟩; (· first | trivial | simp [pairsQ, pairsOk, apart, ent0]))
      | (apply Wp.cond_lit; (· simp only [go_sem, reduceIte, Nat.reduceEqDiff, Nat.reduceAdd, bx, ax, if_true, if_false, Nat.reduceMul, Nat.reduceLeDiff, g1, hil]; exact rfl); (· rfl))
      | refine Wp.skip ?_
      | refine Wp.label ?_
      | refine Wp.block ?_
      | refine Wp.exit ?_
      | refine Wp.seq ?_)
    refine Wp.ret ⟨trivial, _, rfl, ?_⟩
    simp only [go_sem, reduceIte, Nat.reduceEqDiff, Nat.reduceAdd, bx]
    exact VSub.refl _
def buckAt (s : List UInt8) (i : Nat) : Bool :=
  let c := (s.getD i default).toNat
  if c = 45 then decide (0 < i) && decide (i + 1 < s.length) else (decide (48 ≤ c) && decide (c ≤ 57)) || (decide (97 ≤ c) && decide (c ≤ 122))
def bucketN (s : List UInt8) : Int := if 3 ≤ s.length ∧ s.length ≤ 12 ∧ (List.range s.length).all (buckAt s) = true then 0 else 15
theorem range_snoc (p : Nat → Bool) (j : Nat) : (List.range (j + 1)).all p = ((List.range j).all p && p j) := by
  rw [List.range_succ, List.all_append]; simp
theorem bucket_bad (s : List UInt8) (j : Nat) (h : j < s.length) (hp : buckAt s j = false) : bucketN s = 15 := if_neg fun h' => by
  have := List.all_eq_true.1 h'.2.2 j (List.mem_range.2 h)
  rw [hp] at this; cases this
theorem bucket_p (s : List UInt8) : PCalls Tryz.prog 57 [.str s] (.int .i64 (bucketN s)) := by
  cases d1 : decide ((s.length : Int) < 3) with
  | true =>
    have : bucketN s = 15 := if_neg fun h => by have := of_decide_eq_true d1; omega
    rw [this]
    refine f57.pcalls0 (by simp) rfl rfl ?_
    unfold c57
    repeat (first
      | ((first | apply Wp.seqItemsR | apply Wp.itemsR); (· simp only [go_sem, reduceIte, Nat.reduceEqDiff, Nat.reduceAdd, bx, ax, if_true, if_false, Nat.reduceMul, Nat.reduceLeDiff, d1]; exact rfl))
      | (refine WpItems.nil ⟨?_, ?_⟩; (· first | trivial | simp [pairsQ, pairsOk, apart, ent0]))
      | (apply Wp.cond_lit; (· simp only [go_sem, reduceIte, Nat.reduceEqDiff, Nat.reduceAdd, bx, ax, if_true, if_false, Nat.reduceMul, Nat.reduceLeDiff, d1]; exact rfl); (· rfl))
      | refine Wp.skip ?_
      | refine Wp.label ?_
      | refine Wp.block ?_
      | refine Wp.exit ?_
      | refine Wp.seq ?_)
    refine Wp.ret ⟨trivial, _, rfl, ?_⟩
    simp only [go_sem, reduceIte, Nat.reduceEqDiff, Nat.reduceAdd, bx]
    exact VSub.refl _
  | false =>
  cases d2 : decide (12 < (s.length : Int)) with
  | true =>
    have : bucketN s = 15 := if_neg fun h => by have := of_decide_eq_true d2; omega
    rw [this]
    refine f57.pcalls0 (by simp) rfl rfl ?_
    unfold c57
    repeat (first
      | ((first | apply Wp.seqItemsR | apply Wp.itemsR); (· simp only [go_sem, reduceIte, Nat.reduceEqDiff, Nat.reduceAdd, bx, ax, if_true, if_false, Nat.reduceMul, Nat.reduceLeDiff, d1, d2]; exact rfl))
      | (refine WpItems.nil ⟨?_, ?_⟩; (· first | trivial | simp [pairsQ, pairsOk, apart, ent0]))
      | (apply Wp.cond_lit; (· simp only [go_sem, reduceIte, Nat.reduceEqDiff, Nat.reduceAdd, bx, ax, if_true, if_false, Nat.reduceMul, Nat.reduceLeDiff, d1, d2]; exact rfl); (· rfl))
      | refine Wp.skip ?_
      | refine Wp.label ?_
      | refine Wp.block ?_
      | refine Wp.exit ?_
      | refine Wp.seq ?_)
    refine Wp.ret ⟨trivial, _, rfl, ?_⟩
    simp only [go_sem, reduceIte, Nat.reduceEqDiff, Nat.reduceAdd, bx]
    exact VSub.refl _
  | false =>
  have l1 := of_decide_eq_false d1
  have l2 := of_decide_eq_false d2
  refine f57.pcalls0 (by simp) rfl rfl ?_
  unfold c57
  repeat (first
    | ((first | apply Wp.seqItemsR | apply Wp.itemsR); (· simp only [go_sem, reduceIte, Nat.reduceEqDiff, Nat.reduceAdd, bx, ax, if_true, if_false, Nat.reduceMul, Nat.reduceLeDiff, d1, d2]; exact rfl))
    | (refine WpItems.nil ⟨?_, ?_⟩; (· first | trivial | simp [pairsQ, pairsOk, apart, ent0]))
    | (apply Wp.cond_lit; (· simp only [go_sem, reduceIte, Nat.reduceEqDiff, Nat.reduceAdd, bx, ax, if_true, if_false, Nat.reduceMul, Nat.reduceLeDiff, d1, d2]; exact rfl); (· rfl))
    | refine Wp.skip ?_
    | refine Wp.label ?_
    | refine Wp.block ?_
    | refine Wp.exit ?_
    | refine Wp.seq ?_)
  refine Wp.loopK [0, 14] (by simp only [go_sem, reduceIte, Nat.reduceEqDiff, Nat.reduceAdd, bx, List.map]; exact rfl) (fun j : Nat => [(15, .int .i64 (j : Nat))]) (fun j => j ≤ s.length ∧ (List.range j).all (buckAt s) = true) (fun j => s.length - j) 0 ⟨Nat.zero_le _, rfl⟩ ?_ ?_
  · simp only [AllSub, go_sem, reduceIte, Nat.reduceEqDiff, Nat.reduceAdd, bx]; and_intros <;> first | exact trivial | exact VSub.refl _ | exact VSub.any _ | (refine VSub.int ?_; omega)
  rintro j ⟨hj, hall⟩
  by_cases hcj : j < s.length
  · have g1 : decide (((j : Nat) : Int) < ((s.length : Nat) : Int)) = true := decide_eq_true (by omega)
    have h2 : (0 : Int) ≤ ((j : Nat) : Int) := by omega
    have h3 : ((j : Nat) : Int) < ((s.length : Nat) : Int) := by omega
    have e1 : IntKind.i64.wrap (((j : Nat) : Int) + 1) = ((j + 1 : Nat) : Int) := by rw [IntWalk.i64_in _ (by omega)]; omega
    have hb := range_snoc (buckAt s) j
    rw [hall, Bool.true_and] at hb
    have bad := bucket_bad s j hcj
    have hB : buckAt s j = if (s.getD j default).toNat = 45 then decide (0 < j) && decide (j + 1 < s.length) else (decide (48 ≤ (s.getD j default).toNat) && decide ((s.getD j default).toNat ≤ 57)) || (decide (97 ≤ (s.getD j default).toNat) && decide ((s.getD j default).toNat ≤ 122)) := rfl
    generalize hx : s.getD j default = x at hB
    have hat : byte (s.getD j 0) = .int .u8 ((x.toNat : Nat) : Int) := by rw [← hx]; rfl
    have w1 : IntKind.i64.wrap ((s.length : Int) - 1) = (s.length : Int) - 1 := by rw [IntWalk.i64_in] <;> omega
    cases b1 : decide ((x.toNat : Int) = 45) with
    | true =>
      rw [if_pos (by have := of_decide_eq_true b1; omega)] at hB
      cases b2 : decide ((0 : Int) < (j : Int)) with
      | false =>
        have := of_decide_eq_false b2
        rw [decide_eq_false (p := 0 < j) (by omega), Bool.false_and] at hB
        repeat (first
          | ((first | apply Wp.seqItemsR | apply Wp.itemsR); (· simp only [go_sem, reduceIte, Nat.reduceEqDiff, Nat.reduceAdd, bx, ax, if_true, if_false, Nat.reduceMul, Nat.reduceLeDiff, g1, h2, h3, e1, hat, b1, b2, w1]; exact rfl))
          | (refine WpItems.nil ⟨?_, ?_⟩; (· first | trivial | simp [pairsQ, pairsOk, apart, ent0]))
          | (apply Wp.cond_lit; (· simp only [go_sem, reduceIte, Nat.reduceEqDiff, Nat.reduceAdd, bx, ax, if_true, if_false, Nat.reduceMul, Nat.reduceLeDiff, g1, h2, h3, e1, hat, b1, b2, w1]; exact rfl); (· rfl))
          | refine Wp.skip ?_
          | refine Wp.label ?_
          | refine Wp.block ?_
          | refine Wp.exit ?_
          | refine Wp.seq ?_)
        refine Wp.ret ⟨trivial, _, rfl, ?_⟩
        simp only [go_sem, reduceIte, Nat.reduceEqDiff, Nat.reduceAdd, bx]
        rw [bad hB]; exact VSub.refl _
      | true =>
      cases b3 : decide ((j : Int) < (s.length : Int) - 1) with
      | false =>
        have := of_decide_eq_false b3
        rw [decide_eq_false (p := j + 1 < s.length) (by omega), Bool.and_false] at hB
        repeat (first
          | ((first | apply Wp.seqItemsR | apply Wp.itemsR); (· simp only [go_sem, reduceIte, Nat.reduceEqDiff, Nat.reduceAdd, bx, ax, if_true, if_false, Nat.reduceMul, Nat.reduceLeDiff, g1, h2, h3, e1, hat, b1, b2, b3, w1]; exact rfl))
          | (refine WpItems.nil ⟨?_, ?_⟩; (· first | trivial | simp [pairsQ, pairsOk, apart, ent0]))
          | (apply Wp.cond_lit; (· simp only [go_sem, reduceIte, Nat.reduceEqDiff, Nat.reduceAdd, bx, ax, if_true, if_false, Nat.reduceMul, Nat.reduceLeDiff, g1, h2, h3, e1, hat, b1, b2, b3, w1]; exact rfl); (· rfl))
          | refine Wp.skip ?_
          | refine Wp.label ?_
          | refine Wp.block ?_
          | refine Wp.exit ?_
          | refine Wp.seq ?_)
        refine Wp.ret ⟨trivial, _, rfl, ?_⟩
        simp only [go_sem, reduceIte, Nat.reduceEqDiff, Nat.reduceAdd, bx]
        rw [bad hB]; exact VSub.refl _
      | true =>
        have := of_decide_eq_true b3; have := of_decide_eq_true b2
        rw [decide_eq_true (p := j + 1 < s.length) (by omega), decide_eq_true (p := 0 < j) (by omega)] at hB
        repeat (first
          | ((first | apply Wp.seqItemsR | apply Wp.itemsR); (· simp only [go_sem, reduceIte, Nat.reduceEqDiff, Nat.reduceAdd, bx, ax, if_true, if_false, Nat.reduceMul, Nat.reduceLeDiff, g1, h2, h3, e1, hat, b1, b2, b3, w1]; exact rfl))
          | (refine WpItems.nil ⟨?_, ?_⟩; (· first | trivial | simp [pairsQ, pairsOk, apart, ent0]))
          | (apply Wp.cond_lit; (· simp only [go_sem, reduceIte, Nat.reduceEqDiff, Nat.reduceAdd, bx, ax, if_true, if_false, Nat.reduceMul, Nat.reduceLeDiff, g1, h2, h3, e1, hat, b1, b2, b3, w1]; exact rfl); (· rfl))
          | refine Wp.skip ?_
          | refine Wp.label ?_
          | refine Wp.block ?_
          | refine Wp.exit ?_
          | refine Wp.seq ?_)
        refine ⟨j + 1, ⟨by omega, by rw [hb, hB]; rfl⟩, by omega, ?_⟩
        refine StLe.tm (by simp only [AllSub, go_sem, reduceIte, Nat.reduceEqDiff, Nat.reduceAdd, bx]; and_intros <;> first | exact trivial | exact VSub.refl _ | exact VSub.any _ | (refine VSub.int ?_; omega))
    | false =>
    rw [if_neg (by have := of_decide_eq_false b1; omega)] at hB
    cases b2 : decide ((x.toNat : Int) < 48) with
    | true =>
      have := of_decide_eq_true b2
      rw [decide_eq_false (p := 48 ≤ x.toNat) (by omega), decide_eq_false (p := 97 ≤ x.toNat) (by omega)] at hB
      repeat (first
        | ((first | apply Wp.seqItemsR | apply Wp.itemsR); (· simp only [go_sem, reduceIte, Nat.reduceEqDiff, Nat.reduceAdd, bx, ax, if_true, if_false, Nat.reduceMul, Nat.reduceLeDiff, g1, h2, h3, e1, hat, b1, b2, w1]; exact rfl))
        | (refine WpItems.nil ⟨?_, ?_⟩; (· first | trivial | simp [pairsQ, pairsOk, apart, ent0]))
        | (apply Wp.cond_lit; (· simp only [go_sem, reduceIte, Nat.reduceEqDiff, Nat.reduceAdd, bx, ax, if_true, if_false, Nat.reduceMul, Nat.reduceLeDiff, g1, h2, h3, e1, hat, b1, b2, w1]; exact rfl); (· rfl))
        | refine Wp.skip ?_
        | refine Wp.label ?_
        | refine Wp.block ?_
        | refine Wp.exit ?_
        | refine Wp.seq ?_)
      refine Wp.ret ⟨trivial, _, rfl, ?_⟩
      simp only [go_sem, reduceIte, Nat.reduceEqDiff, Nat.reduceAdd, bx]
      rw [bad hB]; exact VSub.refl _
    | false =>
    have k2 := of_decide_eq_false b2
    cases b5 : decide ((122 : Int) < (x.toNat : Int)) with
    | true =>
      have := of_decide_eq_true b5
      have b3 : decide ((57 : Int) < (x.toNat : Int)) = true := decide_eq_true (by omega)
      have b4 : decide ((x.toNat : Int) < 97) = false := decide_eq_false (by omega)
      rw [decide_eq_false (p := x.toNat ≤ 57) (by omega), decide_eq_false (p := x.toNat ≤ 122) (by omega), Bool.and_false, Bool.and_false] at hB
      repeat (first
        | ((first | apply Wp.seqItemsR | apply Wp.itemsR); (· simp only [go_sem, reduceIte, Nat.reduceEqDiff, Nat.reduceAdd, bx, ax, if_true, if_false, Nat.reduceMul, Nat.reduceLeDiff, g1, h2, h3, e1, hat, b1, b2, b3, b4, b5, w1]; exact rfl))
        | (refine WpItems.nil ⟨?_, ?_⟩; (· first | trivial | simp [pairsQ, pairsOk, apart, ent0]))
        | (apply Wp.cond_lit; (· simp only [go_sem, reduceIte, Nat.reduceEqDiff, Nat.reduceAdd, bx, ax, if_true, if_false, Nat.reduceMul, Nat.reduceLeDiff, g1, h2, h3, e1, hat, b1, b2, b3, b4, b5, w1]; exact rfl); (· rfl))
        | refine Wp.skip ?_
        | refine Wp.label ?_
        | refine Wp.block ?_
        | refine Wp.exit ?_
        | refine Wp.seq ?_)
      refine Wp.ret ⟨trivial, _, rfl, ?_⟩
      simp only [go_sem, reduceIte, Nat.reduceEqDiff, Nat.reduceAdd, bx]
      rw [bad hB]; exact VSub.refl _
    | false =>
    have k5 := of_decide_eq_false b5
    cases b3 : decide ((57 : Int) < (x.toNat : Int)) with
    | false =>
      have := of_decide_eq_false b3
      rw [decide_eq_true (p := x.toNat ≤ 57) (by omega), decide_eq_true (p := 48 ≤ x.toNat) (by omega), Bool.and_true, Bool.true_or] at hB
      repeat (first
        | ((first | apply Wp.seqItemsR | apply Wp.itemsR); (· simp only [go_sem, reduceIte, Nat.reduceEqDiff, Nat.reduceAdd, bx, ax, if_true, if_false, Nat.reduceMul, Nat.reduceLeDiff, g1, h2, h3, e1, hat, b1, b2, b3, b5, w1]; exact rfl))
        | (refine WpItems.nil ⟨?_, ?_⟩; (· first | trivial | simp [pairsQ, pairsOk, apart, ent0]))
        | (apply Wp.cond_lit; (· simp only [go_sem, reduceIte, Nat.reduceEqDiff, Nat.reduceAdd, bx, ax, if_true, if_false, Nat.reduceMul, Nat.reduceLeDiff, g1, h2, h3, e1, hat, b1, b2, b3, b5, w1]; exact rfl); (· rfl))
        | refine Wp.skip ?_
        | refine Wp.label ?_
        | refine Wp.block ?_
        | refine Wp.exit ?_
        | refine Wp.seq ?_)
      refine ⟨j + 1, ⟨by omega, by rw [hb, hB]⟩, by omega, ?_⟩
      refine StLe.tm (by simp only [AllSub, go_sem, reduceIte, Nat.reduceEqDiff, Nat.reduceAdd, bx]; and_intros <;> first | exact trivial | exact VSub.refl _ | exact VSub.any _ | (refine VSub.int ?_; omega))
    | true =>
    have k3 := of_decide_eq_true b3
    cases b4 : decide ((x.toNat : Int) < 97) with
    | true =>
      have := of_decide_eq_true b4
      rw [decide_eq_false (p := x.toNat ≤ 57) (by omega), decide_eq_false (p := 97 ≤ x.toNat) (by omega), Bool.and_false, Bool.false_and] at hB
      repeat (first
        | ((first | apply Wp.seqItemsR | apply Wp.itemsR); (· simp only [go_sem, reduceIte, Nat.reduceEqDiff, Nat.reduceAdd, bx, ax, if_true, if_false, Nat.reduceMul, Nat.reduceLeDiff, g1, h2, h3, e1, hat, b1, b2, b3, b4, b5, w1]; exact rfl))
        | (refine WpItems.nil ⟨?_, ?_⟩; (· first | trivial | simp [pairsQ, pairsOk, apart, ent0]))
        | (apply Wp.cond_lit; (· simp only [go_sem, reduceIte, Nat.reduceEqDiff, Nat.reduceAdd, bx, ax, if_true, if_false, Nat.reduceMul, Nat.reduceLeDiff, g1, h2, h3, e1, hat, b1, b2, b3, b4, b5, w1]; exact rfl); (· rfl))
        | refine Wp.skip ?_
        | refine Wp.label ?_
        | refine Wp.block ?_
        | refine Wp.exit ?_
        | refine Wp.seq ?_)
      refine Wp.ret ⟨trivial, _, rfl, ?_⟩
      simp only [go_sem, reduceIte, Nat.reduceEqDiff, Nat.reduceAdd, bx]
      rw [bad hB]; exact VSub.refl _
    | false =>
      have := of_decide_eq_false b4
      rw [decide_eq_true (p := x.toNat ≤ 122) (by omega), decide_eq_true (p := 97 ≤ x.toNat) (by omega), Bool.and_true, Bool.or_true] at hB
      repeat (first
        | ((first | apply Wp.seqItemsR | apply Wp.itemsR); (· simp only [go_sem, reduceIte, Nat.reduceEqDiff, Nat.reduceAdd, bx, ax, if_true, if_false, Nat.reduceMul, Nat.reduceLeDiff, g1, h2, h3, e1, hat, b1, b2, b3, b4, b5, w1]; exact rfl))
        | (refine WpItems.nil ⟨?_, ?_⟩; (· first | trivial | simp [pairsQ, pairsOk, apart, ent0]))
        | (apply Wp.cond_lit; (· simp only [go_sem, reduceIte, Nat.reduceEqDiff, Nat.reduceAdd, bx, ax, if_true, if_false, Nat.reduceMul, Nat.reduceLeDiff, g1, h2, h3, e1, hat, b1, b2, b3, b4, b5, w1]; exact rfl); (· rfl))
        | refine Wp.skip ?_
        | refine Wp.label ?_
        | refine Wp.block ?_
        | refine Wp.exit ?_
        | refine Wp.seq ?_)
      refine ⟨j + 1, ⟨by omega, by rw [hb, hB]⟩, by omega, ?_⟩
      refine StLe.tm (by simp only [AllSub, go_sem, reduceIte, Nat.reduceEqDiff, Nat.reduceAdd, bx]; and_intros <;> first | exact trivial | exact VSub.refl _ | exact VSub.any _ | (refine VSub.int ?_; omega))
  · have hj2 : j = s.length := by omega
    subst hj2
    have g1 : decide (((s.length : Nat) : Int) < ((s.length : Nat) : Int)) = false := decide_eq_false (by omega)
    have hv : bucketN s = 0 := if_pos ⟨by omega, by omega, hall⟩
    rw [hv]
    repeat (first
      | ((first | apply Wp.seqItemsR | apply Wp.itemsR); (· simp only [go_sem, reduceIte, Nat.reduceEqDiff, Nat.reduceAdd, bx, ax, if_true, if_false, Nat.reduceMul, Nat.reduceLeDiff, g1]; exact rfl))
      | (refine WpItems.nil ⟨?_, ?_⟩; (· first | trivial | simp [pairsQ, pairsOk, apart, ent0]))
      | (apply Wp.cond_lit; (· simp only [go_sem, reduceIte, Nat.reduceEqDiff, Nat.reduceAdd, bx, ax, if_true, if_false, Nat.reduceMul, Nat.reduceLeDiff, g1]; exact rfl); (· rfl))
      | refine Wp.skip ?_
      | refine Wp.label ?_
      | refine Wp.block ?_
      | refine Wp.exit ?_
      | refine Wp.seq ?_)
    refine Wp.ret ⟨trivial, _, rfl, ?_⟩
    simp only [go_sem, reduceIte, Nat.reduceEqDiff, Nat.reduceAdd, bx]
    exact VSub.refl _
def checkN (p d a : List UInt8) (m : Int) : Int := if 32 < (p.length : Int) ∨ 1 < (d.length : Int) ∨ 32 < (a.length : Int) ∨ m < 1 ∨ 50 < m then 2 else 0
theorem check_p (p d a : List UInt8) (m : Int) : PCalls Tryz.prog 74 [.str p, .str d, .str a, .int .i64 m] (.int .i64 (checkN p d a m)) := by
  refine f74.pcalls0 (by simp) rfl rfl ?_
  unfold c74 checkN
  cases d1 : decide (32 < (p.length : Int)) with
  | true =>
    rw [if_pos (Or.inl (of_decide_eq_true d1))]
    repeat (first
      | ((first | apply Wp.seqItemsR | apply Wp.itemsR); (· simp only [go_sem, reduceIte, Nat.reduceEqDiff, Nat.reduceAdd, bx, ax, if_true, if_false, Nat.reduceMul, Nat.reduceLeDiff, d1]; exact rfl))
      | (refine WpItems.nil ⟨?_, ?_⟩; (· first | trivial | simp [pairsQ, pairsOk, apart, ent0]))
      | (apply Wp.cond_lit; (· simp only [go_sem, reduceIte, Nat.reduceEqDiff, Nat.reduceAdd, bx, ax, if_true, if_false, Nat.reduceMul, Nat.reduceLeDiff, d1]; exact rfl); (· rfl))
      | refine Wp.skip ?_
      | refine Wp.label ?_
      | refine Wp.block ?_
      | refine Wp.exit ?_
      | refine Wp.seq ?_)
    refine Wp.ret ⟨trivial, _, rfl, ?_⟩
    simp only [go_sem, reduceIte, Nat.reduceEqDiff, Nat.reduceAdd, bx]
    exact VSub.refl _
  | false =>
  cases d2 : decide (1 < (d.length : Int)) with
  | true =>
    rw [if_pos (Or.inr (Or.inl (of_decide_eq_true d2)))]
    repeat (first
      | ((first | apply Wp.seqItemsR | apply Wp.itemsR); (· simp only [go_sem, reduceIte, Nat.reduceEqDiff, Nat.reduceAdd, bx, ax, if_true, if_false, Nat.reduceMul, Nat.reduceLeDiff, d1, d2]; exact rfl))
      | (refine WpItems.nil ⟨?_, ?_⟩; (· first | trivial | simp [pairsQ, pairsOk, apart, ent0]))
      | (apply Wp.cond_lit; (· simp only [go_sem, reduceIte, Nat.reduceEqDiff, Nat.reduceAdd, bx, ax, if_true, if_false, Nat.reduceMul, Nat.reduceLeDiff, d1, d2]; exact rfl); (· rfl))
      | refine Wp.skip ?_
      | refine Wp.label ?_
      | refine Wp.block ?_
      | refine Wp.exit ?_
      | refine Wp.seq ?_)
    refine Wp.ret ⟨trivial, _, rfl, ?_⟩
    simp only [go_sem, reduceIte, Nat.reduceEqDiff, Nat.reduceAdd, bx]
    exact VSub.refl _
  | false =>
  cases d3 : decide (32 < (a.length : Int)) with
  | true =>
    rw [if_pos (Or.inr (Or.inr (Or.inl (of_decide_eq_true d3))))]
    repeat (first
      | ((first | apply Wp.seqItemsR | apply Wp.itemsR); (· simp only [go_sem, reduceIte, Nat.reduceEqDiff, Nat.reduceAdd, bx, ax, if_true, if_false, Nat.reduceMul, Nat.reduceLeDiff, d1, d2, d3]; exact rfl))
      | (refine WpItems.nil ⟨?_, ?_⟩; (· first | trivial | simp [pairsQ, pairsOk, apart, ent0]))
      | (apply Wp.cond_lit; (· simp only [go_sem, reduceIte, Nat.reduceEqDiff, Nat.reduceAdd, bx, ax, if_true, if_false, Nat.reduceMul, Nat.reduceLeDiff, d1, d2, d3]; exact rfl); (· rfl))
      | refine Wp.skip ?_
      | refine Wp.label ?_
      | refine Wp.block ?_
      | refine Wp.exit ?_
      | refine Wp.seq ?_)
    refine Wp.ret ⟨trivial, _, rfl, ?_⟩
    simp only [go_sem, reduceIte, Nat.reduceEqDiff, Nat.reduceAdd, bx]
    exact VSub.refl _
  | false =>
  cases d4 : decide (m < 1) with
  | true =>
    rw [if_pos (Or.inr (Or.inr (Or.inr (Or.inl (of_decide_eq_true d4)))))]
    repeat (first
      | ((first | apply Wp.seqItemsR | apply Wp.itemsR); (· simp only [go_sem, reduceIte, Nat.reduceEqDiff, Nat.reduceAdd, bx, ax, if_true, if_false, Nat.reduceMul, Nat.reduceLeDiff, d1, d2, d3, d4]; exact rfl))
      | (refine WpItems.nil ⟨?_, ?_⟩; (· first | trivial | simp [pairsQ, pairsOk, apart, ent0]))
      | (apply Wp.cond_lit; (· simp only [go_sem, reduceIte, Nat.reduceEqDiff, Nat.reduceAdd, bx, ax, if_true, if_false, Nat.reduceMul, Nat.reduceLeDiff, d1, d2, d3, d4]; exact rfl); (· rfl))
      | refine Wp.skip ?_
      | refine Wp.label ?_
      | refine Wp.block ?_
      | refine Wp.exit ?_
      | refine Wp.seq ?_)
    refine Wp.ret ⟨trivial, _, rfl, ?_⟩
    simp only [go_sem, reduceIte, Nat.reduceEqDiff, Nat.reduceAdd, bx]
    exact VSub.refl _
  | false =>
  cases d5 : decide (50 < m) with
  | true =>
    rw [if_pos (Or.inr (Or.inr (Or.inr (Or.inr (of_decide_eq_true d5)))))]
    repeat (first
      | ((first | apply Wp.seqItemsR | apply Wp.itemsR); (· simp only [go_sem, reduceIte, Nat.reduceEqDiff, Nat.reduceAdd, bx, ax, if_true, if_false, Nat.reduceMul, Nat.reduceLeDiff, d1, d2, d3, d4, d5]; exact rfl))
      | (refine WpItems.nil ⟨?_, ?_⟩; (· first | trivial | simp [pairsQ, pairsOk, apart, ent0]))
      | (apply Wp.cond_lit; (· simp only [go_sem, reduceIte, Nat.reduceEqDiff, Nat.reduceAdd, bx, ax, if_true, if_false, Nat.reduceMul, Nat.reduceLeDiff, d1, d2, d3, d4, d5]; exact rfl); (· rfl))
      | refine Wp.skip ?_
      | refine Wp.label ?_
      | refine Wp.block ?_
      | refine Wp.exit ?_
      | refine Wp.seq ?_)
    refine Wp.ret ⟨trivial, _, rfl, ?_⟩
    simp only [go_sem, reduceIte, Nat.reduceEqDiff, Nat.reduceAdd, bx]
    exact VSub.refl _
  | false =>
    rw [if_neg (fun h => h.elim (of_decide_eq_false d1) fun h => h.elim (of_decide_eq_false d2) fun h => h.elim (of_decide_eq_false d3) fun h => h.elim (of_decide_eq_false d4) (of_decide_eq_false d5))]
    repeat (first
      | ((first | apply Wp.seqItemsR | apply Wp.itemsR); (· simp only [go_sem, reduceIte, Nat.reduceEqDiff, Nat.reduceAdd, bx, ax, if_true, if_false, Nat.reduceMul, Nat.reduceLeDiff, d1, d2, d3, d4, d5]; exact rfl))
      | (refine WpItems.nil ⟨?_, ?_⟩; (· first | trivial | simp [pairsQ, pairsOk, apart, ent0]))
      | (apply Wp.cond_lit; (· simp only [go_sem, reduceIte, Nat.reduceEqDiff, Nat.reduceAdd, bx, ax, if_true, if_false, Nat.reduceMul, Nat.reduceLeDiff, d1, d2, d3, d4, d5]; exact rfl); (· rfl))
      | refine Wp.skip ?_
      | refine Wp.label ?_
      | refine Wp.block ?_
      | refine Wp.exit ?_
      | refine Wp.seq ?_)
    refine Wp.ret ⟨trivial, _, rfl, ?_⟩
    simp only [go_sem, reduceIte, Nat.reduceEqDiff, Nat.reduceAdd, bx]
    exact VSub.refl _
end Go.Proofs.YtkcgpcbpieofnaaGreatDoor.Desk
end
section
set_option linter.unusedVariables false
set_option linter.unusedSimpArgs false
namespace Go.Av
theorem VSub.sup {l : List UInt8} {B : Nat} (h : l.length ≤ B) : VSub (.str l) (.sup B) := by
  intro G w v hv
  simp only [VRel] at hv ⊢
  exact ⟨l, hv, h⟩
theorem VSub.oneS {sz : Nat} {xs : List AV} {c : Cap} : VSub (.sl sz xs c) .one := by
  intro G w v h
  simp only [VRel] at h ⊢
  rcases h with ⟨-, ⟨_, rfl⟩, -⟩ | ⟨_, _, _, _, rfl, -⟩ <;> exact ⟨(fun _ e => by cases e), (fun _ e => by cases e)⟩
theorem PCalls.sup {P : Program} {f : FuncId} {a b : List AV} {B : Nat} {r : AV} (h : ∀ l : List UInt8, l.length ≤ B → PCalls P f (a ++ .str l :: b) r) : PCalls P f (a ++ .sup B :: b) r := by
  intro n m G w vs hv R F
  have key : ∀ (a : List AV) (vs : List Value), VRels G w (a ++ .sup B :: b) vs → ∃ l : List UInt8, l.length ≤ B ∧ VRels G w (a ++ .str l :: b) vs := by
    intro a
    induction a with
    | nil =>
      intro vs hv
      simp only [List.nil_append, VRels, VRel] at hv ⊢
      obtain ⟨v, us, e, ⟨l, h1, h2⟩, h3⟩ := hv
      exact ⟨l, h2, v, us, e, h1, h3⟩
    | cons x a ih =>
      intro vs hv
      simp only [List.cons_append, VRels] at hv ⊢
      obtain ⟨v, us, e, h1, h2⟩ := hv
      obtain ⟨l, h3, h4⟩ := ih us h2
      exact ⟨l, h3, v, us, e, h1, h4⟩
  obtain ⟨l, h1, h2⟩ := key a vs hv
  exact h l h1 n m G w vs h2 R F
theorem ACalls.sup {P : Program} {f : FuncId} {a b : List AV} {B : Nat} {h h' : H} {r : AV} (hc : ∀ l : List UInt8, l.length ≤ B → ACalls P f (a ++ .str l :: b) h r h') : ACalls P f (a ++ .sup B :: b) h r h' := by
  intro G w vs hv R F
  have key : ∀ (a : List AV) (vs : List Value), VRels G w (a ++ .sup B :: b) vs → ∃ l : List UInt8, l.length ≤ B ∧ VRels G w (a ++ .str l :: b) vs := by
    intro a
    induction a with
    | nil =>
      intro vs hv
      simp only [List.nil_append, VRels, VRel] at hv ⊢
      obtain ⟨v, us, e, ⟨l, h1, h2⟩, h3⟩ := hv
      exact ⟨l, h2, v, us, e, h1, h3⟩
    | cons x a ih =>
      intro vs hv
      simp only [List.cons_append, VRels] at hv ⊢
      obtain ⟨v, us, e, h1, h2⟩ := hv
      obtain ⟨l, h3, h4⟩ := ih us h2
      exact ⟨l, h3, v, us, e, h1, h4⟩
  obtain ⟨l, h1, h2⟩ := key a vs hv
  exact hc l h1 G w vs h2 R F
theorem VSub.wint {k : IntKind} {n : Int} : VSub (.int k n) (.wint k) := by
  intro G w v h
  simp only [VRel] at h ⊢
  exact ⟨n, h⟩
theorem PCalls.res {P : Program} {f : FuncId} {l : List AV} {r r' : AV} (hs : VSub r r') (h : PCalls P f l r) : PCalls P f l r' := by
  intro n k G w vs hv R F
  refine (h n k G w vs hv R F).mono ?_
  rintro e w' ⟨v, G', rfl, T, R', V⟩
  exact ⟨v, G', rfl, T, R', hs G' w' v V⟩
theorem PCalls.args {P : Program} {f : FuncId} {l m : List AV} {r : AV} (hs : VSubs l m) (h : PCalls P f m r) : PCalls P f l r :=
  fun n k G w vs hv => h n k G w vs (hs G w vs hv)
theorem pcalls_runZv {P : Program} {T : FT} (ok : T.Ok P) (nm : T.named P = true) {pr : PrimsZ} (hpr : PrimsOkZ P pr) {k f : Nat} {args : List AV} {r : AV} (hp : allPure args = true) (hq : isPure r = true) (h : (callZ T pr (runZ T pr k []) true f args (HZ0 0 0)).map (·.1) = some r) : PCalls P f args r := by
  obtain ⟨⟨x, h', en⟩, hc, rfl⟩ := Option.map_eq_some_iff.1 h
  obtain ⟨⟨h1, h1', tc, ac⟩, -⟩ := callZ_ok (σ := fun _ => (.skip, .skip)) ok nm hpr (runZ_ok ok nm hpr k _ [] (fun r h => by cases h)) hc
  rw [HZ0_hp, H0_sg] at tc
  have e : h1 = H0 0 0 := by
    rcases tc with tc | ⟨-, e, -⟩
    · refine H.ext (fun j => ?_) tc.n ?_ tc.m
      · cases hj : h1.objs j with
        | none => rfl
        | some o => have := tc.sub.1 j o hj; simp [H0, H.only, none'] at this
      · cases ht : h1.toks with
        | nil => rfl
        | cons t l => have := tc.sub.2 t (by rw [ht]; simp); simp [H0, H.only] at this
    · exact e
  subst e
  exact ac.pure0 (allPure_ok _ hp) (VSub.refl _) (isPure_ok _ hq)
end Go.Av
end
section
set_option linter.unusedSimpArgs false
set_option linter.unusedVariables false
set_option maxRecDepth 100000
namespace Go.Proofs.YtkcgpcbpieofnaaGreatDoor.Desk
open Go Go.Av Go.Proofs Go.Proofs.YtkcgpcbpieofnaaGreatDoor.C
def livesPP (g : Nat) (f : Nat) (args : List AV) : Option AV :=
  match Nat.beq f g, args with
  | true, [] => some (.bool true)
  | _, _ => none
theorem livesPP_ok {g : Nat} (hg : PCalls Tryz.prog g [] (.bool true)) (hn : NamedF Tryz.prog g) {f : Nat} {args : List AV} {r : AV} (h : livesPP g f args = some r) : (∃ vals, VSubs args vals ∧ PCalls Tryz.prog f vals r) ∧ NamedF Tryz.prog f := by
  unfold livesPP at h
  split at h
  · rename_i e
    have e := Nat.eq_of_beq_eq_true e
    subst e
    cases h
    exact ⟨⟨[], VSubs.nil, hg⟩, hn⟩
  · cases h
def bucketPP (f : Nat) (args : List AV) : Option AV :=
  match Nat.beq f 57, args with
  | true, [.str s] => some (.int .i64 (bucketN s))
  | _, _ => none
def objectPP (f : Nat) (args : List AV) : Option AV :=
  match Nat.beq f 59, args with
  | true, [.str s] => some (.int .i64 (objectN s))
  | _, _ => none
def fitPP (f : Nat) (args : List AV) : Option AV :=
  match Nat.beq f 60, args with
  | true, [.str s, .agg [.int .i64 a, .int .i64 b, .int .i64 c]] => some (.int .i64 (fitN s a))
  | _, _ => none
def checkPP (f : Nat) (args : List AV) : Option AV :=
  match Nat.beq f 74, args with
  | true, [.str p, .str d, .str a, .int .i64 m] => some (.int .i64 (checkN p d a m))
  | _, _ => none
theorem bucketPP_ok {f : Nat} {args : List AV} {r : AV} (h : bucketPP f args = some r) : (∃ vals, VSubs args vals ∧ PCalls Tryz.prog f vals r) ∧ NamedF Tryz.prog f := by
  unfold bucketPP at h
  split at h
  · rename_i e
    have e := Nat.eq_of_beq_eq_true e
    subst e
    cases h
    exact ⟨⟨_, VSubs.refl _, bucket_p _⟩, named (Tryz.func57) (of_decide_eq_true (by kernel_rfl)) (of_decide_eq_true (by kernel_rfl))⟩
  · cases h
theorem objectPP_ok {f : Nat} {args : List AV} {r : AV} (h : objectPP f args = some r) : (∃ vals, VSubs args vals ∧ PCalls Tryz.prog f vals r) ∧ NamedF Tryz.prog f := by
  unfold objectPP at h
  split at h
  · rename_i e
    have e := Nat.eq_of_beq_eq_true e
    subst e
    cases h
    exact ⟨⟨_, VSubs.refl _, object_p _⟩, named (Tryz.func59) (of_decide_eq_true (by kernel_rfl)) (of_decide_eq_true (by kernel_rfl))⟩
  · cases h
theorem fitPP_ok {f : Nat} {args : List AV} {r : AV} (h : fitPP f args = some r) : (∃ vals, VSubs args vals ∧ PCalls Tryz.prog f vals r) ∧ NamedF Tryz.prog f := by
  unfold fitPP at h
  split at h
  · rename_i e
    have e := Nat.eq_of_beq_eq_true e
    subst e
    cases h
    exact ⟨⟨_, VSubs.refl _, fit_p _ _ _ _⟩, named (Tryz.func60) (of_decide_eq_true (by kernel_rfl)) (of_decide_eq_true (by kernel_rfl))⟩
  · cases h
theorem checkPP_ok {f : Nat} {args : List AV} {r : AV} (h : checkPP f args = some r) : (∃ vals, VSubs args vals ∧ PCalls Tryz.prog f vals r) ∧ NamedF Tryz.prog f := by
  unfold checkPP at h
  split at h
  · rename_i e
    have e := Nat.eq_of_beq_eq_true e
    subst e
    cases h
    exact ⟨⟨_, VSubs.refl _, check_p _ _ _ _⟩, named (Tryz.func74) (of_decide_eq_true (by kernel_rfl)) (of_decide_eq_true (by kernel_rfl))⟩
  · cases h
noncomputable def textPrims : PrimsZ := orPrimsZ (purePrimZ bucketPP) (orPrimsZ (purePrimZ objectPP) (orPrimsZ (purePrimZ fitPP) (orPrimsZ (purePrimZ checkPP) prims)))
theorem textPrims_ok : PrimsOkZ Tryz.prog textPrims := orPrimsZ_ok (purePrimZ_ok fun f args r h => bucketPP_ok h) (orPrimsZ_ok (purePrimZ_ok fun f args r h => objectPP_ok h) (orPrimsZ_ok (purePrimZ_ok fun f args r h => fitPP_ok h) (orPrimsZ_ok (purePrimZ_ok fun f args r h => checkPP_ok h) prims_ok)))
theorem tagS_p (B : Nat) (hB : B ≤ 140737488351232) : PCalls Tryz.prog 49 [.supb B] (.agg [.wint .i64, .wint .i64]) := by
  intro n m G w vs hv R F
  simp only [VRels] at hv
  obtain ⟨v, us, rfl, hv, rfl⟩ := hv
  have hv' := hv
  simp only [VRel] at hv'
  obtain ⟨l, hl, hc⟩ := hv'
  have h1 : VRel G w (.sl 1 (bytesAV l) .any) v := by
    simp only [VRel]
    have hb : (bytesAV l).length = l.length := by simp [bytesAV]
    rcases hc with ⟨h1, h2⟩ | ⟨D, off, C, h1, h2, h3⟩
    · exact .inl ⟨by simp [h1, bytesAV], h2, trivial⟩
    · exact .inr ⟨D, off, C, _, by rw [hb]; exact h1, by rw [hb]; exact h2, by simp [bytesAV], bytes_elems l, h3, trivial⟩
  refine (Fl.of_p l (Nat.le_trans hl hB) n m G w [v] (by simp only [VRels]; exact ⟨v, [], rfl, h1, rfl⟩) R F).mono ?_
  rintro e w' ⟨u, G', rfl, T, R', V⟩
  refine ⟨u, G', rfl, T, R', ?_⟩
  simp only [VRel, VRels] at V ⊢
  obtain ⟨vs, e1, v1, us1, e2, e3, v2, us2, e4, e5, e6⟩ := V
  exact ⟨vs, e1, v1, us1, e2, ⟨_, e3⟩, v2, us2, e4, ⟨_, e5⟩, e6⟩
def tagSP (f : Nat) (args : List AV) : Option AV :=
  match Nat.beq f 49, args with
  | true, [.supb B] => match Nat.ble B 140737488351232 with
    | true => some (.agg [.wint .i64, .wint .i64])
    | false => none
  | _, _ => none
theorem tagSP_ok {f : Nat} {args : List AV} {r : AV} (h : tagSP f args = some r) : (∃ vals, VSubs args vals ∧ PCalls Tryz.prog f vals r) ∧ NamedF Tryz.prog f := by
  unfold tagSP at h
  split at h
  · rename_i e
    have e := Nat.eq_of_beq_eq_true e
    subst e
    split at h
    · rename_i hb
      cases h
      exact ⟨⟨_, VSubs.refl _, tagS_p _ (Nat.le_of_ble_eq_true hb)⟩, named Tryz.func49 (of_decide_eq_true (by kernel_rfl)) (of_decide_eq_true (by kernel_rfl))⟩
    · cases h
  · cases h
def fitSP (f : Nat) (args : List AV) : Option AV :=
  match Nat.beq f 60, args with
  | true, [.sup _, .agg [.int .i64 _, .int .i64 _, .int .i64 _]] => some (.wint .i64)
  | _, _ => none
theorem fitSP_ok {f : Nat} {args : List AV} {r : AV} (h : fitSP f args = some r) : (∃ vals, VSubs args vals ∧ PCalls Tryz.prog f vals r) ∧ NamedF Tryz.prog f := by
  unfold fitSP at h
  split at h
  · rename_i e
    have e := Nat.eq_of_beq_eq_true e
    subst e
    cases h
    exact ⟨⟨_, VSubs.refl _, PCalls.sup (a := []) fun l _ => (fit_p l _ _ _).res VSub.wint⟩, named Tryz.func60 (of_decide_eq_true (by kernel_rfl)) (of_decide_eq_true (by kernel_rfl))⟩
  · cases h
noncomputable def boundPrims : PrimsZ := orPrimsZ (purePrimZ tagSP) (orPrimsZ (purePrimZ fitSP) textPrims)
theorem boundPrims_ok : PrimsOkZ Tryz.prog boundPrims := orPrimsZ_ok (purePrimZ_ok fun f args r h => tagSP_ok h) (orPrimsZ_ok (purePrimZ_ok fun f args r h => fitSP_ok h) textPrims_ok)
end Go.Proofs.YtkcgpcbpieofnaaGreatDoor.Desk
end
section
set_option maxRecDepth 100000
namespace Go.Proofs.YtkcgpcbpieofnaaGreatDoor.C
open Go.Av
def tabN : FT :=
  (.node 101 ⟨6, c101, [.cell 2 (some 24)]⟩ (.node 51 ⟨12, c51, [.tmp 2]⟩ (.node 28 ⟨64, c28, [.cell 12 (some 2), .tmp 13]⟩ (.node 17 ⟨24, c17, [.cell 8 (some 7), .tmp 9]⟩ (.node 13 ⟨49, c13, [.tmp 2,
  .tmp 3]⟩ (.node 10 ⟨26, c10, [.tmp 4, .tmp 5]⟩ (.node 7 ⟨84, c7, [.tmp 6]⟩ .leaf .leaf) (.node 11 ⟨4, c11, [.tmp 0]⟩ .leaf .leaf)) (.node 15 ⟨72, c15, [.tmp 10, .tmp 11]⟩ (.node 14 ⟨21, c14, [.tmp
  4, .tmp 5]⟩ .leaf .leaf) (.node 16 ⟨57, c16, [.cell 8 (some 7), .tmp 9]⟩ .leaf .leaf))) (.node 21 ⟨32, c21, [.tmp 4]⟩ (.node 19 ⟨73, c19, [.cell 12 (some 4), .tmp 13]⟩ (.node 18 ⟨74, c18, [.tmp 8,
  .tmp 9]⟩ .leaf .leaf) (.node 20 ⟨124, c20, [.cell 12 (some 4), .tmp 13]⟩ .leaf .leaf)) (.node 23 ⟨30, c23, [.tmp 6]⟩ (.node 22 ⟨74, c22, [.tmp 4]⟩ .leaf .leaf) (.node 27 ⟨54, c27, [.tmp 6, .tmp 7]⟩
  .leaf .leaf)))) (.node 41 ⟨40, c41, [.tmp 4, .tmp 5]⟩ (.node 32 ⟨36, c32, [.tmp 8]⟩ (.node 30 ⟨61, c30, [.tmp 4, .tmp 5]⟩ (.node 29 ⟨47, c29, [.tmp 10, .tmp 11]⟩ .leaf .leaf) (.node 31 ⟨52, c31,
  [.tmp 8, .tmp 9]⟩ .leaf .leaf)) (.node 39 ⟨22, c39, [.tmp 4]⟩ (.node 33 ⟨9, c33, [.tmp 2]⟩ .leaf .leaf) (.node 40 ⟨40, c40, [.tmp 4, .tmp 5]⟩ .leaf .leaf))) (.node 46 ⟨22, c46, [.cell 4 (some 24)]⟩
  (.node 44 ⟨25, c44, [.tmp 2]⟩ (.node 42 ⟨15, c42, [.tmp 0, .tmp 1]⟩ .leaf .leaf) (.node 45 ⟨59, c45, [.tmp 2]⟩ .leaf .leaf)) (.node 50 ⟨31, c50, [.tmp 6, .tmp 7]⟩ (.node 47 ⟨80, c47, [.tmp 4]⟩ .leaf
  .leaf) .leaf)))) (.node 73 ⟨20, c73, [.tmp 4]⟩ (.node 62 ⟨42, c62, [.tmp 4]⟩ (.node 56 ⟨7, c56, [.tmp 2]⟩ (.node 53 ⟨15, c53, [.tmp 8, .tmp 9]⟩ (.node 52 ⟨62, c52, [.cell 2 (some 2), .tmp 3]⟩ .leaf
  .leaf) (.node 55 ⟨15, c55, [.tmp 2]⟩ .leaf .leaf)) (.node 60 ⟨18, c60, [.tmp 4]⟩ (.node 58 ⟨31, c58, [.tmp 4, .tmp 5]⟩ .leaf .leaf) (.node 61 ⟨73, c61, [.tmp 2, .tmp 3]⟩ .leaf .leaf))) (.node 69
  ⟨17, c69, [.tmp 4]⟩ (.node 64 ⟨55, c64, [.cell 8 (some 7), .tmp 9, .tmp 10]⟩ (.node 63 ⟨47, c63, [.tmp 10, .tmp 11]⟩ .leaf .leaf) (.node 67 ⟨36, c67, [.tmp 8]⟩ .leaf .leaf)) (.node 72 ⟨6, c72, [.tmp
  2]⟩ (.node 70 ⟨6, c70, [.tmp 2]⟩ .leaf .leaf) .leaf))) (.node 88 ⟨10, c88, [.tmp 4]⟩ (.node 81 ⟨27, c81, [.tmp 2]⟩ (.node 78 ⟨29, c78, [.tmp 6]⟩ (.node 74 ⟨30, c74, [.tmp 8]⟩ .leaf .leaf) (.node 79
  ⟨40, c79, [.tmp 2, .tmp 3]⟩ .leaf .leaf)) (.node 83 ⟨29, c83, [.tmp 2]⟩ (.node 82 ⟨10, c82, [.tmp 2]⟩ .leaf .leaf) (.node 84 ⟨12, c84, [.tmp 6]⟩ .leaf .leaf))) (.node 98 ⟨131, c98, [.cell 6 (some
  24)]⟩ (.node 94 ⟨17, c94, [.tmp 2]⟩ (.node 91 ⟨11, c91, [.tmp 3]⟩ .leaf .leaf) (.node 96 ⟨6, c96, [.tmp 2]⟩ .leaf .leaf)) (.node 100 ⟨90, c100, [.cell 6 (some 24)]⟩ (.node 99 ⟨7, c99, [.cell 2 (some
  24)]⟩ .leaf .leaf) .leaf))))) (.node 147 ⟨12, c147, [.tmp 2]⟩ (.node 119 ⟨55, c119, [.tmp 10, .tmp 11]⟩ (.node 112 ⟨28, c112, [.tmp 4, .tmp 5]⟩ (.node 105 ⟨52, c105, [.tmp 4]⟩ (.node 103 ⟨26, c103,
  [.tmp 4]⟩ (.node 102 ⟨72, c102, [.cell 4 (some 24)]⟩ .leaf .leaf) (.node 104 ⟨31, c104, [.tmp 4]⟩ .leaf .leaf)) (.node 107 ⟨26, c107, [.tmp 4]⟩ (.node 106 ⟨26, c106, [.tmp 4]⟩ .leaf .leaf) (.node
  111 ⟨23, c111, [.tmp 4]⟩ .leaf .leaf))) (.node 116 ⟨5, c116, [.tmp 2]⟩ (.node 114 ⟨32, c114, [.tmp 2]⟩ (.node 113 ⟨12, c113, [.tmp 2]⟩ .leaf .leaf) (.node 115 ⟨55, c115, [.tmp 4]⟩ .leaf .leaf))
  (.node 118 ⟨78, c118, [.tmp 4, .tmp 5]⟩ (.node 117 ⟨26, c117, [.tmp 4, .tmp 5]⟩ .leaf .leaf) .leaf))) (.node 134 ⟨21, c134, [.tmp 6]⟩ (.node 126 ⟨21, c126, [.tmp 2, .tmp 3]⟩ (.node 124 ⟨14, c124,
  [.tmp 4]⟩ (.node 120 ⟨101, c120, [.tmp 8]⟩ .leaf .leaf) (.node 125 ⟨11, c125, [.tmp 4, .tmp 5]⟩ .leaf .leaf)) (.node 129 ⟨58, c129, [.tmp 6]⟩ (.node 128 ⟨19, c128, [.tmp 4]⟩ .leaf .leaf) (.node 130
  ⟨12, c130, [.tmp 4]⟩ .leaf .leaf))) (.node 141 ⟨58, c141, [.tmp 2, .tmp 3]⟩ (.node 138 ⟨22, c138, [.tmp 2]⟩ (.node 137 ⟨15, c137, [.tmp 2, .tmp 3]⟩ .leaf .leaf) (.node 139 ⟨14, c139, [.tmp 4]⟩ .leaf
  .leaf)) (.node 145 ⟨11, c145, [.tmp 2]⟩ (.node 142 ⟨30, c142, [.tmp 2, .tmp 3]⟩ .leaf .leaf) .leaf)))) (.node 185 ⟨9, c185, [.tmp 4]⟩ (.node 155 ⟨54, c155, [.tmp 4, .tmp 5]⟩ (.node 151 ⟨11, c151,
  [.cell 4 (some 3)]⟩ (.node 149 ⟨9, c149, [.tmp 4]⟩ (.node 148 ⟨31, c148, [.tmp 2]⟩ .leaf .leaf) (.node 150 ⟨5, c150, [.cell 2 (some 3)]⟩ .leaf .leaf)) (.node 153 ⟨8, c153, [.tmp 6]⟩ (.node 152 ⟨38,
  c152, [.tmp 2, .tmp 3]⟩ .leaf .leaf) (.node 154 ⟨21, c154, []⟩ .leaf .leaf))) (.node 168 ⟨58, c168, [.tmp 2, .tmp 3]⟩ (.node 166 ⟨72, c166, [.tmp 2, .tmp 3]⟩ (.node 165 ⟨26, c165, [.tmp 4, .tmp 5]⟩
  .leaf .leaf) (.node 167 ⟨26, c167, [.tmp 4, .tmp 5]⟩ .leaf .leaf)) (.node 184 ⟨20, c184, [.tmp 2]⟩ (.node 182 ⟨53, c182, [.tmp 2, .tmp 3]⟩ .leaf .leaf) .leaf))) (.node 197 ⟨17, c197, [.tmp 4]⟩
  (.node 193 ⟨12, c193, [.tmp 4]⟩ (.node 187 ⟨9, c187, [.tmp 4]⟩ (.node 186 ⟨9, c186, [.tmp 4]⟩ .leaf .leaf) (.node 192 ⟨26, c192, [.tmp 4]⟩ .leaf .leaf)) (.node 195 ⟨49, c195, [.tmp 4]⟩ (.node 194
  ⟨16, c194, [.tmp 2]⟩ .leaf .leaf) (.node 196 ⟨43, c196, []⟩ .leaf .leaf))) (.node 217 ⟨24, c217, [.tmp 6]⟩ (.node 215 ⟨24, c215, [.tmp 6]⟩ (.node 198 ⟨6, c198, [.tmp 2]⟩ .leaf .leaf) (.node 216 ⟨24,
  c216, [.tmp 6]⟩ .leaf .leaf)) (.node 223 ⟨6, c223, [.tmp 2]⟩ (.node 222 ⟨26, c222, [.tmp 6]⟩ .leaf .leaf) .leaf))))))
theorem tabN_ok : tabN.Ok Tryz.prog :=
  ⟨f101, ⟨f51, ⟨f28, ⟨f17, ⟨f13, ⟨f10, ⟨f7, trivial, trivial⟩, ⟨f11, trivial, trivial⟩⟩, ⟨f15, ⟨f14, trivial, trivial⟩, ⟨f16, trivial, trivial⟩⟩⟩, ⟨f21, ⟨f19, ⟨f18, trivial, trivial⟩, ⟨f20, trivial,
  trivial⟩⟩, ⟨f23, ⟨f22, trivial, trivial⟩, ⟨f27, trivial, trivial⟩⟩⟩⟩, ⟨f41, ⟨f32, ⟨f30, ⟨f29, trivial, trivial⟩, ⟨f31, trivial, trivial⟩⟩, ⟨f39, ⟨f33, trivial, trivial⟩, ⟨f40, trivial, trivial⟩⟩⟩,
  ⟨f46, ⟨f44, ⟨f42, trivial, trivial⟩, ⟨f45, trivial, trivial⟩⟩, ⟨f50, ⟨f47, trivial, trivial⟩, trivial⟩⟩⟩⟩, ⟨f73, ⟨f62, ⟨f56, ⟨f53, ⟨f52, trivial, trivial⟩, ⟨f55, trivial, trivial⟩⟩, ⟨f60, ⟨f58,
  trivial, trivial⟩, ⟨f61, trivial, trivial⟩⟩⟩, ⟨f69, ⟨f64, ⟨f63, trivial, trivial⟩, ⟨f67, trivial, trivial⟩⟩, ⟨f72, ⟨f70, trivial, trivial⟩, trivial⟩⟩⟩, ⟨f88, ⟨f81, ⟨f78, ⟨f74, trivial, trivial⟩,
  ⟨f79, trivial, trivial⟩⟩, ⟨f83, ⟨f82, trivial, trivial⟩, ⟨f84, trivial, trivial⟩⟩⟩, ⟨f98, ⟨f94, ⟨f91, trivial, trivial⟩, ⟨f96, trivial, trivial⟩⟩, ⟨f100, ⟨f99, trivial, trivial⟩, trivial⟩⟩⟩⟩⟩,
  ⟨f147, ⟨f119, ⟨f112, ⟨f105, ⟨f103, ⟨f102, trivial, trivial⟩, ⟨f104, trivial, trivial⟩⟩, ⟨f107, ⟨f106, trivial, trivial⟩, ⟨f111, trivial, trivial⟩⟩⟩, ⟨f116, ⟨f114, ⟨f113, trivial, trivial⟩, ⟨f115,
  trivial, trivial⟩⟩, ⟨f118, ⟨f117, trivial, trivial⟩, trivial⟩⟩⟩, ⟨f134, ⟨f126, ⟨f124, ⟨f120, trivial, trivial⟩, ⟨f125, trivial, trivial⟩⟩, ⟨f129, ⟨f128, trivial, trivial⟩, ⟨f130, trivial,
  trivial⟩⟩⟩, ⟨f141, ⟨f138, ⟨f137, trivial, trivial⟩, ⟨f139, trivial, trivial⟩⟩, ⟨f145, ⟨f142, trivial, trivial⟩, trivial⟩⟩⟩⟩, ⟨f185, ⟨f155, ⟨f151, ⟨f149, ⟨f148, trivial, trivial⟩, ⟨f150, trivial,
  trivial⟩⟩, ⟨f153, ⟨f152, trivial, trivial⟩, ⟨f154, trivial, trivial⟩⟩⟩, ⟨f168, ⟨f166, ⟨f165, trivial, trivial⟩, ⟨f167, trivial, trivial⟩⟩, ⟨f184, ⟨f182, trivial, trivial⟩, trivial⟩⟩⟩, ⟨f197, ⟨f193,
  ⟨f187, ⟨f186, trivial, trivial⟩, ⟨f192, trivial, trivial⟩⟩, ⟨f195, ⟨f194, trivial, trivial⟩, ⟨f196, trivial, trivial⟩⟩⟩, ⟨f217, ⟨f215, ⟨f198, trivial, trivial⟩, ⟨f216, trivial, trivial⟩⟩, ⟨f223,
  ⟨f222, trivial, trivial⟩, trivial⟩⟩⟩⟩⟩⟩
theorem tabN_named : tabN.named Tryz.prog = true := by kernel_rfl
end Go.Proofs.YtkcgpcbpieofnaaGreatDoor.C
end
section
set_option linter.unusedSimpArgs false
set_option linter.unusedVariables false
set_option maxRecDepth 100000
namespace Go.Proofs.YtkcgpcbpieofnaaGreatDoor.Desk
open Go Go.Av Go.Proofs Go.Proofs.YtkcgpcbpieofnaaGreatDoor.C
theorem n60 : decide ((60 : Int) < ((1 : Nat) : Int)) = false := rfl
theorem n01 : decide ((0 : Int) < ((1 : Nat) : Int)) = true := rfl
theorem n11 : decide ((1 : Int) < ((1 : Nat) : Int)) = false := rfl
theorem k01 : (0 : Int) < ((1 : Nat) : Int) := by decide
theorem k00 : (0 : Int) ≤ 0 := by decide
set_option maxHeartbeats 4000000 in
theorem few25_t (x : Rq) (d1 : decide (1000 < (x.bucket.length : Int)) = false) (d2 : decide (1000 < (x.object.length : Int)) = false) (d3 : decide (1000 < (x.version.length : Int)) = false) (d4 : decide (1000 < (x.pre.length : Int)) = false) (d5 : decide (1000 < (x.delim.length : Int)) = false) (d6 : decide (10000 < (x.body.length : Int)) = false) (d7 : decide (100 < ((ints' x.parts).length : Int)) = false) : PCalls Tryz.prog 45 [.sl 14 [.agg (encQ x)] .any] (.bool true) := by
  refine f45.pcalls0 (by simp) (by simp [isPure, allPure, capPure, encQs_pure]) rfl ?_
  unfold c45
  have w1 : IntKind.i64.wrap (0 + 1) = 1 := by decide
  have t0 : (0 : Int).toNat = 0 := rfl
  have e1 : (encQ x).all isCell = true := rfl
  have e2 : Av.part 0 (some 14) (encQ x) = some (.agg (encQ x)) := rfl
  have e3 : (encQ x).length = 14 := rfl
  have p0 : (setAt [.int .i64 0, .int .i64 0, .str [], .str [], .str [], .str [], .str [], .str [], .int .i64 0, .int .i64 0, .int .i64 0, .int .i64 0, .int .i64 0, .sl 1 [] (.exact 0)] 0 (encQ x)) = encQ x := rfl
  unfold encQ
  repeat (first
    | ((first | apply Wp.seqItemsR | apply Wp.itemsR); (· simp only [go_sem, reduceIte, Nat.reduceEqDiff, Nat.reduceAdd, bx, ax, if_true, if_false, Nat.reduceMul, Nat.reduceLeDiff, List.length_cons, List.length_nil, Nat.zero_add, n60]; exact rfl))
    | (refine WpItems.nil ⟨?_, ?_⟩; (· first | trivial | simp [pairsQ, pairsOk, apart, ent0]))
    | (apply Wp.cond_lit; (· simp only [go_sem, reduceIte, Nat.reduceEqDiff, Nat.reduceAdd, bx, ax, if_true, if_false, Nat.reduceMul, Nat.reduceLeDiff, List.length_cons, List.length_nil, Nat.zero_add, n60]; exact rfl); (· rfl))
    | refine Wp.skip ?_
    | refine Wp.label ?_
    | refine Wp.block ?_
    | refine Wp.exit ?_
    | refine Wp.seq ?_)
  refine Wp.loopL (WpL.next ?_)
  repeat (first
    | ((first | apply Wp.seqItemsR | apply Wp.itemsR); (· simp only [go_sem, reduceIte, Nat.reduceEqDiff, Nat.reduceAdd, bx, ax, if_true, if_false, Nat.reduceMul, Nat.reduceLeDiff, List.length_cons, List.length_nil, Nat.zero_add, n01, k01, k00, t0, and_self, List.getD_cons_zero, List.drop_succ_cons, List.drop_zero, List.all_cons, List.all_nil, d1, d2, d3, d4, d5, d6, d7, w1]; exact rfl))
    | (refine WpItems.nil ⟨?_, ?_⟩; (· first | trivial | simp [pairsQ, pairsOk, apart, ent0]))
    | (apply Wp.cond_lit; (· simp only [go_sem, reduceIte, Nat.reduceEqDiff, Nat.reduceAdd, bx, ax, if_true, if_false, Nat.reduceMul, Nat.reduceLeDiff, List.length_cons, List.length_nil, Nat.zero_add, n01, k01, k00, t0, and_self, List.getD_cons_zero, List.drop_succ_cons, List.drop_zero, List.all_cons, List.all_nil, d1, d2, d3, d4, d5, d6, d7, w1]; exact rfl); (· rfl))
    | refine Wp.skip ?_
    | refine Wp.label ?_
    | refine Wp.block ?_
    | refine Wp.exit ?_
    | refine Wp.seq ?_)
  refine WpL.next ?_
  repeat (first
    | ((first | apply Wp.seqItemsR | apply Wp.itemsR); (· simp only [go_sem, reduceIte, Nat.reduceEqDiff, Nat.reduceAdd, bx, ax, if_true, if_false, Nat.reduceMul, Nat.reduceLeDiff, List.length_cons, List.length_nil, Nat.zero_add, n11]; exact rfl))
    | (refine WpItems.nil ⟨?_, ?_⟩; (· first | trivial | simp [pairsQ, pairsOk, apart, ent0]))
    | (apply Wp.cond_lit; (· simp only [go_sem, reduceIte, Nat.reduceEqDiff, Nat.reduceAdd, bx, ax, if_true, if_false, Nat.reduceMul, Nat.reduceLeDiff, List.length_cons, List.length_nil, Nat.zero_add, n11]; exact rfl); (· rfl))
    | refine Wp.skip ?_
    | refine Wp.label ?_
    | refine Wp.block ?_
    | refine Wp.exit ?_
    | refine Wp.seq ?_)
  refine Wp.ret ⟨trivial, _, rfl, ?_⟩
  simp only [go_sem, reduceIte, Nat.reduceEqDiff, Nat.reduceAdd, bx]
  exact VSub.refl _
set_option maxHeartbeats 4000000 in
theorem few25_1 (x : Rq) (d1 : decide (1000 < (x.bucket.length : Int)) = true) : PCalls Tryz.prog 45 [.sl 14 [.agg (encQ x)] .any] (.bool false) := by
  refine f45.pcalls0 (by simp) (by simp [isPure, allPure, capPure, encQs_pure]) rfl ?_
  unfold c45
  have w1 : IntKind.i64.wrap (0 + 1) = 1 := by decide
  have t0 : (0 : Int).toNat = 0 := rfl
  have e1 : (encQ x).all isCell = true := rfl
  have e2 : Av.part 0 (some 14) (encQ x) = some (.agg (encQ x)) := rfl
  have e3 : (encQ x).length = 14 := rfl
  have p0 : (setAt [.int .i64 0, .int .i64 0, .str [], .str [], .str [], .str [], .str [], .str [], .int .i64 0, .int .i64 0, .int .i64 0, .int .i64 0, .int .i64 0, .sl 1 [] (.exact 0)] 0 (encQ x)) = encQ x := rfl
  unfold encQ
  repeat (first
    | ((first | apply Wp.seqItemsR | apply Wp.itemsR); (· simp only [go_sem, reduceIte, Nat.reduceEqDiff, Nat.reduceAdd, bx, ax, if_true, if_false, Nat.reduceMul, Nat.reduceLeDiff, List.length_cons, List.length_nil, Nat.zero_add, n60]; exact rfl))
    | (refine WpItems.nil ⟨?_, ?_⟩; (· first | trivial | simp [pairsQ, pairsOk, apart, ent0]))
    | (apply Wp.cond_lit; (· simp only [go_sem, reduceIte, Nat.reduceEqDiff, Nat.reduceAdd, bx, ax, if_true, if_false, Nat.reduceMul, Nat.reduceLeDiff, List.length_cons, List.length_nil, Nat.zero_add, n60]; exact rfl); (· rfl))
    | refine Wp.skip ?_
    | refine Wp.label ?_
    | refine Wp.block ?_
    | refine Wp.exit ?_
    | refine Wp.seq ?_)
  refine Wp.loopL (WpL.next ?_)
  repeat (first
    | ((first | apply Wp.seqItemsR | apply Wp.itemsR); (· simp only [go_sem, reduceIte, Nat.reduceEqDiff, Nat.reduceAdd, bx, ax, if_true, if_false, Nat.reduceMul, Nat.reduceLeDiff, List.length_cons, List.length_nil, Nat.zero_add, n01, k01, k00, t0, and_self, List.getD_cons_zero, List.drop_succ_cons, List.drop_zero, List.all_cons, List.all_nil, d1, w1]; exact rfl))
    | (refine WpItems.nil ⟨?_, ?_⟩; (· first | trivial | simp [pairsQ, pairsOk, apart, ent0]))
    | (apply Wp.cond_lit; (· simp only [go_sem, reduceIte, Nat.reduceEqDiff, Nat.reduceAdd, bx, ax, if_true, if_false, Nat.reduceMul, Nat.reduceLeDiff, List.length_cons, List.length_nil, Nat.zero_add, n01, k01, k00, t0, and_self, List.getD_cons_zero, List.drop_succ_cons, List.drop_zero, List.all_cons, List.all_nil, d1, w1]; exact rfl); (· rfl))
    | refine Wp.skip ?_
    | refine Wp.label ?_
    | refine Wp.block ?_
    | refine Wp.exit ?_
    | refine Wp.seq ?_)
  refine Wp.ret ⟨trivial, _, rfl, ?_⟩
  simp only [go_sem, reduceIte, Nat.reduceEqDiff, Nat.reduceAdd, bx]
  exact VSub.refl _
set_option maxHeartbeats 4000000 in
theorem few25_2 (x : Rq) (d1 : decide (1000 < (x.bucket.length : Int)) = false) (d2 : decide (1000 < (x.object.length : Int)) = true) : PCalls Tryz.prog 45 [.sl 14 [.agg (encQ x)] .any] (.bool false) := by
  refine f45.pcalls0 (by simp) (by simp [isPure, allPure, capPure, encQs_pure]) rfl ?_
  unfold c45
  have w1 : IntKind.i64.wrap (0 + 1) = 1 := by decide
  have t0 : (0 : Int).toNat = 0 := rfl
  have e1 : (encQ x).all isCell = true := rfl
  have e2 : Av.part 0 (some 14) (encQ x) = some (.agg (encQ x)) := rfl
  have e3 : (encQ x).length = 14 := rfl
  have p0 : (setAt [.int .i64 0, .int .i64 0, .str [], .str [], .str [], .str [], .str [], .str [], .int .i64 0, .int .i64 0, .int .i64 0, .int .i64 0, .int .i64 0, .sl 1 [] (.exact 0)] 0 (encQ x)) = encQ x := rfl
  unfold encQ
  repeat (first
    | ((first | apply Wp.seqItemsR | apply Wp.itemsR); (· simp only [go_sem, reduceIte, Nat.reduceEqDiff, Nat.reduceAdd, bx, ax, if_true, if_false, Nat.reduceMul, Nat.reduceLeDiff, List.length_cons, List.length_nil, Nat.zero_add, n60]; exact rfl))
    | (refine WpItems.nil ⟨?_, ?_⟩; (· first | trivial | simp [pairsQ, pairsOk, apart, ent0]))
    | (apply Wp.cond_lit; (· simp only [go_sem, reduceIte, Nat.reduceEqDiff, Nat.reduceAdd, bx, ax, if_true, if_false, Nat.reduceMul, Nat.reduceLeDiff, List.length_cons, List.length_nil, Nat.zero_add, n60]; exact rfl); (· rfl))
    | refine Wp.skip ?_
    | refine Wp.label ?_
    | refine Wp.block ?_
    | refine Wp.exit ?_
    | refine Wp.seq ?_)
  refine Wp.loopL (WpL.next ?_)
  repeat (first
    | ((first | apply Wp.seqItemsR | apply Wp.itemsR); (· simp only [go_sem, reduceIte, Nat.reduceEqDiff, Nat.reduceAdd, bx, ax, if_true, if_false, Nat.reduceMul, Nat.reduceLeDiff, List.length_cons, List.length_nil, Nat.zero_add, n01, k01, k00, t0, and_self, List.getD_cons_zero, List.drop_succ_cons, List.drop_zero, List.all_cons, List.all_nil, d1, d2, w1]; exact rfl))
    | (refine WpItems.nil ⟨?_, ?_⟩; (· first | trivial | simp [pairsQ, pairsOk, apart, ent0]))
    | (apply Wp.cond_lit; (· simp only [go_sem, reduceIte, Nat.reduceEqDiff, Nat.reduceAdd, bx, ax, if_true, if_false, Nat.reduceMul, Nat.reduceLeDiff, List.length_cons, List.length_nil, Nat.zero_add, n01, k01, k00, t0, and_self, List.getD_cons_zero, List.drop_succ_cons, List.drop_zero, List.all_cons, List.all_nil, d1, d2, w1]; exact rfl); (· rfl))
    | refine Wp.skip ?_
    | refine Wp.label ?_
    | refine Wp.block ?_
    | refine Wp.exit ?_
    | refine Wp.seq ?_)
  refine Wp.ret ⟨trivial, _, rfl, ?_⟩
  simp only [go_sem, reduceIte, Nat.reduceEqDiff, Nat.reduceAdd, bx]
  exact VSub.refl _
set_option maxHeartbeats 4000000 in
theorem few25_3 (x : Rq) (d1 : decide (1000 < (x.bucket.length : Int)) = false) (d2 : decide (1000 < (x.object.length : Int)) = false) (d3 : decide (1000 < (x.version.length : Int)) = true) : PCalls Tryz.prog 45 [.sl 14 [.agg (encQ x)] .any] (.bool false) := by
  refine f45.pcalls0 (by simp) (by simp [isPure, allPure, capPure, encQs_pure]) rfl ?_
  unfold c45
  have w1 : IntKind.i64.wrap (0 + 1) = 1 := by decide
  have t0 : (0 : Int).toNat = 0 := rfl
  have e1 : (encQ x).all isCell = true := rfl
  have e2 : Av.part 0 (some 14) (encQ x) = some (.agg (encQ x)) := rfl
  have e3 : (encQ x).length = 14 := rfl
  have p0 : (setAt [.int .i64 0, .int .i64 0, .str [], .str [], .str [], .str [], .str [], .str [], .int .i64 0, .int .i64 0, .int .i64 0, .int .i64 0, .int .i64 0, .sl 1 [] (.exact 0)] 0 (encQ x)) = encQ x := rfl
  unfold encQ
  repeat (first
    | ((first | apply Wp.seqItemsR | apply Wp.itemsR); (· simp only [go_sem, reduceIte, Nat.reduceEqDiff, Nat.reduceAdd, bx, ax, if_true, if_false, Nat.reduceMul, Nat.reduceLeDiff, List.length_cons, List.length_nil, Nat.zero_add, n60]; exact rfl))
    | (refine WpItems.nil ⟨?_, ?_⟩; (· first | trivial | simp [pairsQ, pairsOk, apart, ent0]))
    | (apply Wp.cond_lit; (· simp only [go_sem, reduceIte, Nat.reduceEqDiff, Nat.reduceAdd, bx, ax, if_true, if_false, Nat.reduceMul, Nat.reduceLeDiff, List.length_cons, List.length_nil, Nat.zero_add, n60]; exact rfl); (· rfl))
    | refine Wp.skip ?_
    | refine Wp.label ?_
    | refine Wp.block ?_
    | refine Wp.exit ?_
    | refine Wp.seq ?_)
  refine Wp.loopL (WpL.next ?_)
  repeat (first
    | ((first | apply Wp.seqItemsR | apply Wp.itemsR); (· simp only [go_sem, reduceIte, Nat.reduceEqDiff, Nat.reduceAdd, bx, ax, if_true, if_false, Nat.reduceMul, Nat.reduceLeDiff, List.length_cons, List.length_nil, Nat.zero_add, n01, k01, k00, t0, and_self, List.getD_cons_zero, List.drop_succ_cons, List.drop_zero, List.all_cons, List.all_nil, d1, d2, d3, w1]; exact rfl))
    | (refine WpItems.nil ⟨?_, ?_⟩; (· first | trivial | simp [pairsQ, pairsOk, apart, ent0]))
    | (apply Wp.cond_lit; (· simp only [go_sem, reduceIte, Nat.reduceEqDiff, Nat.reduceAdd, bx, ax, if_true, if_false, Nat.reduceMul, Nat.reduceLeDiff, List.length_cons, List.length_nil, Nat.zero_add, n01, k01, k00, t0, and_self, List.getD_cons_zero, List.drop_succ_cons, List.drop_zero, List.all_cons, List.all_nil, d1, d2, d3, w1]; exact rfl); (· rfl))
    | refine Wp.skip ?_
    | refine Wp.label ?_
    | refine Wp.block ?_
    | refine Wp.exit ?_
    | refine Wp.seq ?_)
  refine Wp.ret ⟨trivial, _, rfl, ?_⟩
  simp only [go_sem, reduceIte, Nat.reduceEqDiff, Nat.reduceAdd, bx]
  exact VSub.refl _
set_option maxHeartbeats 4000000 in
theorem few25_4 (x : Rq) (d1 : decide (1000 < (x.bucket.length : Int)) = false) (d2 : decide (1000 < (x.object.length : Int)) = false) (d3 : decide (1000 < (x.version.length : Int)) = false) (d4 : decide (1000 < (x.pre.length : Int)) = true) : PCalls Tryz.prog 45 [.sl 14 [.agg (encQ x)] .any] (.bool false) := by
  refine f45.pcalls0 (by simp) (by simp [isPure, allPure, capPure, encQs_pure]) rfl ?_
  unfold c45
  have w1 : IntKind.i64.wrap (0 + 1) = 1 := by decide
  have t0 : (0 : Int).toNat = 0 := rfl
  have e1 : (encQ x).all isCell = true := rfl
  have e2 : Av.part 0 (some 14) (encQ x) = some (.agg (encQ x)) := rfl
  have e3 : (encQ x).length = 14 := rfl
  have p0 : (setAt [.int .i64 0, .int .i64 0, .str [], .str [], .str [], .str [], .str [], .str [], .int .i64 0, .int .i64 0, .int .i64 0, .int .i64 0, .int .i64 0, .sl 1 [] (.exact 0)] 0 (encQ x)) = encQ x := rfl
  unfold encQ
  repeat (first
    | ((first | apply Wp.seqItemsR | apply Wp.itemsR); (· simp only [go_sem, reduceIte, Nat.reduceEqDiff, Nat.reduceAdd, bx, ax, if_true, if_false, Nat.reduceMul, Nat.reduceLeDiff, List.length_cons, List.length_nil, Nat.zero_add, n60]; exact rfl))
    | (refine WpItems.nil ⟨?_, ?_⟩; (· first | trivial | simp [pairsQ, pairsOk, apart, ent0]))
    | (apply Wp.cond_lit; (· simp only [go_sem, reduceIte, Nat.reduceEqDiff, Nat.reduceAdd, bx, ax, if_true, if_false, Nat.reduceMul, Nat.reduceLeDiff, List.length_cons, List.length_nil, Nat.zero_add, n60]; exact rfl); (· rfl))
    | refine Wp.skip ?_
    | refine Wp.label ?_
    | refine Wp.block ?_
    | refine Wp.exit ?_
    | refine Wp.seq ?_)
  refine Wp.loopL (WpL.next ?_)
  repeat (first
    | ((first | apply Wp.seqItemsR | apply Wp.itemsR); (· simp only [go_sem, reduceIte, Nat.reduceEqDiff, Nat.reduceAdd, bx, ax, if_true, if_false, Nat.reduceMul, Nat.reduceLeDiff, List.length_cons, List.length_nil, Nat.zero_add, n01, k01, k00, t0, and_self, List.getD_cons_zero, List.drop_succ_cons, List.drop_zero, List.all_cons, List.all_nil, d1, d2, d3, d4, w1]; exact rfl))
    | (refine WpItems.nil ⟨?_, ?_⟩; (· first | trivial | simp [pairsQ, pairsOk, apart, ent0]))
    | (apply Wp.cond_lit; (· simp only [go_sem, reduceIte, Nat.reduceEqDiff, Nat.reduceAdd, bx, ax, if_true, if_false, Nat.reduceMul, Nat.reduceLeDiff, List.length_cons, List.length_nil, Nat.zero_add, n01, k01, k00, t0, and_self, List.getD_cons_zero, List.drop_succ_cons, List.drop_zero, List.all_cons, List.all_nil, d1, d2, d3, d4, w1]; exact rfl); (· rfl))
    | refine Wp.skip ?_
    | refine Wp.label ?_
    | refine Wp.block ?_
    | refine Wp.exit ?_
    | refine Wp.seq ?_)
  refine Wp.ret ⟨trivial, _, rfl, ?_⟩
  simp only [go_sem, reduceIte, Nat.reduceEqDiff, Nat.reduceAdd, bx]
  exact VSub.refl _
set_option maxHeartbeats 4000000 in
theorem few25_5 (x : Rq) (d1 : decide (1000 < (x.bucket.length : Int)) = false) (d2 : decide (1000 < (x.object.length : Int)) = false) (d3 : decide (1000 < (x.version.length : Int)) = false) (d4 : decide (1000 < (x.pre.length : Int)) = false) (d5 : decide (1000 < (x.delim.length : Int)) = true) : PCalls Tryz.prog 45 [.sl 14 [.agg (encQ x)] .any] (.bool false) := by
  refine f45.pcalls0 (by simp) (by simp [isPure, allPure, capPure, encQs_pure]) rfl ?_
  unfold c45
  have w1 : IntKind.i64.wrap (0 + 1) = 1 := by decide
  have t0 : (0 : Int).toNat = 0 := rfl
  have e1 : (encQ x).all isCell = true := rfl
  have e2 : Av.part 0 (some 14) (encQ x) = some (.agg (encQ x)) := rfl
  have e3 : (encQ x).length = 14 := rfl
  have p0 : (setAt [.int .i64 0, .int .i64 0, .str [], .str [], .str [], .str [], .str [], .str [], .int .i64 0, .int .i64 0, .int .i64 0, .int .i64 0, .int .i64 0, .sl 1 [] (.exact 0)] 0 (encQ x)) = encQ x := rfl
  unfold encQ
  repeat (first
    | ((first | apply Wp.seqItemsR | apply Wp.itemsR); (· simp only [go_sem, reduceIte, Nat.reduceEqDiff, Nat.reduceAdd, bx, ax, if_true, if_false, Nat.reduceMul, Nat.reduceLeDiff, List.length_cons, List.length_nil, Nat.zero_add, n60]; exact rfl))
    | (refine WpItems.nil ⟨?_, ?_⟩; (· first | trivial | simp [pairsQ, pairsOk, apart, ent0]))
    | (apply Wp.cond_lit; (· simp only [go_sem, reduceIte, Nat.reduceEqDiff, Nat.reduceAdd, bx, ax, if_true, if_false, Nat.reduceMul, Nat.reduceLeDiff, List.length_cons, List.length_nil, Nat.zero_add, n60]; exact rfl); (· rfl))
    | refine Wp.skip ?_
    | refine Wp.label ?_
    | refine Wp.block ?_
    | refine Wp.exit ?_
    | refine Wp.seq ?_)
  refine Wp.loopL (WpL.next ?_)
  repeat (first
    | ((first | apply Wp.seqItemsR | apply Wp.itemsR); (· simp only [go_sem, reduceIte, Nat.reduceEqDiff, Nat.reduceAdd, bx, ax, if_true, if_false, Nat.reduceMul, Nat.reduceLeDiff, List.length_cons, List.length_nil, Nat.zero_add, n01, k01, k00, t0, and_self, List.getD_cons_zero, List.drop_succ_cons, List.drop_zero, List.all_cons, List.all_nil, d1, d2, d3, d4, d5, w1]; exact rfl))
    | (refine WpItems.nil ⟨?_, ?_⟩; (· first | trivial | simp [pairsQ, pairsOk, apart, ent0]))
    | (apply Wp.cond_lit; (· simp only [go_sem, reduceIte, Nat.reduceEqDiff, Nat.reduceAdd, bx, ax, if_true, if_false, Nat.reduceMul, Nat.reduceLeDiff, List.length_cons, List.length_nil, Nat.zero_add, n01, k01, k00, t0, and_self, List.getD_cons_zero, List.drop_succ_cons, List.drop_zero, List.all_cons, List.all_nil, d1, d2, d3, d4, d5, w1]; exact rfl); (· rfl))
    | refine Wp.skip ?_
    | refine Wp.label ?_
    | refine Wp.block ?_
    | refine Wp.exit ?_
    | refine Wp.seq ?_)
  refine Wp.ret ⟨trivial, _, rfl, ?_⟩
  simp only [go_sem, reduceIte, Nat.reduceEqDiff, Nat.reduceAdd, bx]
  exact VSub.refl _
set_option maxHeartbeats 4000000 in
theorem few25_6 (x : Rq) (d1 : decide (1000 < (x.bucket.length : Int)) = false) (d2 : decide (1000 < (x.object.length : Int)) = false) (d3 : decide (1000 < (x.version.length : Int)) = false) (d4 : decide (1000 < (x.pre.length : Int)) = false) (d5 : decide (1000 < (x.delim.length : Int)) = false) (d6 : decide (10000 < (x.body.length : Int)) = true) : PCalls Tryz.prog 45 [.sl 14 [.agg (encQ x)] .any] (.bool false) := by
  refine f45.pcalls0 (by simp) (by simp [isPure, allPure, capPure, encQs_pure]) rfl ?_
  unfold c45
  have w1 : IntKind.i64.wrap (0 + 1) = 1 := by decide
  have t0 : (0 : Int).toNat = 0 := rfl
  have e1 : (encQ x).all isCell = true := rfl
  have e2 : Av.part 0 (some 14) (encQ x) = some (.agg (encQ x)) := rfl
  have e3 : (encQ x).length = 14 := rfl
  have p0 : (setAt [.int .i64 0, .int .i64 0, .str [], .str [], .str [], .str [], .str [], .str [], .int .i64 0, .int .i64 0, .int .i64 0, .int .i64 0, .int .i64 0, .sl 1 [] (.exact 0)] 0 (encQ x)) = encQ x := rfl
  unfold encQ
  repeat (first
    | ((first | apply Wp.seqItemsR | apply Wp.itemsR); (· simp only [go_sem, reduceIte, Nat.reduceEqDiff, Nat.reduceAdd, bx, ax, if_true, if_false, Nat.reduceMul, Nat.reduceLeDiff, List.length_cons, List.length_nil, Nat.zero_add, n60]; exact rfl))
    | (refine WpItems.nil ⟨?_, ?_⟩; (· first | trivial | simp [pairsQ, pairsOk, apart, ent0]))
    | (apply Wp.cond_lit; (· simp only [go_sem, reduceIte, Nat.reduceEqDiff, Nat.reduceAdd, bx, ax, if_true, if_false, Nat.reduceMul, Nat.reduceLeDiff, List.length_cons, List.length_nil, Nat.zero_add, n60]; exact rfl); (· rfl))
    | refine Wp.skip ?_
    | refine Wp.label ?_
    | refine Wp.block ?_
    | refine Wp.exit ?_
    | refine Wp.seq ?_)
  refine Wp.loopL (WpL.next ?_)
  repeat (first
    | ((first | apply Wp.seqItemsR | apply Wp.itemsR); (· simp only [go_sem, reduceIte, Nat.reduceEqDiff, Nat.reduceAdd, bx, ax, if_true, if_false, Nat.reduceMul, Nat.reduceLeDiff, List.length_cons, List.length_nil, Nat.zero_add, n01, k01, k00, t0, and_self, List.getD_cons_zero, List.drop_succ_cons, List.drop_zero, List.all_cons, List.all_nil, d1, d2, d3, d4, d5, d6, w1]; exact rfl))
    | (refine WpItems.nil ⟨?_, ?_⟩; (· first | trivial | simp [pairsQ, pairsOk, apart, ent0]))
    | (apply Wp.cond_lit; (· simp only [go_sem, reduceIte, Nat.reduceEqDiff, Nat.reduceAdd, bx, ax, if_true, if_false, Nat.reduceMul, Nat.reduceLeDiff, List.length_cons, List.length_nil, Nat.zero_add, n01, k01, k00, t0, and_self, List.getD_cons_zero, List.drop_succ_cons, List.drop_zero, List.all_cons, List.all_nil, d1, d2, d3, d4, d5, d6, w1]; exact rfl); (· rfl))
    | refine Wp.skip ?_
    | refine Wp.label ?_
    | refine Wp.block ?_
    | refine Wp.exit ?_
    | refine Wp.seq ?_)
  refine Wp.ret ⟨trivial, _, rfl, ?_⟩
  simp only [go_sem, reduceIte, Nat.reduceEqDiff, Nat.reduceAdd, bx]
  exact VSub.refl _
set_option maxHeartbeats 4000000 in
theorem few25_7 (x : Rq) (d1 : decide (1000 < (x.bucket.length : Int)) = false) (d2 : decide (1000 < (x.object.length : Int)) = false) (d3 : decide (1000 < (x.version.length : Int)) = false) (d4 : decide (1000 < (x.pre.length : Int)) = false) (d5 : decide (1000 < (x.delim.length : Int)) = false) (d6 : decide (10000 < (x.body.length : Int)) = false) (d7 : decide (100 < ((ints' x.parts).length : Int)) = true) : PCalls Tryz.prog 45 [.sl 14 [.agg (encQ x)] .any] (.bool false) := by
  refine f45.pcalls0 (by simp) (by simp [isPure, allPure, capPure, encQs_pure]) rfl ?_
  unfold c45
  have w1 : IntKind.i64.wrap (0 + 1) = 1 := by decide
  have t0 : (0 : Int).toNat = 0 := rfl
  have e1 : (encQ x).all isCell = true := rfl
  have e2 : Av.part 0 (some 14) (encQ x) = some (.agg (encQ x)) := rfl
  have e3 : (encQ x).length = 14 := rfl
  have p0 : (setAt [.int .i64 0, .int .i64 0, .str [], .str [], .str [], .str [], .str [], .str [], .int .i64 0, .int .i64 0, .int .i64 0, .int .i64 0, .int .i64 0, .sl 1 [] (.exact 0)] 0 (encQ x)) = encQ x := rfl
  unfold encQ
  repeat (first
    | ((first | apply Wp.seqItemsR | apply Wp.itemsR); (· simp only [go_sem, reduceIte, Nat.reduceEqDiff, Nat.reduceAdd, bx, ax, if_true, if_false, Nat.reduceMul, Nat.reduceLeDiff, List.length_cons, List.length_nil, Nat.zero_add, n60]; exact rfl))
    | (refine WpItems.nil ⟨?_, ?_⟩; (· first | trivial | simp [pairsQ, pairsOk, apart, ent0]))
    | (apply Wp.cond_lit; (· simp only [go_sem, reduceIte, Nat.reduceEqDiff, Nat.reduceAdd, bx, ax, if_true, if_false, Nat.reduceMul, Nat.reduceLeDiff, List.length_cons, List.length_nil, Nat.zero_add, n60]; exact rfl); (· rfl))
    | refine Wp.skip ?_
    | refine Wp.label ?_
    | refine Wp.block ?_
    | refine Wp.exit ?_
    | refine Wp.seq ?_)
  refine Wp.loopL (WpL.next ?_)
  repeat (first
    | ((first | apply Wp.seqItemsR | apply Wp.itemsR); (· simp only [go_sem, reduceIte, Nat.reduceEqDiff, Nat.reduceAdd, bx, ax, if_true, if_false, Nat.reduceMul, Nat.reduceLeDiff, List.length_cons, List.length_nil, Nat.zero_add, n01, k01, k00, t0, and_self, List.getD_cons_zero, List.drop_succ_cons, List.drop_zero, List.all_cons, List.all_nil, d1, d2, d3, d4, d5, d6, d7, w1]; exact rfl))
    | (refine WpItems.nil ⟨?_, ?_⟩; (· first | trivial | simp [pairsQ, pairsOk, apart, ent0]))
    | (apply Wp.cond_lit; (· simp only [go_sem, reduceIte, Nat.reduceEqDiff, Nat.reduceAdd, bx, ax, if_true, if_false, Nat.reduceMul, Nat.reduceLeDiff, List.length_cons, List.length_nil, Nat.zero_add, n01, k01, k00, t0, and_self, List.getD_cons_zero, List.drop_succ_cons, List.drop_zero, List.all_cons, List.all_nil, d1, d2, d3, d4, d5, d6, d7, w1]; exact rfl); (· rfl))
    | refine Wp.skip ?_
    | refine Wp.label ?_
    | refine Wp.block ?_
    | refine Wp.exit ?_
    | refine Wp.seq ?_)
  refine Wp.ret ⟨trivial, _, rfl, ?_⟩
  simp only [go_sem, reduceIte, Nat.reduceEqDiff, Nat.reduceAdd, bx]
  exact VSub.refl _
theorem few25_p (x : Rq) : PCalls Tryz.prog 45 [.sl 14 [.agg (encQ x)] .any] (.bool false) ∨ (x.body.length ≤ 10000 ∧ PCalls Tryz.prog 45 [.sl 14 [.agg (encQ x)] .any] (.bool true)) := by
  cases d1 : decide (1000 < (x.bucket.length : Int)) with
  | true => exact .inl (few25_1 x d1)
  | false =>
  cases d2 : decide (1000 < (x.object.length : Int)) with
  | true => exact .inl (few25_2 x d1 d2)
  | false =>
  cases d3 : decide (1000 < (x.version.length : Int)) with
  | true => exact .inl (few25_3 x d1 d2 d3)
  | false =>
  cases d4 : decide (1000 < (x.pre.length : Int)) with
  | true => exact .inl (few25_4 x d1 d2 d3 d4)
  | false =>
  cases d5 : decide (1000 < (x.delim.length : Int)) with
  | true => exact .inl (few25_5 x d1 d2 d3 d4 d5)
  | false =>
  cases d6 : decide (10000 < (x.body.length : Int)) with
  | true => exact .inl (few25_6 x d1 d2 d3 d4 d5 d6)
  | false =>
  cases d7 : decide (100 < ((ints' x.parts).length : Int)) with
  | true => exact .inl (few25_7 x d1 d2 d3 d4 d5 d6 d7)
  | false =>
  exact .inr ⟨by have := of_decide_eq_false d6; omega, few25_t x d1 d2 d3 d4 d5 d6 d7⟩
def zeroE : List AV := [.int .i64 0, .int .i64 0, .str [], .int .i64 0, .int .i64 0, .str [], .int .i64 0, .int .i64 0, .int .i64 0, .bool false, .bool false, .str [], .sl 1 [] (.exact 0), .sl 1 [] (.exact 0), .sl 1 [] (.exact 0), .str [], .bool false, .sl 8 [] (.exact 0), .str [], .int .i64 0, .bool false, .sl 2 [] (.exact 0), .sl 6 [] (.exact 0)]
def respE (e : Int) : List AV := .int .i64 e :: zeroE
def encW (q : Rq) (k : Int) : List AV := [.int .i64 k, .int .i64 q.ses, .str q.bucket, .str q.object, .str q.version, .str q.pre, .str q.delim, .sup 10000, .int .i64 q.c1, .int .i64 q.c2, .int .i64 q.c3, .int .i64 q.id, .int .i64 q.n, .one]
theorem encW_sub (q : Rq) (hb : q.body.length ≤ 10000) : VSubs (encQ q) (encW q q.kind) :=
  VSubs.cons (VSub.refl _) (VSubs.cons (VSub.refl _) (VSubs.cons (VSub.refl _) (VSubs.cons (VSub.refl _) (VSubs.cons (VSub.refl _) (VSubs.cons (VSub.refl _) (VSubs.cons (VSub.refl _) (VSubs.cons (VSub.sup hb) (VSubs.cons (VSub.refl _) (VSubs.cons (VSub.refl _) (VSubs.cons (VSub.refl _) (VSubs.cons (VSub.refl _) (VSubs.cons (VSub.refl _) (VSubs.cons VSub.oneS VSubs.nil)))))))))))))
theorem do_5 (q : Rq) : PCalls Tryz.prog 46 [.sc (.pointer none), .agg (encW q 5)] (.agg (respE 1)) := pcalls_runZv tabN_ok tabN_named boundPrims_ok (k := 100000) rfl rfl (by kernel_rfl)
theorem do_6 (q : Rq) : PCalls Tryz.prog 46 [.sc (.pointer none), .agg (encW q 6)] (.agg (respE 1)) := pcalls_runZv tabN_ok tabN_named boundPrims_ok (k := 100000) rfl rfl (by kernel_rfl)
theorem do_7 (q : Rq) : PCalls Tryz.prog 46 [.sc (.pointer none), .agg (encW q 7)] (.agg (respE 1)) := pcalls_runZv tabN_ok tabN_named boundPrims_ok (k := 100000) rfl rfl (by kernel_rfl)
theorem do_8 (q : Rq) : PCalls Tryz.prog 46 [.sc (.pointer none), .agg (encW q 8)] (.agg (respE 1)) := by
  obtain ⟨kind, ses, b, o, v, pr, dl, bd, c1, c2, c3, id, n | n, pt⟩ := q
  · exact pcalls_runZv tabN_ok tabN_named boundPrims_ok (k := 100000) rfl rfl (by kernel_rfl)
  · exact pcalls_runZv tabN_ok tabN_named boundPrims_ok (k := 100000) rfl rfl (by kernel_rfl)
theorem do_9 (q : Rq) : PCalls Tryz.prog 46 [.sc (.pointer none), .agg (encW q 9)] (.agg (respE 1)) := pcalls_runZv tabN_ok tabN_named boundPrims_ok (k := 100000) rfl rfl (by kernel_rfl)
theorem do_10 (q : Rq) : PCalls Tryz.prog 46 [.sc (.pointer none), .agg (encW q 10)] (.agg (respE 1)) := pcalls_runZv tabN_ok tabN_named boundPrims_ok (k := 100000) rfl rfl (by kernel_rfl)
theorem do_11 (q : Rq) : PCalls Tryz.prog 46 [.sc (.pointer none), .agg (encW q 11)] (.agg (respE 1)) := pcalls_runZv tabN_ok tabN_named boundPrims_ok (k := 100000) rfl rfl (by kernel_rfl)
theorem do_12 (q : Rq) : PCalls Tryz.prog 46 [.sc (.pointer none), .agg (encW q 12)] (.agg (respE 1)) := pcalls_runZv tabN_ok tabN_named boundPrims_ok (k := 100000) rfl rfl (by kernel_rfl)
theorem do_13 (q : Rq) : PCalls Tryz.prog 46 [.sc (.pointer none), .agg (encW q 13)] (.agg (respE 1)) := by
  obtain ⟨kind, ses, b, o, v | ⟨v1, v2⟩, pr, dl, bd, c1, c2, c3, id, n, pt⟩ := q
  · exact pcalls_runZv tabN_ok tabN_named boundPrims_ok (k := 100000) rfl rfl (by kernel_rfl)
  · exact pcalls_runZv tabN_ok tabN_named boundPrims_ok (k := 100000) rfl rfl (by kernel_rfl)
theorem do_14 (q : Rq) : PCalls Tryz.prog 46 [.sc (.pointer none), .agg (encW q 14)] (.agg (respE 1)) := pcalls_runZv tabN_ok tabN_named boundPrims_ok (k := 100000) rfl rfl (by kernel_rfl)
theorem do_15 (q : Rq) : PCalls Tryz.prog 46 [.sc (.pointer none), .agg (encW q 15)] (.agg (respE 1)) := pcalls_runZv tabN_ok tabN_named boundPrims_ok (k := 100000) rfl rfl (by kernel_rfl)
theorem do_16 (q : Rq) : PCalls Tryz.prog 46 [.sc (.pointer none), .agg (encW q 16)] (.agg (respE 1)) := pcalls_runZv tabN_ok tabN_named boundPrims_ok (k := 100000) rfl rfl (by kernel_rfl)
theorem do_17 (q : Rq) : PCalls Tryz.prog 46 [.sc (.pointer none), .agg (encW q 17)] (.agg (respE 1)) := pcalls_runZv tabN_ok tabN_named boundPrims_ok (k := 100000) rfl rfl (by kernel_rfl)
theorem do_18 (q : Rq) : PCalls Tryz.prog 46 [.sc (.pointer none), .agg (encW q 18)] (.agg (respE 1)) := pcalls_runZv tabN_ok tabN_named boundPrims_ok (k := 100000) rfl rfl (by kernel_rfl)
theorem do_19 (q : Rq) : PCalls Tryz.prog 46 [.sc (.pointer none), .agg (encW q 19)] (.agg (respE 1)) := pcalls_runZv tabN_ok tabN_named boundPrims_ok (k := 100000) rfl rfl (by kernel_rfl)
theorem do_20 (q : Rq) : PCalls Tryz.prog 46 [.sc (.pointer none), .agg (encW q 20)] (.agg (respE 1)) := pcalls_runZv tabN_ok tabN_named boundPrims_ok (k := 100000) rfl rfl (by kernel_rfl)
theorem do_21 (q : Rq) : PCalls Tryz.prog 46 [.sc (.pointer none), .agg (encW q 21)] (.agg (respE 1)) := pcalls_runZv tabN_ok tabN_named boundPrims_ok (k := 100000) rfl rfl (by kernel_rfl)
theorem do_own (q : Rq) (hb : q.body.length ≤ 10000) (h : ownB q.kind = true) : PCalls Tryz.prog 46 [.sc (.pointer none), .agg (encQ q)] (.agg (respE 1)) := by
  refine PCalls.args (VSubs.cons (VSub.refl _) (VSubs.cons (VSub.agg (encW_sub q hb)) VSubs.nil)) ?_
  unfold ownB at h
  simp only [Bool.and_eq_true, decide_eq_true_eq] at h
  generalize q.kind = k at h
  have hk : k = 5 ∨ k = 6 ∨ k = 7 ∨ k = 8 ∨ k = 9 ∨ k = 10 ∨ k = 11 ∨ k = 12 ∨ k = 13 ∨ k = 14 ∨ k = 15 ∨ k = 16 ∨ k = 17 ∨ k = 18 ∨ k = 19 ∨ k = 20 ∨ k = 21 := by omega
  rcases hk with rfl | rfl | rfl | rfl | rfl | rfl | rfl | rfl | rfl | rfl | rfl | rfl | rfl | rfl | rfl | rfl | rfl
  · exact do_5 q
  · exact do_6 q
  · exact do_7 q
  · exact do_8 q
  · exact do_9 q
  · exact do_10 q
  · exact do_11 q
  · exact do_12 q
  · exact do_13 q
  · exact do_14 q
  · exact do_15 q
  · exact do_16 q
  · exact do_17 q
  · exact do_18 q
  · exact do_19 q
  · exact do_20 q
  · exact do_21 q
theorem do_not (q : Rq) (h : ownB q.kind = false) : PCalls Tryz.prog 46 [.sc (.pointer none), .agg (encQ q)] (.agg (respE 2)) := by
  refine f46.pcalls0 (by simp) (by simp [isPure, allPure, encQs_pure]) rfl ?_
  unfold c46
  have ho := own_p q.kind
  rw [h] at ho
  have e1 : (encQ q).all isCell = true := rfl
  have e4 : Av.part 0 none (encQ q) = some (.int .i64 q.kind) := rfl
  repeat (first
    | ((first | apply Wp.seqItemsR | apply Wp.itemsR | ((first
        | (refine WpItems.pcall ?_ ?_ (ho) ?_; (· simp only [go_sem, reduceIte, Nat.reduceEqDiff, Nat.reduceAdd, bx]); (· simp only [go_sem, reduceIte, Nat.reduceEqDiff, Nat.reduceAdd, bx, List.map]; first | exact VSubs.refl _ | (repeat (first | exact VSubs.nil | refine VSubs.cons (by first | exact VSub.refl _ | assumption | exact VSub.cap | exact VSub.any _) ?_))))); apply WpItems.evR)); (· simp only [go_sem, reduceIte, Nat.reduceEqDiff, Nat.reduceAdd, bx, ax, if_true, if_false, Nat.reduceMul, Nat.reduceLeDiff, e1, e4]; exact rfl))
    | (refine WpItems.nil ⟨?_, ?_⟩; (· first | trivial | simp [pairsQ, pairsOk, apart, ent0]))
    | (apply Wp.cond_lit; (· simp only [go_sem, reduceIte, Nat.reduceEqDiff, Nat.reduceAdd, bx, ax, if_true, if_false, Nat.reduceMul, Nat.reduceLeDiff, e1, e4]; exact rfl); (· rfl))
    | refine Wp.skip ?_
    | refine Wp.label ?_
    | refine Wp.block ?_
    | refine Wp.exit ?_
    | refine Wp.seq ?_)
  refine Wp.ret ⟨trivial, _, rfl, ?_⟩
  simp only [go_sem, reduceIte, Nat.reduceEqDiff, Nat.reduceAdd, bx]
  exact VSub.refl _
theorem do_p (q : Rq) (hb : q.body.length ≤ 10000) : PCalls Tryz.prog 46 [.sc (.pointer none), .agg (encQ q)] (.agg (respE (if ownB q.kind = true then 1 else 2))) := by
  cases h : ownB q.kind with
  | true => exact do_own q hb h
  | false => exact do_not q h
noncomputable def prims25n : PrimsZ := orPrimsZ (purePrimZ (livesPP 37)) boundPrims
theorem prims25n_ok : PrimsOkZ Tryz.prog prims25n := orPrimsZ_ok (purePrimZ_ok fun f args r h => livesPP_ok lives25_p (named Tryz.func37 (of_decide_eq_true (by kernel_rfl)) (of_decide_eq_true (by kernel_rfl))) h) boundPrims_ok
theorem stN_eq (i : Int) (m : Bool) (w : Int) : SZ.st ⟨((((TR.leaf []).set 4 1 (.int .i64 i)).set 4 2 (.bool m)).set 4 8 (.ptr 1 0)).set 4 9 (.int .i64 w), ⟨(TR.leaf []).set 6 1 (some (.cells (respE w))), 2, [], 0⟩⟩ = ⟨tm [(9, .int .i64 w), (8, .ptr 1 0), (2, .bool m), (1, .int .i64 i)], ⟨upd none' 1 (some (.cells (respE w))), 2, [], 0⟩⟩ := by
  have e3 := HZ.set_hp ⟨TR.leaf [], 2, [], 0⟩ 1 (some (.cells (respE w)))
  change St.mk (TR.env (putE (putE (putE (putE (TR.leaf []) (some 1) (.int .i64 i)) (some 2) (.bool m)) (some 8) (.ptr 1 0)) (some 9) (.int .i64 w))) (HZ.hp (Av.HZ.set ⟨TR.leaf [], 2, [], 0⟩ 1 (some (.cells (respE w))))) = _
  rw [putE_env, putE_env, putE_env, putE_env, e3]
  rfl
theorem nlN (w : Int) : NoL (HZ.hp ⟨(TR.leaf []).set 6 1 (some (.cells (respE w))), 2, [], 0⟩) := by
  have e3 := HZ.set_hp ⟨TR.leaf [], 2, [], 0⟩ 1 (some (.cells (respE w)))
  change NoL (HZ.hp (Av.HZ.set ⟨TR.leaf [], 2, [], 0⟩ 1 (some (.cells (respE w)))))
  rw [e3]
  exact NoL.upd (NoL.none (n := 2) (T := []) (m := 0))
def restN : AC := match c7 with
  | .seq _ (.seq _ (.seq _ (.seq _ (.seq _ (.seq _ r))))) => r
  | x => x
theorem deskNil_p (q : Rq) (i : Int) (made : Bool) : PCalls Tryz.prog 7 [.agg (encQ q), .int .i64 i, .bool made] (.bool true) := by
  refine f7.pcalls0 (by simp) (by simp [isPure, allPure, encQs_pure]) rfl ?_
  change Wp Tryz.prog 84 (.seq _ (.seq _ (.seq _ (.seq _ (.seq _ (.seq _ restN)))))) _ _
  generalize hR : restN = R
  have e1 : (encQ q).all isCell = true := rfl
  have e2 : Av.part 0 (some 14) (encQ q) = some (.agg (encQ q)) := rfl
  have e3 : (encQ q).length = 14 := rfl
  have e4 : Av.part 0 none (encQ q) = some (.int .i64 q.kind) := rfl
  have e5 : putParts (ev (tm [])) [] (encQ q) = some (encQ q) := rfl
  rcases few25_p q with hb | ⟨hd, hb⟩
  · repeat (first
      | ((first | apply Wp.seqItemsR | apply Wp.itemsR | ((first
          | (refine WpItems.pcall ?_ ?_ (hb) ?_; (· simp only [go_sem, reduceIte, Nat.reduceEqDiff, Nat.reduceAdd, bx]); (· simp only [go_sem, reduceIte, Nat.reduceEqDiff, Nat.reduceAdd, bx, List.map]; first | exact VSubs.refl _ | (repeat (first | exact VSubs.nil | refine VSubs.cons (by first | exact VSub.refl _ | assumption | exact VSub.cap | exact VSub.any _) ?_))))
          | (refine WpItems.pcall ?_ ?_ (lives25_p) ?_; (· simp only [go_sem, reduceIte, Nat.reduceEqDiff, Nat.reduceAdd, bx]); (· simp only [go_sem, reduceIte, Nat.reduceEqDiff, Nat.reduceAdd, bx, List.map]; first | exact VSubs.refl _ | (repeat (first | exact VSubs.nil | refine VSubs.cons (by first | exact VSub.refl _ | assumption | exact VSub.cap | exact VSub.any _) ?_))))); apply WpItems.evR)); (· simp only [go_sem, reduceIte, Nat.reduceEqDiff, Nat.reduceAdd, bx, ax, if_true, if_false, Nat.reduceMul, Nat.reduceLeDiff, e1, e2, e3, List.all_cons, List.all_nil, List.length_cons, List.length_nil]; exact rfl))
      | (refine WpItems.nil ⟨?_, ?_⟩; (· first | trivial | simp [pairsQ, pairsOk, apart, ent0]))
      | (apply Wp.cond_lit; (· simp only [go_sem, reduceIte, Nat.reduceEqDiff, Nat.reduceAdd, bx, ax, if_true, if_false, Nat.reduceMul, Nat.reduceLeDiff, e1, e2, e3, List.all_cons, List.all_nil, List.length_cons, List.length_nil]; exact rfl); (· rfl))
      | refine Wp.skip ?_
      | refine Wp.label ?_
      | refine Wp.block ?_
      | refine Wp.exit ?_
      | refine Wp.seq ?_)
    refine Wp.ret ⟨trivial, _, rfl, ?_⟩
    simp only [go_sem, reduceIte, Nat.reduceEqDiff, Nat.reduceAdd, bx]
    exact VSub.refl _
  · have hdo := do_p q hd
    have hown := own_p q.kind
    cases ho : ownB q.kind with
    | false =>
      rw [ho] at hdo hown
      repeat (first
        | ((first | apply Wp.seqItemsR | apply Wp.itemsR | ((first
            | (refine WpItems.pcall ?_ ?_ (hb) ?_; (· simp only [go_sem, reduceIte, Nat.reduceEqDiff, Nat.reduceAdd, bx]); (· simp only [go_sem, reduceIte, Nat.reduceEqDiff, Nat.reduceAdd, bx, List.map]; first | exact VSubs.refl _ | (repeat (first | exact VSubs.nil | refine VSubs.cons (by first | exact VSub.refl _ | assumption | exact VSub.cap | exact VSub.any _) ?_))))
            | (refine WpItems.pcall ?_ ?_ (hdo) ?_; (· simp only [go_sem, reduceIte, Nat.reduceEqDiff, Nat.reduceAdd, bx]); (· simp only [go_sem, reduceIte, Nat.reduceEqDiff, Nat.reduceAdd, bx, List.map]; first | exact VSubs.refl _ | (repeat (first | exact VSubs.nil | refine VSubs.cons (by first | exact VSub.refl _ | assumption | exact VSub.cap | exact VSub.any _) ?_))))
            | (refine WpItems.pcall ?_ ?_ (hown) ?_; (· simp only [go_sem, reduceIte, Nat.reduceEqDiff, Nat.reduceAdd, bx]); (· simp only [go_sem, reduceIte, Nat.reduceEqDiff, Nat.reduceAdd, bx, List.map]; first | exact VSubs.refl _ | (repeat (first | exact VSubs.nil | refine VSubs.cons (by first | exact VSub.refl _ | assumption | exact VSub.cap | exact VSub.any _) ?_))))); apply WpItems.evR)); (· simp only [go_sem, reduceIte, Nat.reduceEqDiff, Nat.reduceAdd, bx, ax, if_true, if_false, Nat.reduceMul, Nat.reduceLeDiff, e1, e2, e3, e4, List.all_cons, List.all_nil, List.length_cons, List.length_nil, Bool.false_eq_true]; exact rfl))
        | (refine WpItems.nil ⟨?_, ?_⟩; (· first | trivial | simp [pairsQ, pairsOk, apart, ent0]))
        | (apply Wp.cond_lit; (· simp only [go_sem, reduceIte, Nat.reduceEqDiff, Nat.reduceAdd, bx, ax, if_true, if_false, Nat.reduceMul, Nat.reduceLeDiff, e1, e2, e3, e4, List.all_cons, List.all_nil, List.length_cons, List.length_nil, Bool.false_eq_true]; exact rfl); (· rfl))
        | refine Wp.skip ?_
        | refine Wp.label ?_
        | refine Wp.block ?_
        | refine Wp.exit ?_
        | refine Wp.seq ?_)
      refine Wp.le (s' := ⟨tm [(9, .int .i64 2), (8, .ptr 1 0), (2, .bool made), (1, .int .i64 i)], ⟨upd none' 1 (some (.cells (respE 2))), 2, [], 0⟩⟩) ?_ ?_
      · refine StLe.of (tm_le ?_) (fun j o h => ?_) (fun _ h => h) (Nat.le_refl _) (Nat.le_refl _)
        · simp only [AllSub, go_sem, reduceIte, Nat.reduceEqDiff, Nat.reduceAdd, bx]; and_intros <;> first | exact trivial | exact VSub.refl _ | exact VSub.any _ | (refine VSub.int ?_; omega)
        · simp only [upd, none'] at h ⊢
          split at h
          · rename_i ej
            subst ej
            cases h
            exact ⟨_, rfl, VSubs.refl _⟩
          · cases h
      rw [← stN_eq, ← hR]
      cases made with
      | true => exact Wp.runZb tabN_ok tabN_named prims25n_ok (k := 100000) (ds := [.tmp 6]) (nlN _) (by kernel_rfl)
      | false => exact Wp.runZb tabN_ok tabN_named prims25n_ok (k := 100000) (ds := [.tmp 6]) (nlN _) (by kernel_rfl)
    | true =>
      rw [ho] at hdo hown
      repeat (first
        | ((first | apply Wp.seqItemsR | apply Wp.itemsR | ((first
            | (refine WpItems.pcall ?_ ?_ (hb) ?_; (· simp only [go_sem, reduceIte, Nat.reduceEqDiff, Nat.reduceAdd, bx]); (· simp only [go_sem, reduceIte, Nat.reduceEqDiff, Nat.reduceAdd, bx, List.map]; first | exact VSubs.refl _ | (repeat (first | exact VSubs.nil | refine VSubs.cons (by first | exact VSub.refl _ | assumption | exact VSub.cap | exact VSub.any _) ?_))))
            | (refine WpItems.pcall ?_ ?_ (hdo) ?_; (· simp only [go_sem, reduceIte, Nat.reduceEqDiff, Nat.reduceAdd, bx]); (· simp only [go_sem, reduceIte, Nat.reduceEqDiff, Nat.reduceAdd, bx, List.map]; first | exact VSubs.refl _ | (repeat (first | exact VSubs.nil | refine VSubs.cons (by first | exact VSub.refl _ | assumption | exact VSub.cap | exact VSub.any _) ?_))))
            | (refine WpItems.pcall ?_ ?_ (hown) ?_; (· simp only [go_sem, reduceIte, Nat.reduceEqDiff, Nat.reduceAdd, bx]); (· simp only [go_sem, reduceIte, Nat.reduceEqDiff, Nat.reduceAdd, bx, List.map]; first | exact VSubs.refl _ | (repeat (first | exact VSubs.nil | refine VSubs.cons (by first | exact VSub.refl _ | assumption | exact VSub.cap | exact VSub.any _) ?_))))); apply WpItems.evR)); (· simp only [go_sem, reduceIte, Nat.reduceEqDiff, Nat.reduceAdd, bx, ax, if_true, if_false, Nat.reduceMul, Nat.reduceLeDiff, e1, e2, e3, e4, List.all_cons, List.all_nil, List.length_cons, List.length_nil]; exact rfl))
        | (refine WpItems.nil ⟨?_, ?_⟩; (· first | trivial | simp [pairsQ, pairsOk, apart, ent0]))
        | (apply Wp.cond_lit; (· simp only [go_sem, reduceIte, Nat.reduceEqDiff, Nat.reduceAdd, bx, ax, if_true, if_false, Nat.reduceMul, Nat.reduceLeDiff, e1, e2, e3, e4, List.all_cons, List.all_nil, List.length_cons, List.length_nil]; exact rfl); (· rfl))
        | refine Wp.skip ?_
        | refine Wp.label ?_
        | refine Wp.block ?_
        | refine Wp.exit ?_
        | refine Wp.seq ?_)
      refine Wp.le (s' := ⟨tm [(9, .int .i64 1), (8, .ptr 1 0), (2, .bool made), (1, .int .i64 i)], ⟨upd none' 1 (some (.cells (respE 1))), 2, [], 0⟩⟩) ?_ ?_
      · refine StLe.of (tm_le ?_) (fun j o h => ?_) (fun _ h => h) (Nat.le_refl _) (Nat.le_refl _)
        · simp only [AllSub, go_sem, reduceIte, Nat.reduceEqDiff, Nat.reduceAdd, bx]; and_intros <;> first | exact trivial | exact VSub.refl _ | exact VSub.any _ | (refine VSub.int ?_; omega)
        · simp only [upd, none'] at h ⊢
          split at h
          · rename_i ej
            subst ej
            cases h
            exact ⟨_, rfl, VSubs.refl _⟩
          · cases h
      rw [← stN_eq, ← hR]
      cases made with
      | true => exact Wp.runZb tabN_ok tabN_named prims25n_ok (k := 100000) (ds := [.tmp 6]) (nlN _) (by kernel_rfl)
      | false => exact Wp.runZb tabN_ok tabN_named prims25n_ok (k := 100000) (ds := [.tmp 6]) (nlN _) (by kernel_rfl)
theorem law_DeskNil {b : Nat} (avs : List AV) (h : Av.All2 (ArgFits Tryz.prog 6) Tryz.f7.params.toList avs) (_ : bulkAs avs ≤ b) : PCalls Tryz.prog 7 avs (.bool true) := by
  rw [Tryz.params7] at h
  cases h with | cons h0 h => cases h with | cons h1 h => cases h with | cons h2 h =>
  cases h
  obtain ⟨q, rfl, -⟩ := open_q h0
  obtain ⟨i, rfl, -⟩ := open_i Tryz.underlying3 (by kernel_rfl) h1
  obtain ⟨k, rfl⟩ := open_b Tryz.underlying4 (by kernel_rfl) h2
  exact deskNil_p q i k
end Go.Proofs.YtkcgpcbpieofnaaGreatDoor.Desk
end
section
set_option linter.unusedSimpArgs false
set_option linter.unusedVariables false
namespace Go.Proofs.YtkcgpcbpieofnaaGreatDoor.Desk
open Go Go.Av Go.Proofs Go.Proofs.YtkcgpcbpieofnaaGreatDoor.C
open Go.ChangeShapes Go.WideShapes Go.ChangeAt Go.RowKit
set_option maxRecDepth 100000 in
theorem met_DeskNil (os : Os) : laidMet Tryz.prog Rows.deskNilRow.laid ((laidWorld os).forCall (fun _ _ => 0) ⟨#[], #[.agg #[.int .i64 0, .int .i64 0, .string ⟨#[]⟩, .string ⟨#[]⟩, .string ⟨#[]⟩, .string ⟨#[]⟩, .string ⟨#[]⟩, .string ⟨#[]⟩, .int .i64 0, .int .i64 0, .int .i64 0, .int .i64 0, .int .i64 0, .slice none 0 0], .int .i64 0, .bool false], []⟩).memory :=
  laidMet_of_run' 8 (by kernel_rfl) (by kernel_rfl)
set_option maxRecDepth 100000 in
theorem reads_DeskNil (os : Os) {H : Type} (enc : TypeId × Value → H) : ∃ places, DataW.whole enc Tryz.prog ((laidWorld os).forCall (fun _ _ => 0) ⟨#[], #[.agg #[.int .i64 0, .int .i64 0, .string ⟨#[]⟩, .string ⟨#[]⟩, .string ⟨#[]⟩, .string ⟨#[]⟩, .string ⟨#[]⟩, .string ⟨#[]⟩, .int .i64 0, .int .i64 0, .int .i64 0, .int .i64 0, .int .i64 0, .slice none 0 0], .int .i64 0, .bool false], []⟩).memory Tryz.f7.params.toList Rows.deskNilSpec.vars false (#[.agg #[.int .i64 0, .int .i64 0, .string ⟨#[]⟩, .string ⟨#[]⟩, .string ⟨#[]⟩, .string ⟨#[]⟩, .string ⟨#[]⟩, .string ⟨#[]⟩, .int .i64 0, .int .i64 0, .int .i64 0, .int .i64 0, .int .i64 0, .slice none 0 0], .int .i64 0, .bool false] : Array Value).toList 8 = some ([.agg [.lit (.int .i64 0), .lit (.int .i64 0), .lit (.string []), .lit (.string []), .lit (.string []), .lit (.string []), .lit (.string []), .lit (.string []), .agg [.lit (.int .i64 0), .agg [.lit (.int .i64 0), .lit (.int .i64 0)]], .lit (.int .i64 0), .lit (.int .i64 0), .nil], .lit (.int .i64 0), .lit (.bool false)], [], places) :=
  ⟨[], by kernel_rfl⟩
set_option maxRecDepth 100000 in
theorem lifted_DeskNil (os : Os) (started : os.Started) (H : Type) (enc : TypeId × Value → H) (F : Stop.Interp) :
    ReturnsInHanded {} Tryz.checked os 7 .any ((OpenSpec.ofChange Rows.deskNilSpec).preRow enc Tryz.prog Tryz.f7 Rows.deskNilRow.domain false Rows.deskNilRow.laid) (((OpenSpec.ofChange Rows.deskNilSpec).at F).post enc Tryz.prog Tryz.f7 false true false false) := by
  obtain ⟨places, hx⟩ := reads_DeskNil os enc
  refine returnsInHanded_of_row (C := Tryz.checked) (s := OpenSpec.ofChange Rows.deskNilSpec) own started (by kernel_rfl) Tryz.func7
    (witness_row_at (enc := enc) (C := Tryz.checked) false (laidWorld os) #[.agg #[.int .i64 0, .int .i64 0, .string ⟨#[]⟩, .string ⟨#[]⟩, .string ⟨#[]⟩, .string ⟨#[]⟩, .string ⟨#[]⟩, .string ⟨#[]⟩, .int .i64 0, .int .i64 0, .int .i64 0, .int .i64 0, .int .i64 0, .slice none 0 0], .int .i64 0, .bool false] rfl (by kernel_rfl) (by kernel_rfl) (by kernel_rfl)
      (OpenSpec.preRow_of_cond 8 hx (by kernel_rfl) (fun k hk => by cases hk) (by kernel_rfl) (met_DeskNil os))) ?_
  intro Wd base args ds gs before hval hW _ _ hwt _ _ _
  exact calls_row laid bulk rowed full rfl (fun l hl => by match l, hl with | [_, _, _], _ => rfl) rfl Tryz.underlying4 (by kernel_rfl) (by kernel_rfl) hval hW hwt (fun avs h hb => law_DeskNil avs h hb)
theorem said_DeskNil : Rows.DeskNilSaid :=
  OpenClaim.holds_of_cond 7 Tryz.f7 rfl rfl rfl rfl rfl rfl rfl ⟨rfl, rfl, rfl, rfl, rfl⟩ rfl rfl rfl rfl rfl (by kernel_rfl) Tryz.func7 (by kernel_rfl)
    (of_decide_eq_true (by kernel_rfl)) (by unfold Func.isWrapper; first | (rw [if_pos (by decide +kernel)]; kernel_rfl) | (rw [if_neg (by decide +kernel)]; exact ⟨rfl, rfl⟩))
    (fun os started H enc _ F => by rw [OpenClaim.pre_eq_preRow]; exact lifted_DeskNil os started H enc F)
theorem plain_DeskNil (f : FuncId) (fn : Func) (hf : Tryz.pinned.checked.prog.funcNamed "ambry/ambrylaw25.DeskNil" = some f) (hfn : Tryz.pinned.checked.prog.funcs[f]? = some fn) :
    false = Tryz.pinned.checked.prog.looks [] ∧ ∀ (j : Nat) t, fn.params[j]? = some t → Tryz.pinned.checked.prog.wantsStandIn t = false := by
  obtain rfl : f = 7 := Option.some.inj ((show Tryz.prog.funcNamed "ambry/ambrylaw25.DeskNil" = some 7 by kernel_rfl).symm.trans hf) |>.symm
  obtain rfl : fn = Tryz.f7 := (Option.some.inj (Tryz.func7.symm.trans hfn)).symm
  refine ⟨by kernel_rfl, fun j t ht => ?_⟩
  have hall : Tryz.f7.params.toList.all (fun t => !Tryz.prog.wantsStandIn t) = true := by kernel_rfl
  have := List.all_eq_true.1 hall t (by simpa using Array.mem_of_getElem? ht)
  exact (by simpa using this : Tryz.prog.wantsStandIn t = false)
theorem card_DeskNil : Rows.DeskNilCardSaid :=
  Claim7.holds_tied_plain_at .later [] _ _ _ _ said_DeskNil (fun _ h => by cases h) (by kernel_rfl) (fun _ h => by cases h) deskNil_row_tie rfl ⟨rfl, rfl⟩ (by kernel_rfl) rfl plain_DeskNil (by kernel_rfl)
#print axioms card_DeskNil
end Go.Proofs.YtkcgpcbpieofnaaGreatDoor.Desk
end
