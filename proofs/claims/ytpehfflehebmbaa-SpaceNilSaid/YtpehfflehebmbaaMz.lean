/- SpaceNil: the statement 'SpaceNilSaid', closed by the law that the walk shows. No condition. -/
import Derived.Deep.CondSized
import Derived.IntWalk
import Derived.KernelRfl
import Derived.Laws.Append
import Derived.Laws.AppendOwn
import Derived.Laws.BytesArg
import Derived.Laws.Cover3
import Derived.Laws.Entries
import Derived.Laws.IdiomCopy
import Derived.Laws.IdiomStrings
import Derived.Laws.Pointers
import Derived.Laws.Small
import Derived.Laws.Strings
import Derived.Laws.StructEq
import Derived.MapKept
import Derived.OpenShut
import Derived.Orders
import Derived.OrdersIn
import Derived.ProofKit
import Derived.RangeFuncRecord
import Derived.RangeFuncSeq
import Derived.ReadAgain
import Derived.Scope
import Derived.Shelf.Slices.Cells
import Derived.Shelf.Slices.Delete
import Derived.Shelf.Spec.SlicesInsertGrow
import Derived.SizedLaws
import Derived.Test.YtpehfflehebmbaaRows
import Derived.Test.YtpehfflehebmbaaMzC
section
set_option linter.unusedVariables false
set_option linter.unusedSimpArgs false
namespace Go.Av
section
variable {P : Program} {N : Nat} {Q : AExit → St → Prop}
structure On (l0 : List Fr) (n0 m0 : Nat) (l : List Fr) (n : Nat) (T : List Nat) (m : Nat) : Prop where
  gn : n0 ≤ n
  gm : m0 ≤ m
  ok : Ok l n T m
  wi : Wi l0 n0 l
  ki : Ki l0 m0 l
theorem On.refl {l : List Fr} {n m : Nat} {T : List Nat} (ok : Ok l n T m) : On l n m l n T m := ⟨Nat.le_refl _, Nat.le_refl _, ok, .refl, .refl⟩
theorem On.step {l0 l l' : List Fr} {n0 m0 n m n' m' : Nat} {T T' : List Nat} (a : On l0 n0 m0 l n T m) (b : On l n m l' n' T' m') : On l0 n0 m0 l' n' T' m' :=
  ⟨Nat.le_trans a.gn b.gn, Nat.le_trans a.gm b.gm, b.ok, a.wi.trans a.gn b.wi, a.ki.trans a.gm b.ki⟩
theorem On.ends {l0 l : List Fr} {n0 m0 n m : Nat} {T : List Nat} {q r : AV} {QQ : AV → List Fr → Prop} (a : On l0 n0 m0 l n T m) (hs : VSub q r) (hq : QQ r l) : Ends l0 n0 m0 QQ q ⟨lay l, n, T, m⟩ r l :=
  ⟨hs, fun j o h => ⟨o, h, OSub.refl _⟩, a.ok.tk, a.ok.shrink, a.wi, a.ki, hq⟩
theorem Wp.loopG {β : Type} (L : List Nat) {K : List (Nat × AV)} {c : AC} {t : Tm} {l0 : List Fr} {n0 m0 : Nat} {T0 : List Nat} (hK : (L.map fun i => (i, t i)) = K) (ch : β → List (Nat × AV)) (J : β → List Fr → Prop) (μ : β → Nat) (b0 : β) (h0 : J b0 l0) (ok0 : Ok l0 n0 T0 m0) (hs : AllSub t (ch b0))
    (round : ∀ b l n T m, On l0 n0 m0 l n T m → J b l → Wp P N c ⟨tm (K ++ ch b), ⟨lay l, n, T, m⟩⟩ (AExit.andThen (fun s' => ∃ b' l' n' T' m', On l n m l' n' T' m' ∧ J b' l' ∧ μ b' < μ b ∧ StLe s' ⟨tm (K ++ ch b'), ⟨lay l', n', T', m'⟩⟩) Q)) : Wp P N (.loop c) ⟨t, ⟨lay l0, n0, T0, m0⟩⟩ Q := by
  refine Wp.loopH (β := β × List Fr × Nat × List Nat × Nat) L hK (fun j => ch j.1) (fun j => ⟨lay j.2.1, j.2.2.1, j.2.2.2.1, j.2.2.2.2⟩) (fun j => On l0 n0 m0 j.2.1 j.2.2.1 j.2.2.2.1 j.2.2.2.2 ∧ J j.1 j.2.1) (fun j => μ j.1) (b0, l0, n0, T0, m0) ⟨On.refl ok0, h0⟩ rfl hs ?_
  rintro ⟨b, l, n, T, m⟩ ⟨hn, hb⟩
  refine Wp.mono (round b l n T m hn hb) ?_
  intro e s' h
  cases e with
  | normal => obtain ⟨b', l', n', T', m', h1, h2, h3, h4⟩ := h; exact ⟨(b', l', n', T', m'), ⟨hn.step h1, h2⟩, h3, h4⟩
  | exit id => exact h
  | goto l => exact h
  | ret => exact h
  | panic v => exact h
theorem WpItems.gcall1 {dst : Option Nat} {g : Option (Nat × Bool)} {f : FuncId} {l : List Opd} {its : List AItem} {t : Tm} {log : List Ent} {K : Tm → H → List Ent → Prop} {vals : List AV} {Q : AV → List Fr → Prop} {G : List Fr} {n m : Nat} {T : List Nat}
    (hg : guardOf t g = some true) (hs : VSubs (l.map (ev t)) vals) (hc : GCalls P f vals G Q) (ok : Ok G n T m)
    (rest : ∀ r G' n' T' m' ids, Q r G' → On G n m G' n' T' m' → WpItems P N its (putT t dst r) ⟨lay G', n', T', m'⟩ (⟨[], ids, ks G ++ ks G'⟩ :: log) K) :
    WpItems P N (⟨dst, g, .call f l⟩ :: its) t ⟨lay G, n, T, m⟩ log K := by
  have ok' : Ok ([] ++ G ++ []) n T m := by simpa using ok
  have := WpItems.gcall (P := P) (N := N) (dst := dst) (its := its) (log := log) (K := K) [] G [] hg hs hc ok' fun r G' n' m' ids h1 h2 h3 h4 h5 h6 => ?_
  · simpa using this
  · simp only [List.nil_append, List.append_nil] at h4 h5 h6 ⊢
    exact rest r G' n' _ m' _ h1 ⟨h2, h3, h4, h5, h6⟩
theorem WpItems.gyield1 {dst : Option Nat} {g : Option (Nat × Bool)} {id : Nat} {y : Opd} {l : List Opd} {its : List AItem} {t : Tm} {log : List Ent} {K : Tm → H → List Ent → Prop} {vals : List AV} {Q : AV → List Fr → Prop} {G : List Fr} {n m : Nat} {T : List Nat}
    (hg : guardOf t g = some true) (hy : ev t y = .yld id) (hs : VSubs (l.map (ev t)) vals) (hc : GYields P id vals G Q) (ok : Ok G n T m)
    (rest : ∀ r G' n' T' m' ids, Q r G' → On G n m G' n' T' m' → WpItems P N its (putT t dst r) ⟨lay G', n', T', m'⟩ (⟨[], ids, ks G ++ ks G'⟩ :: log) K) :
    WpItems P N (⟨dst, g, .callv y l⟩ :: its) t ⟨lay G, n, T, m⟩ log K := by
  have ok' : Ok ([] ++ G ++ []) n T m := by simpa using ok
  have := WpItems.gyield (P := P) (N := N) (dst := dst) (its := its) (log := log) (K := K) [] G [] hg hy hs hc ok' fun r G' n' m' ids h1 h2 h3 h4 h5 h6 => ?_
  · simpa using this
  · simp only [List.nil_append, List.append_nil] at h4 h5 h6 ⊢
    exact rest r G' n' _ m' _ h1 ⟨h2, h3, h4, h5, h6⟩
theorem WpItems.gkeep {dst : Option Nat} {g : Option (Nat × Bool)} {f : FuncId} {l : List Opd} {its : List AItem} {t : Tm} {log : List Ent} {K : Tm → H → List Ent → Prop} {vals : List AV} {r : AV} {F : Fr} (A B : List Fr) {n m : Nat} {T : List Nat}
    (hg : guardOf t g = some true) (hs : VSubs (l.map (ev t)) vals) (hc : GCalls P f vals [F] fun r' l' => r' = r ∧ l' = [F]) (hk : F.k = []) (ok : Ok (A ++ F :: B) n T m)
    (rest : ∀ n' m' ids, n ≤ n' → m ≤ m' → Ok (A ++ F :: B) n' T m' → WpItems P N its (putT t dst r) ⟨lay (A ++ F :: B), n', T, m'⟩ (⟨[], ids, []⟩ :: log) K) :
    WpItems P N (⟨dst, g, .call f l⟩ :: its) t ⟨lay (A ++ F :: B), n, T, m⟩ log K := by
  have e : A ++ F :: B = A ++ [F] ++ B := by simp
  rw [e] at ok ⊢
  refine WpItems.gcall A [F] B hg hs hc ok fun r' G' n' m' ids h1 h2 h3 h4 h5 h6 => ?_
  obtain ⟨rfl, rfl⟩ := h1
  have k0 : ks [F] = [] := by simp [ks, hk]
  have f0 : T.filter (fun _ : Nat => true) = T := by simp
  simp only [k0, List.nil_append, List.contains_nil, Bool.not_false, f0] at h4 ⊢
  rw [← e] at h4 ⊢
  exact rest n' m' ids h2 h3 h4
theorem Ok.more {l : List Fr} {n m : Nat} {T : List Nat} (ok : Ok l n T m) (o : Obj) : Ok (ob n o :: l) (n + 1) T m where
  bd F hF j hj := by
    rcases List.mem_cons.1 hF with rfl | hF
    · rw [ob_o, if_neg (by omega)]
    · exact ok.bd F hF j (by omega)
  dj := List.pairwise_cons.2 ⟨fun F hF j => by
    rw [ob_o]
    by_cases e : j = n
    · exact .inr (ok.bd F hF j (by omega))
    · exact .inl (if_neg e), ok.dj⟩
  tk t ht := ok.tk t (by simpa [ks, ob] using ht)
  td := List.pairwise_cons.2 ⟨fun F hF t ht => by simp [ob] at ht, ok.td⟩
  tb := ok.tb
theorem lay_ob_at (i : Nat) (o : Obj) (l : List Fr) : lay (ob i o :: l) i = some o := by simp [lay, ob_o]
theorem lay_ob_ne {i j : Nat} (o : Obj) (l : List Fr) (h : j ≠ i) : lay (ob i o :: l) j = lay l j := by simp [lay, ob_o, h]
theorem upd_ob (i : Nat) (o o' : Obj) (l : List Fr) : upd (lay (ob i o :: l)) i (some o') = lay (ob i o' :: l) := by
  funext j
  simp only [upd]
  split
  · rename_i e; subst e; rw [lay_ob_at]
  · rename_i e; rw [lay_ob_ne _ _ e, lay_ob_ne _ _ e]
theorem upd_new {n : Nat} {o : Obj} {l : List Fr} : upd (lay l) n (some o) = lay (ob n o :: l) := by
  funext j
  simp only [upd]
  split
  · rename_i e; subst e; rw [lay_ob_at]
  · rename_i e; rw [lay_ob_ne _ _ e]
theorem Ok.alone {i : Nat} {o : Obj} {l : List Fr} {n m : Nat} {T : List Nat} (ok : Ok (ob i o :: l) n T m) : lay l i = none := ok.old (by simp [ob_o])
theorem Ok.turn {i : Nat} {o o' : Obj} {l : List Fr} {n m : Nat} {T : List Nat} (ok : Ok (ob i o :: l) n T m) : Ok (ob i o' :: l) n T m := by
  have hi : i < n := ok.lt (by simp) (j := i) (F := ob i o) (o := o) (by simp [ob_o])
  have := ok.put (i := i) (o := o') ok.alone hi
  have e : (⟨upd (ob i o).o i (some o'), (ob i o).k⟩ : Fr) = ob i o' := by
    simp only [ob, Fr.mk.injEq, and_true]
    funext j
    simp only [upd, none']
    split <;> rfl
  rwa [e] at this
theorem ks_ob (i : Nat) (o : Obj) (l : List Fr) : ks (ob i o :: l) = ks l := by simp [ks, ob]
theorem ob_none (i j : Nat) (o o' : Obj) : (ob i o).o j = none → (ob i o').o j = none := by
  simp only [ob_o]; split <;> simp
theorem Ok.put_ob {A B : List Fr} {i : Nat} {o o' : Obj} {n m : Nat} {T : List Nat} (ok : Ok (A ++ ob i o :: B) n T m) : Ok (A ++ ob i o' :: B) n T m where
  bd F hF j hj := by
    rcases List.mem_append.1 hF with h | h
    · exact ok.bd F (by simp [h]) j hj
    · rcases List.mem_cons.1 h with rfl | h
      · exact ob_none i j o o' (ok.bd (ob i o) (by simp) j hj)
      · exact ok.bd F (by simp [h]) j hj
  dj := by
    have h1 := List.pairwise_append.1 ok.dj
    have h2 := List.pairwise_cons.1 h1.2.1
    refine List.pairwise_append.2 ⟨h1.1, List.pairwise_cons.2 ⟨fun F hF j => (h2.1 F hF j).imp (ob_none i j o o') id, h2.2⟩, fun F hF F' hF' j => ?_⟩
    rcases List.mem_cons.1 hF' with rfl | h
    · exact (h1.2.2 F hF (ob i o) (by simp) j).imp id (ob_none i j o o')
    · exact h1.2.2 F hF F' (by simp [h]) j
  tk t ht := ok.tk t (by simpa [ks, ob] using ht)
  td := by
    have h1 := List.pairwise_append.1 ok.td
    have h2 := List.pairwise_cons.1 h1.2.1
    refine List.pairwise_append.2 ⟨h1.1, List.pairwise_cons.2 ⟨fun F hF t ht => by simp [ob] at ht, h2.2⟩, fun F hF F' hF' t ht => ?_⟩
    rcases List.mem_cons.1 hF' with rfl | h
    · simp [ob]
    · exact h1.2.2 F hF F' (by simp [h]) t ht
  tb := ok.tb
theorem Ok.upd_ob {A B : List Fr} {i : Nat} {o : Obj} (o' : Obj) {n m : Nat} {T : List Nat} (ok : Ok (A ++ ob i o :: B) n T m) : upd (lay (A ++ ob i o :: B)) i (some o') = lay (A ++ ob i o' :: B) := by
  have h1 : lay A i = none := lay_none.2 fun F hF => by
    rcases (List.pairwise_append.1 ok.dj).2.2 F hF (ob i o) (by simp) i with h | h
    · exact h
    · simp [ob_o] at h
  funext j
  simp only [upd, lay_append]
  split
  · rename_i e; subst e; rw [h1, lay_ob_at]; rfl
  · rename_i e; rw [lay_ob_ne _ _ e, lay_ob_ne _ _ e]
theorem On.put_ob {A B : List Fr} {i : Nat} {o o' : Obj} {n m : Nat} {T : List Nat} (ok : Ok (A ++ ob i o :: B) n T m) : On (A ++ ob i o :: B) n m (A ++ ob i o' :: B) n T m where
  gn := Nat.le_refl _
  gm := Nat.le_refl _
  ok := ok.put_ob
  wi j := by
    simp only [lay_append]
    by_cases e : j = i
    · subst e
      rw [lay_ob_at]
      right; left
      cases lay A j <;> rfl
    · rw [lay_ob_ne _ _ e, lay_ob_ne _ _ e]
      cases h : (lay A j).or (lay B j) with
      | none => exact .inr (.inr rfl)
      | some x => exact .inr (.inl rfl)
  ki t ht := .inl (by simpa [ks, ob] using ht)
theorem ole_drop_ob {i : Nat} {o : Obj} {l : List Fr} (h : lay l i = none) : OLe (lay (ob i o :: l)) (lay l) := by
  intro j p hj
  have e : j ≠ i := by rintro rfl; rw [h] at hj; cases hj
  exact ⟨p, (lay_ob_ne _ _ e).trans hj, OSub.refl _⟩
theorem On.under {l l' : List Fr} {n m n' m' : Nat} {T' : List Nat} {o o' : Obj} (a : On (ob n o :: l) (n + 1) m (ob n o' :: l') n' T' m') : On l n m l' n' T' m' := by
  refine ⟨by have := a.gn; omega, a.gm, a.ok.tail, fun j => ?_, fun t ht => ?_⟩
  · by_cases e : j = n
    · exact .inl (by omega)
    · rcases a.wi j with h | h | h
      · exact .inl (by omega)
      · rw [lay_ob_ne _ _ e] at h; exact .inr (.inl h)
      · rw [lay_ob_ne _ _ e] at h; exact .inr (.inr h)
  · have := a.ki t (by rw [ks_ob]; exact ht)
    rwa [ks_ob] at this
theorem On.put {F : Fr} {l : List Fr} {i : Nat} {o : Obj} {n m : Nat} {T : List Nat} (ok : Ok (F :: l) n T m) (h : (F.o i).isSome = true) : On (F :: l) n m (⟨upd F.o i (some o), F.k⟩ :: l) n T m := by
  have hn : i < n := by
    obtain ⟨x, hx⟩ := Option.isSome_iff_exists.1 h
    exact ok.lt (by simp) hx
  refine ⟨Nat.le_refl _, Nat.le_refl _, ok.put (ok.old h) hn, fun j => ?_, fun t ht => .inl (by simpa [ks] using ht)⟩
  simp only [lay, upd]
  by_cases e : j = i
  · subst e
    right; left
    obtain ⟨x, hx⟩ := Option.isSome_iff_exists.1 h
    rw [hx]; rfl
  · rw [if_neg e]
    cases hh : (F.o j).or (lay l j) with
    | none => exact .inr (.inr rfl)
    | some x => exact .inr (.inl rfl)
def obk (i : Nat) (o : Obj) (k : List Nat) : Fr := ⟨upd none' i (some o), k⟩
theorem obk_o (i : Nat) (o : Obj) (k : List Nat) (j : Nat) : (obk i o k).o j = if j = i then some o else none := rfl
theorem lay_obk_at (i : Nat) (o : Obj) (k : List Nat) (l : List Fr) : lay (obk i o k :: l) i = some o := by simp [lay, obk_o]
theorem lay_obk_ne {i j : Nat} (o : Obj) (k : List Nat) (l : List Fr) (h : j ≠ i) : lay (obk i o k :: l) j = lay l j := by simp [lay, obk_o, h]
theorem Ok.upd_obk {A B : List Fr} {i : Nat} {o : Obj} {k : List Nat} (o' : Obj) (k' : List Nat) {n m : Nat} {T : List Nat} (ok : Ok (A ++ obk i o k :: B) n T m) : upd (lay (A ++ obk i o k :: B)) i (some o') = lay (A ++ obk i o' k' :: B) := by
  have h1 : lay A i = none := lay_none.2 fun F hF => by
    rcases (List.pairwise_append.1 ok.dj).2.2 F hF (obk i o k) (by simp) i with h | h
    · exact h
    · simp [obk_o] at h
  funext j
  simp only [upd, lay_append]
  split
  · rename_i e; subst e; rw [h1, lay_obk_at]; rfl
  · rename_i e; rw [lay_obk_ne _ _ _ e, lay_obk_ne _ _ _ e]
theorem On.put_obk {A B : List Fr} {i : Nat} {o o' : Obj} {k n m : Nat} {T : List Nat} (ok : Ok (A ++ obk i o [k] :: B) n T m) : On (A ++ obk i o [k] :: B) n m (A ++ obk i o' [m] :: B) n ([m] ++ T.filter fun t => ![k].contains t) (m + 1) := by
  have hi : i < n := ok.lt (F := obk i o [k]) (by simp) (j := i) (o := o) (by simp [obk_o])
  have okG' : Ok [obk i o' [m]] n (ks [obk i o' [m]]) (m + 1) := ⟨fun F hF j hj => by
    rw [List.mem_singleton.1 hF, obk_o, if_neg (by omega)], by simp, fun t h => h, by simp, fun t ht => by simp [ks, obk] at ht; omega⟩
  have e0 : A ++ obk i o [k] :: B = A ++ [obk i o [k]] ++ B := by simp
  have e1 : A ++ obk i o' [m] :: B = A ++ [obk i o' [m]] ++ B := by simp
  rw [e0] at ok ⊢
  rw [e1]
  have hw : ∀ j, n ≤ j ∨ (lay [obk i o [k]] j).isSome = true ∨ lay [obk i o' [m]] j = none := fun j => by
    by_cases e : j = i
    · subst e; rw [lay_obk_at]; exact .inr (.inl rfl)
    · rw [lay_obk_ne _ _ _ e, lay_obk_ne _ _ _ e]; exact .inr (.inr rfl)
  have hk : ∀ t ∈ ks [obk i o' [m]], t ∈ ks [obk i o [k]] ∨ m ≤ t := fun t ht => by simp [ks, obk] at ht; omega
  have := ok.swap okG' (Nat.le_refl _) (Nat.le_succ _) hw hk
  exact ⟨Nat.le_refl _, Nat.le_succ _, by simpa [ks, obk] using this, .mid hw, .mid hk⟩
theorem Ok.more_k {l : List Fr} {n m : Nat} {T : List Nat} (ok : Ok l n T m) (o : Obj) : Ok (obk n o [m] :: l) (n + 1) (m :: T) (m + 1) where
  bd F hF j hj := by
    rcases List.mem_cons.1 hF with rfl | hF
    · rw [obk_o, if_neg (by omega)]
    · exact ok.bd F hF j (by omega)
  dj := List.pairwise_cons.2 ⟨fun F hF j => by
    rw [obk_o]
    by_cases e : j = n
    · exact .inr (ok.bd F hF j (by omega))
    · exact .inl (if_neg e), ok.dj⟩
  tk t ht := by
    simp only [ks, obk, List.flatMap_cons, List.mem_append, List.mem_singleton] at ht
    rcases ht with rfl | ht
    · simp
    · exact List.mem_cons_of_mem _ (ok.tk t ht)
  td := List.pairwise_cons.2 ⟨fun F hF t ht h2 => by
    simp only [obk, List.mem_singleton] at ht
    subst ht
    have := ok.tb _ (ok.tk _ (mem_ks.2 ⟨F, hF, h2⟩))
    omega, ok.td⟩
  tb t ht := by
    rcases List.mem_cons.1 ht with rfl | ht
    · omega
    · have := ok.tb t ht; omega
theorem upd_newk {n : Nat} {o : Obj} {k : List Nat} {l : List Fr} : upd (lay l) n (some o) = lay (obk n o k :: l) := by
  funext j
  simp only [upd]
  split
  · rename_i e; subst e; rw [lay_obk_at]
  · rename_i e; rw [lay_obk_ne _ _ _ e]
theorem Wp.rfunG {g : Opd} {ps : List Nat} {x y : AC} {t : Tm} {l : List Fr} {n m : Nat} {T : List Nat} {fi : FuncId} {fn : Func} {first caps : List AV} (hg : ev t g = .clo (.func fi) first caps) (hf : P.funcs[fi]? = some fn) (hfb : fn.body.isSome = true) (hfn : fn.name ≠ "runtime.NumGoroutine")
    (ok : Ok l n T m) (hT : T = ks l)
    (hw : ∀ asg body, cCode P N asg = some x → cCode P N body = some y → noRF asg = true → noRF body = true →
      GCalls P fi (first ++ [.yld n] ++ caps) (ob n (.loop N t ps asg body .ready none) :: l) fun r l' => ∃ t2 st pend e l1, l' = ob n (.loop N t2 ps asg body st pend) :: l1 ∧ st ≠ .busy ∧ LoopEnd pend e ∧ ∀ n' m', On l n m l1 n' (ks l1) m' → Q e ⟨t, ⟨lay l1, n', ks l1, m'⟩⟩) : Wp P N (.rfun g ps x y) ⟨t, ⟨lay l, n, T, m⟩⟩ Q := by
  subst hT
  refine Wp.rfun hg hf hfb hfn (ok.lay_bd (Nat.le_refl _)) fun asg body h1 h2 h3 h4 => ?_
  obtain ⟨r, l', n', m', k1, k2, k3, k4, k5, k6, t2, st, pend, e, l1, rfl, k8, k9, k10⟩ := hw asg body h1 h2 h3 h4 (n + 1) m (by rw [ks_ob]; exact ok.more _)
  simp only [ks_ob] at k1 k4 k6
  refine ⟨r, lay (ob n (.loop N t2 ps asg body st pend) :: l1), n', ks l1, m', t2, st, pend, e, ?_, k2, k3, lay_ob_at _ _ _, k8, k9, ?_⟩
  · rw [upd_new]; exact k1
  · have e1 : (fun j => if j = n then none else lay (ob n (.loop N t2 ps asg body st pend) :: l1) j) = lay l1 := by
      funext j
      split
      · rename_i e; subst e; exact k4.alone.symm
      · rename_i e; rw [lay_ob_ne _ _ e]
    rw [e1]
    refine k10 n' m' ⟨by omega, k3, k4.tail, fun j => ?_, fun t ht => k6 t ht⟩
    by_cases e : j = n
    · exact .inl (by omega)
    · rcases k5 j with h | h | h
      · exact .inl (by omega)
      · rw [lay_ob_ne _ _ e] at h; exact .inr (.inl h)
      · rw [lay_ob_ne _ _ e] at h; exact .inr (.inr h)
theorem YCalls.le {id : Nat} {args : List AV} {h h' h'' : H} {r r' : AV} (hc : YCalls P id args h r h') (hs : VSub r r') (hl : HLe h' h'') (n : h'.n = h''.n) (m : h'.m = h''.m) : YCalls P id args h r' h'' := by
  intro G w vs hd hv R F
  obtain ⟨fn, tmps, assign, body, q1, q2⟩ := hc G w vs hd hv R (by unfold Fresh at F ⊢; rwa [n, m])
  refine ⟨fn, tmps, assign, body, q1, q2.mono ?_⟩
  rintro e w' ⟨v, G', rfl, T, R', V⟩
  exact ⟨v, G', rfl, T.trans R R' (Trans.le hl (by omega) (by omega)), R'.le hl, hs G' w' v V⟩
theorem gyields_of {id M : Nat} {t : Tm} {ps : List Nat} {asg body : Code} {x y : AC} {args : List AV} {l : List Fr} {Q : AV → List Fr → Prop} (ha : cCode P M asg = some x) (hb : cCode P M body = some y) (hna : noRF asg = true) (hnb : noRF body = true)
    (hl : args.length = ps.length) (hps : ∀ p ∈ ps, p < M)
    (hw : ∀ n m, Ok (ob id (.loop M t ps asg body .busy none) :: l) n (ks l) m →
      Wp P M x ⟨putPs t ps args, ⟨lay (ob id (.loop M t ps asg body .ready none) :: l), n, ks l, m⟩⟩ fun e s => e = .normal ∧ s.h = ⟨lay (ob id (.loop M t ps asg body .ready none) :: l), n, ks l, m⟩ ∧
        Wp P M y ⟨s.t, ⟨lay (ob id (.loop M t ps asg body .busy none) :: l), n, ks l, m⟩⟩ fun e2 s2 => ∃ b st pend l', RoundEnd e2 b st pend ∧
          Ends (ob id (.loop M t ps asg body .busy none) :: l) n m (fun _ _ => True) (.bool b) s2.h (.bool b) (ob id (.loop M t ps asg body .busy none) :: l') ∧ Q (.bool b) (ob id (.loop M t ps asg body st pend) :: l')) :
    GYields P id args (ob id (.loop M t ps asg body .ready none) :: l) Q := by
  intro n m ok
  rw [ks_ob] at ok
  have okb : Ok (ob id (.loop M t ps asg body .busy none) :: l) n (ks l) m := ok.turn
  obtain ⟨r, h', hy, st, pend, b, l', e2, rfl, hre, h2, E, hq, hn, hm, ho2, rfl⟩ := ycalls_of (P := P) (id := id) (M := M) (n := n) (m := m) (f := lay (ob id (.loop M t ps asg body .ready none) :: l)) (T := ks l) (t := t) (ps := ps) (asg := asg) (body := body) (x := x) (y := y) (args := args)
    (Q := fun r h' => ∃ st pend b l' e2, r = .bool b ∧ RoundEnd e2 b st pend ∧ ∃ h2 : H, Ends (ob id (.loop M t ps asg body .busy none) :: l) n m (fun _ _ => True) (.bool b) h2 (.bool b) (ob id (.loop M t ps asg body .busy none) :: l') ∧ Q (.bool b) (ob id (.loop M t ps asg body st pend) :: l') ∧ n ≤ h2.n ∧ m ≤ h2.m ∧ h2.objs id = some (.loop M t ps asg body .busy none) ∧ h' = { h2 with objs := upd h2.objs id (some (.loop M t ps asg body st pend)) })
    (lay_ob_at _ _ _) ha hb hna hnb hl hps ((hw n m okb).mono fun e s ⟨h1, h2, h3⟩ => ⟨h1, t, by rw [h2]; exact lay_ob_at _ _ _, by
      rw [h2]
      simp only [upd_ob]
      refine h3.nm.mono ?_
      rintro e2 s2 ⟨⟨b, st, pend, l', k1, k2, k3⟩, k4, k5⟩
      have hid : s2.h.objs id = some (.loop M t ps asg body .busy none) := by
        obtain ⟨o, a1, a2⟩ := k2.ole id _ (lay_ob_at _ _ _)
        rw [a1]
        cases o <;> simp only [OSub] at a2
        rw [a2]
      exact ⟨t, b, st, pend, hid, k1, st, pend, b, l', e2, rfl, k1, s2.h, k2, k3, k4, k5, hid, rfl⟩⟩)
  have low : OLe (upd h2.objs id (some (.loop M t ps asg body st pend))) (lay (ob id (.loop M t ps asg body st pend) :: l')) := by
    intro j o hj
    by_cases e : j = id
    · subst e
      rw [lay_ob_at] at hj
      cases hj
      exact ⟨_, by simp [upd], OSub.refl _⟩
    · rw [lay_ob_ne _ _ e] at hj
      obtain ⟨o', a1, a2⟩ := E.ole j o (by rw [lay_ob_ne _ _ e]; exact hj)
      exact ⟨o', by simp [upd, e, a1], a2⟩
  have ek := E.tk
  have eok := E.ok
  have ekn := E.knew
  simp only [ks_ob] at ek eok ekn
  refine ⟨.bool b, ob id (.loop M t ps asg body st pend) :: l', h2.n, h2.m, ?_, hn, hm, ?_, fun j => ?_, ?_, hq⟩
  · simp only [ks_ob]
    exact hy.le (VSub.refl _) ⟨low, ek⟩ rfl rfl
  · rw [ks_ob]; exact eok.turn
  · rcases E.new j with h | h | h
    · exact .inl h
    · by_cases e : j = id
      · subst e; rw [lay_ob_at]; exact .inr (.inl rfl)
      · rw [lay_ob_ne _ _ e] at h ⊢; exact .inr (.inl h)
    · by_cases e : j = id
      · subst e; rw [lay_ob_at]; exact .inr (.inl rfl)
      · rw [lay_ob_ne _ _ e] at h; rw [lay_ob_ne _ _ e, lay_ob_ne _ _ e]; exact .inr (.inr h)
  · simp only [ks_ob]; exact ekn
end
end Go.Av
end
section
set_option linter.unusedSimpArgs false
set_option linter.unusedVariables false
set_option maxRecDepth 10000
namespace Go.Proofs.Ytpehfflehebmbaa.Space
open Go Go.Av Go.Proofs Go.Proofs.Ytpehfflehebmbaa.C Go.Proofs.Ytpehfflehebmbaa.Batch
def iterV (s : Nat) (a b : Bs) : AV := .clo (.func 106) [] [.ref [.ptr s 0], .ref [.str a], .ref [.str b]]
theorem between_g {s : Nat} {S : Spc} {F : Fr} (hF : SpcF s S F) (a b : Bs) : GCalls Try.prog 59 [.ptr s 0, .str a, .str b] [F] (fun r l => r = iterV s a b ∧ l = [F]) := by
  obtain ⟨c, M, K, hM, hsc, hs, hc, hK⟩ := hF.go
  refine f59.gsameF (by simp) fun n m ok => ?_
  unfold c59
  have hsn := ok.lt (by simp) hs
  obtain ⟨o1, o2, o3, o4⟩ := ne_off hsn
  have d1 : decide (n ≤ s) = false := decide_eq_false (by omega)
  repeat (first
    | ((first | apply Wp.seqItemsR | apply Wp.itemsR); (· simp only [go_sem, reduceIte, Nat.reduceEqDiff, Nat.reduceAdd, bx, ax, if_true, if_false, Nat.reduceMul, Nat.reduceLeDiff]; exact rfl))
    | (refine WpItems.nil ⟨?_, ?_⟩; (· first | trivial | simp [pairsQ, pairsOk, apart, ent0]))
    | (apply Wp.cond_lit; (· simp only [go_sem, reduceIte, Nat.reduceEqDiff, Nat.reduceAdd, bx, ax, if_true, if_false, Nat.reduceMul, Nat.reduceLeDiff]; exact rfl); (· rfl))
    | refine Wp.skip ?_
    | refine Wp.label ?_
    | refine Wp.block ?_
    | refine Wp.exit ?_
    | refine Wp.seq ?_)
  refine Wp.ret ⟨trivial, _, rfl, ?_, fun j hj => ?_, fun t ht => ht⟩
  · have e1 : (n = n + 1 + 1) = False := by simp; omega
    have e2 : (n ≤ n + 1 + 1) = True := by simp; omega
    simp [unT, unTs, upd, d1, iterV, go_sem, e1, e2]
    exact VSub.refl _
  · simp only [upd]
    rw [if_neg (by omega), if_neg (by omega), if_neg (by omega)]
def selP (b x : Bs) : Bool := decide (b = []) || Op.bytesLess x b
def selK (k : List Bs) (a b : Bs) : List Bs := (k.drop (plK k a)).takeWhile (selP b)
theorem selK_at {k : List Bs} {a b : Bs} {i : Nat} (h : i < (selK k a b).length) : plK k a + i < k.length ∧ (selK k a b).getD i [] = k.getD (plK k a + i) [] ∧ selP b (k.getD (plK k a + i) []) = true := by
  have hp : selK k a b <+: k.drop (plK k a) := List.takeWhile_prefix _
  have hl := hp.length_le
  rw [List.length_drop] at hl
  have h1 : plK k a + i < k.length := by omega
  have h2 : (selK k a b).getD i [] = k.getD (plK k a + i) [] := by
    rw [getD_el h, getD_el h1, hp.getElem h, List.getElem_drop]
  refine ⟨h1, h2, ?_⟩
  rw [← h2, getD_el h]
  exact (List.all_eq_true.1 (List.all_takeWhile (p := selP b) (l := k.drop (plK k a)))) _ (List.getElem_mem h)
theorem selK_end {k : List Bs} {a b : Bs} (h : plK k a + (selK k a b).length < k.length) : selP b (k.getD (plK k a + (selK k a b).length) []) = false := by
  have key : ∀ l : List Bs, (h : (l.takeWhile (selP b)).length < l.length) → selP b (l[(l.takeWhile (selP b)).length]) = false := by
    intro l
    induction l with
    | nil => intro h; simp at h
    | cons x l ih =>
      intro h
      by_cases hx : selP b x = true
      · simp only [List.takeWhile_cons, hx, if_true, List.length_cons] at h ⊢
        simpa using ih (by omega)
      · simp [List.takeWhile_cons, hx]
  have h2 := key (k.drop (plK k a)) (by rw [List.length_drop]; unfold selK at h; omega)
  rw [getD_el h]
  rw [List.getElem_drop] at h2
  exact h2
theorem iter_g {s : Nat} {S : Spc} {F : Fr} (hF : SpcF s S F) (hr : RiseL S.L) (hl : S.L.length ≤ 500000) (a b : Bs) (id : Nat) (J : Nat → List Fr → Prop) (E : List Fr → Prop) (hJ : ∀ i l, J i l → F ∈ l)
    (hY : ∀ i l, i < (selK (keysOf S.L) a b).length → J i l → GYields Try.prog id [.str ((selK (keysOf S.L) a b).getD i [])] l fun r l' => (r = .bool true ∧ J (i + 1) l') ∨ (r = .bool false ∧ E l'))
    (l0 : List Fr) (h0 : J 0 l0) : GCalls Try.prog 106 [.yld id, .ref [.ptr s 0], .ref [.str a], .ref [.str b]] l0 (fun r l' => r = .tup [] ∧ (J (selK (keysOf S.L) a b).length l' ∨ E l')) := by
  obtain ⟨c, M, K, hM, hsc, hs, hc, hK⟩ := hF.go
  have hkl : (keysOf S.L).length = S.L.length := by simp [keysOf]
  obtain ⟨objs, ids, ho, hi, hb⟩ := bs_row hK hr (by omega) a
  have hple := plK_le (keysOf S.L) a
  have hsl : plK (keysOf S.L) a + (selK (keysOf S.L) a b).length ≤ (keysOf S.L).length := by
    have := (List.takeWhile_prefix (selP b) (l := (keysOf S.L).drop (plK (keysOf S.L) a))).length_le
    rw [List.length_drop] at this
    unfold selK; omega
  refine f106.gcalls (by simp) fun n m ok => ?_
  unfold c106
  have fs := ok.sub (hJ _ _ h0) _ _ hs
  repeat (first
    | ((first | apply Wp.seqItemsR | apply Wp.itemsR); (· simp only [go_sem, reduceIte, Nat.reduceEqDiff, Nat.reduceAdd, bx, ax, if_true, if_false, Nat.reduceMul, Nat.reduceLeDiff, fs]; exact rfl))
    | (refine WpItems.nil ⟨?_, ?_⟩; (· first | trivial | simp [pairsQ, pairsOk, apart, ent0]))
    | (apply Wp.cond_lit; (· simp only [go_sem, reduceIte, Nat.reduceEqDiff, Nat.reduceAdd, bx, ax, if_true, if_false, Nat.reduceMul, Nat.reduceLeDiff, fs]; exact rfl); (· rfl))
    | refine Wp.skip ?_
    | refine Wp.label ?_
    | refine Wp.block ?_
    | refine Wp.exit ?_
    | refine Wp.seq ?_)
  refine WpItems.rcall ids (by simp only [go_sem]) (by simp only [go_sem, reduceIte, Nat.reduceEqDiff, List.map]; exact VSubs.refl _) (fun id o h => ok.sub (hJ _ _ h0) id o (ho id o h)) hi hb ?_
  refine WpItems.evR (by simp only [go_sem, reduceIte, Nat.reduceEqDiff, Nat.reduceAdd, bx]; exact rfl) ?_
  refine WpItems.nil ⟨by simp [pairsQ, pairsOk, apart, ent0], ?_⟩
  rcases hK with ⟨rfl, h2⟩ | ⟨k, rfl, h2, h3, h4⟩
  · have hp0 : plK (keysOf S.L) a = 0 := by rw [h2]; rfl
    have hs0 : (selK (keysOf S.L) a b).length = 0 := by rw [h2]; simp [selK]
    have b1 : decide ((0 : Int) < ((0 : Nat) : Int)) = false := rfl
    repeat (first
      | ((first | apply Wp.seqItemsR | apply Wp.itemsR); (· simp only [go_sem, reduceIte, Nat.reduceEqDiff, Nat.reduceAdd, bx, ax, if_true, if_false, Nat.reduceMul, Nat.reduceLeDiff, fs, hp0]; exact rfl))
      | (refine WpItems.nil ⟨?_, ?_⟩; (· first | trivial | simp [pairsQ, pairsOk, apart, ent0]))
      | (apply Wp.cond_lit; (· simp only [go_sem, reduceIte, Nat.reduceEqDiff, Nat.reduceAdd, bx, ax, if_true, if_false, Nat.reduceMul, Nat.reduceLeDiff, fs, hp0]; exact rfl); (· rfl))
      | refine Wp.skip ?_
      | refine Wp.label ?_
      | refine Wp.block ?_
      | refine Wp.exit ?_
      | refine Wp.seq ?_)
    refine Wp.loopL (WpL.next ?_)
    repeat (first
      | ((first | apply Wp.seqItemsR | apply Wp.itemsR); (· simp only [go_sem, reduceIte, Nat.reduceEqDiff, Nat.reduceAdd, bx, ax, if_true, if_false, Nat.reduceMul, Nat.reduceLeDiff, b1]; exact rfl))
      | (refine WpItems.nil ⟨?_, ?_⟩; (· first | trivial | simp [pairsQ, pairsOk, apart, ent0]))
      | (apply Wp.cond_lit; (· simp only [go_sem, reduceIte, Nat.reduceEqDiff, Nat.reduceAdd, bx, ax, if_true, if_false, Nat.reduceMul, Nat.reduceLeDiff, b1]; exact rfl); (· rfl))
      | refine Wp.skip ?_
      | refine Wp.label ?_
      | refine Wp.block ?_
      | refine Wp.exit ?_
      | refine Wp.seq ?_)
    exact ⟨trivial, _, rfl, _, _, (On.refl ok).ends (VSub.refl _) ⟨rfl, .inl (hs0 ▸ h0)⟩⟩
  · have fk := ok.sub (hJ _ _ h0) _ _ h2
    have i1 : (0 : Int) ≤ ((plK (keysOf S.L) a : Nat) : Int) := by omega
    have i2 : ((plK (keysOf S.L) a : Nat) : Int) ≤ (((keysOf S.L).length : Nat) : Int) := by omega
    repeat (first
      | ((first | apply Wp.seqItemsR | apply Wp.itemsR); (· simp only [go_sem, reduceIte, Nat.reduceEqDiff, Nat.reduceAdd, bx, ax, if_true, if_false, Nat.reduceMul, Nat.reduceLeDiff, fs, i1, i2]; exact rfl))
      | (refine WpItems.nil ⟨?_, ?_⟩; (· first | trivial | simp [pairsQ, pairsOk, apart, ent0]))
      | (apply Wp.cond_lit; (· simp only [go_sem, reduceIte, Nat.reduceEqDiff, Nat.reduceAdd, bx, ax, if_true, if_false, Nat.reduceMul, Nat.reduceLeDiff, fs, i1, i2]; exact rfl); (· rfl))
      | refine Wp.skip ?_
      | refine Wp.label ?_
      | refine Wp.block ?_
      | refine Wp.exit ?_
      | refine Wp.seq ?_)
    refine Wp.loopG (β := Nat) [0, 3, 23, 24] (by simp only [go_sem, reduceIte, Nat.reduceEqDiff, List.map]; exact rfl) (fun i => [(25, .int .i64 (i : Nat))]) (fun i l => J i l ∧ i ≤ (selK (keysOf S.L) a b).length) (fun i => (keysOf S.L).length - i) 0 ⟨h0, Nat.zero_le _⟩ ok (by simp only [AllSub, go_sem, reduceIte, Nat.reduceEqDiff]; exact ⟨VSub.refl _, trivial⟩) ?_
    rintro i l n1 T1 m1 on ⟨hj, hil⟩
    have fk := on.ok.sub (hJ _ _ hj) _ _ h2
    have hget : plK (keysOf S.L) a + i < (keysOf S.L).length → (strs (keysOf S.L))[plK (keysOf S.L) a + i]? = some (.str ((keysOf S.L).getD (plK (keysOf S.L) a + i) [])) := by
      intro h
      have := getD_el (d := ([] : Bs)) h
      simp [strs, h]
    by_cases hi2 : i < (selK (keysOf S.L) a b).length
    · obtain ⟨k1, k2, k3⟩ := selK_at hi2
      have hg := hget k1
      have g1 : decide (((i : Nat) : Int) < ((((keysOf S.L).length - plK (keysOf S.L) a) : Nat) : Int)) = true := decide_eq_true (by omega)
      have h2 : (0 : Int) ≤ ((i : Nat) : Int) := by omega
      have h3 : ((i : Nat) : Int) < ((((keysOf S.L).length - plK (keysOf S.L) a) : Nat) : Int) := by omega
      have e1 : IntKind.i64.wrap (((i : Nat) : Int) + 1) = ((i + 1 : Nat) : Int) := by rw [IntWalk.i64_in _ (by omega)]; omega
      by_cases hbe : b = []
      · have d1 : decide (b = []) = true := decide_eq_true hbe
        repeat (first
          | ((first | apply Wp.seqItemsR | apply Wp.itemsR); (· simp only [go_sem, reduceIte, Nat.reduceEqDiff, Nat.reduceAdd, bx, ax, if_true, if_false, Nat.reduceMul, Nat.reduceLeDiff, g1, h2, h3, fk, hg, Nat.mul_one, d1]; exact rfl))
          | (refine WpItems.nil ⟨?_, ?_⟩; (· first | trivial | simp [pairsQ, pairsOk, apart, ent0]))
          | (apply Wp.cond_lit; (· simp only [go_sem, reduceIte, Nat.reduceEqDiff, Nat.reduceAdd, bx, ax, if_true, if_false, Nat.reduceMul, Nat.reduceLeDiff, g1, h2, h3, fk, hg, Nat.mul_one, d1]; exact rfl); (· rfl))
          | refine Wp.skip ?_
          | refine Wp.label ?_
          | refine Wp.block ?_
          | refine Wp.exit ?_
          | refine Wp.seq ?_)
        refine WpItems.gyield1 (by simp only [go_sem, reduceIte, Nat.reduceEqDiff]; rfl) (by simp only [go_sem, reduceIte, Nat.reduceEqDiff]) (by simp only [go_sem, reduceIte, Nat.reduceEqDiff, List.map]; rw [← k2]; exact VSubs.refl _) (hY i l hi2 hj) on.ok fun r l' n' T' m' ids hq on2 => ?_
        rcases hq with ⟨rfl, hq⟩ | ⟨rfl, hq⟩
        · refine WpItems.evR (by simp only [go_sem, reduceIte, Nat.reduceEqDiff, Nat.reduceAdd, bx]; exact rfl) ?_
          refine WpItems.nil ⟨by trivial, ?_⟩
          repeat (first
            | ((first | apply Wp.seqItemsR | apply Wp.itemsR); (· simp only [go_sem, reduceIte, Nat.reduceEqDiff, Nat.reduceAdd, bx, ax, if_true, if_false, Nat.reduceMul, Nat.reduceLeDiff, e1]; exact rfl))
            | (refine WpItems.nil ⟨?_, ?_⟩; (· first | trivial | simp [pairsQ, pairsOk, apart, ent0]))
            | (apply Wp.cond_lit; (· simp only [go_sem, reduceIte, Nat.reduceEqDiff, Nat.reduceAdd, bx, ax, if_true, if_false, Nat.reduceMul, Nat.reduceLeDiff, e1]; exact rfl); (· rfl))
            | refine Wp.skip ?_
            | refine Wp.label ?_
            | refine Wp.block ?_
            | refine Wp.exit ?_
            | refine Wp.seq ?_)
          refine ⟨i + 1, l', n', T', m', on2, ⟨hq, by omega⟩, by omega, ?_⟩
          refine StLe.tm (by simp only [AllSub, go_sem, reduceIte, Nat.reduceEqDiff, Nat.reduceAdd, bx, Nat.mul_one]; and_intros <;> first | exact trivial | exact VSub.refl _ | exact VSub.any _ | (refine VSub.int ?_; omega))
        · refine WpItems.evR (by simp only [go_sem, reduceIte, Nat.reduceEqDiff, Nat.reduceAdd, bx]; exact rfl) ?_
          refine WpItems.nil ⟨by trivial, ?_⟩
          repeat (first
            | ((first | apply Wp.seqItemsR | apply Wp.itemsR); (· simp only [go_sem, reduceIte, Nat.reduceEqDiff, Nat.reduceAdd, bx, ax, if_true, if_false, Nat.reduceMul, Nat.reduceLeDiff]; exact rfl))
            | (refine WpItems.nil ⟨?_, ?_⟩; (· first | trivial | simp [pairsQ, pairsOk, apart, ent0]))
            | (apply Wp.cond_lit; (· simp only [go_sem, reduceIte, Nat.reduceEqDiff, Nat.reduceAdd, bx, ax, if_true, if_false, Nat.reduceMul, Nat.reduceLeDiff]; exact rfl); (· rfl))
            | refine Wp.skip ?_
            | refine Wp.label ?_
            | refine Wp.block ?_
            | refine Wp.exit ?_
            | refine Wp.seq ?_)
          exact Wp.ret ⟨trivial, _, rfl, _, _, (on.step on2).ends (VSub.refl _) ⟨rfl, .inr hq⟩⟩
      · have d1 : decide (b = []) = false := decide_eq_false hbe
        have d2 : Op.bytesLess ((keysOf S.L).getD (plK (keysOf S.L) a + i) []) b = true := by
          unfold selP at k3; rw [d1, Bool.false_or] at k3; exact k3
        repeat (first
          | ((first | apply Wp.seqItemsR | apply Wp.itemsR); (· simp only [go_sem, reduceIte, Nat.reduceEqDiff, Nat.reduceAdd, bx, ax, if_true, if_false, Nat.reduceMul, Nat.reduceLeDiff, g1, h2, h3, fk, hg, Nat.mul_one, d1, d2]; exact rfl))
          | (refine WpItems.nil ⟨?_, ?_⟩; (· first | trivial | simp [pairsQ, pairsOk, apart, ent0]))
          | (apply Wp.cond_lit; (· simp only [go_sem, reduceIte, Nat.reduceEqDiff, Nat.reduceAdd, bx, ax, if_true, if_false, Nat.reduceMul, Nat.reduceLeDiff, g1, h2, h3, fk, hg, Nat.mul_one, d1, d2]; exact rfl); (· rfl))
          | refine Wp.skip ?_
          | refine Wp.label ?_
          | refine Wp.block ?_
          | refine Wp.exit ?_
          | refine Wp.seq ?_)
        refine WpItems.gyield1 (by simp only [go_sem, reduceIte, Nat.reduceEqDiff]; rfl) (by simp only [go_sem, reduceIte, Nat.reduceEqDiff]) (by simp only [go_sem, reduceIte, Nat.reduceEqDiff, List.map]; rw [← k2]; exact VSubs.refl _) (hY i l hi2 hj) on.ok fun r l' n' T' m' ids hq on2 => ?_
        rcases hq with ⟨rfl, hq⟩ | ⟨rfl, hq⟩
        · refine WpItems.evR (by simp only [go_sem, reduceIte, Nat.reduceEqDiff, Nat.reduceAdd, bx]; exact rfl) ?_
          refine WpItems.nil ⟨by trivial, ?_⟩
          repeat (first
            | ((first | apply Wp.seqItemsR | apply Wp.itemsR); (· simp only [go_sem, reduceIte, Nat.reduceEqDiff, Nat.reduceAdd, bx, ax, if_true, if_false, Nat.reduceMul, Nat.reduceLeDiff, e1]; exact rfl))
            | (refine WpItems.nil ⟨?_, ?_⟩; (· first | trivial | simp [pairsQ, pairsOk, apart, ent0]))
            | (apply Wp.cond_lit; (· simp only [go_sem, reduceIte, Nat.reduceEqDiff, Nat.reduceAdd, bx, ax, if_true, if_false, Nat.reduceMul, Nat.reduceLeDiff, e1]; exact rfl); (· rfl))
            | refine Wp.skip ?_
            | refine Wp.label ?_
            | refine Wp.block ?_
            | refine Wp.exit ?_
            | refine Wp.seq ?_)
          refine ⟨i + 1, l', n', T', m', on2, ⟨hq, by omega⟩, by omega, ?_⟩
          refine StLe.tm (by simp only [AllSub, go_sem, reduceIte, Nat.reduceEqDiff, Nat.reduceAdd, bx, Nat.mul_one]; and_intros <;> first | exact trivial | exact VSub.refl _ | exact VSub.any _ | (refine VSub.int ?_; omega))
        · refine WpItems.evR (by simp only [go_sem, reduceIte, Nat.reduceEqDiff, Nat.reduceAdd, bx]; exact rfl) ?_
          refine WpItems.nil ⟨by trivial, ?_⟩
          repeat (first
            | ((first | apply Wp.seqItemsR | apply Wp.itemsR); (· simp only [go_sem, reduceIte, Nat.reduceEqDiff, Nat.reduceAdd, bx, ax, if_true, if_false, Nat.reduceMul, Nat.reduceLeDiff]; exact rfl))
            | (refine WpItems.nil ⟨?_, ?_⟩; (· first | trivial | simp [pairsQ, pairsOk, apart, ent0]))
            | (apply Wp.cond_lit; (· simp only [go_sem, reduceIte, Nat.reduceEqDiff, Nat.reduceAdd, bx, ax, if_true, if_false, Nat.reduceMul, Nat.reduceLeDiff]; exact rfl); (· rfl))
            | refine Wp.skip ?_
            | refine Wp.label ?_
            | refine Wp.block ?_
            | refine Wp.exit ?_
            | refine Wp.seq ?_)
          exact Wp.ret ⟨trivial, _, rfl, _, _, (on.step on2).ends (VSub.refl _) ⟨rfl, .inr hq⟩⟩
    · have he : i = (selK (keysOf S.L) a b).length := by omega
      subst he
      by_cases hend : plK (keysOf S.L) a + (selK (keysOf S.L) a b).length < (keysOf S.L).length
      · have k3 := selK_end hend
        have hg := hget hend
        have g1 : decide ((((selK (keysOf S.L) a b).length : Nat) : Int) < ((((keysOf S.L).length - plK (keysOf S.L) a) : Nat) : Int)) = true := decide_eq_true (by omega)
        have h2 : (0 : Int) ≤ (((selK (keysOf S.L) a b).length : Nat) : Int) := by omega
        have h3 : (((selK (keysOf S.L) a b).length : Nat) : Int) < ((((keysOf S.L).length - plK (keysOf S.L) a) : Nat) : Int) := by omega
        have e1 : IntKind.i64.wrap ((((selK (keysOf S.L) a b).length : Nat) : Int) + 1) = (((selK (keysOf S.L) a b).length + 1 : Nat) : Int) := by rw [IntWalk.i64_in _ (by omega)]; omega
        unfold selP at k3
        rw [Bool.or_eq_false_iff] at k3
        repeat (first
          | ((first | apply Wp.seqItemsR | apply Wp.itemsR); (· simp only [go_sem, reduceIte, Nat.reduceEqDiff, Nat.reduceAdd, bx, ax, if_true, if_false, Nat.reduceMul, Nat.reduceLeDiff, g1, h2, h3, fk, hg, Nat.mul_one, k3.1, k3.2]; exact rfl))
          | (refine WpItems.nil ⟨?_, ?_⟩; (· first | trivial | simp [pairsQ, pairsOk, apart, ent0]))
          | (apply Wp.cond_lit; (· simp only [go_sem, reduceIte, Nat.reduceEqDiff, Nat.reduceAdd, bx, ax, if_true, if_false, Nat.reduceMul, Nat.reduceLeDiff, g1, h2, h3, fk, hg, Nat.mul_one, k3.1, k3.2]; exact rfl); (· rfl))
          | refine Wp.skip ?_
          | refine Wp.label ?_
          | refine Wp.block ?_
          | refine Wp.exit ?_
          | refine Wp.seq ?_)
        exact Wp.ret ⟨trivial, _, rfl, _, _, on.ends (VSub.refl _) ⟨rfl, .inl hj⟩⟩
      · have g1 : decide ((((selK (keysOf S.L) a b).length : Nat) : Int) < (((keysOf S.L).length - plK (keysOf S.L) a : Nat) : Int)) = false := decide_eq_false (by omega)
        repeat (first
          | ((first | apply Wp.seqItemsR | apply Wp.itemsR); (· simp only [go_sem, reduceIte, Nat.reduceEqDiff, Nat.reduceAdd, bx, ax, if_true, if_false, Nat.reduceMul, Nat.reduceLeDiff, g1]; exact rfl))
          | (refine WpItems.nil ⟨?_, ?_⟩; (· first | trivial | simp [pairsQ, pairsOk, apart, ent0]))
          | (apply Wp.cond_lit; (· simp only [go_sem, reduceIte, Nat.reduceEqDiff, Nat.reduceAdd, bx, ax, if_true, if_false, Nat.reduceMul, Nat.reduceLeDiff, g1]; exact rfl); (· rfl))
          | refine Wp.skip ?_
          | refine Wp.label ?_
          | refine Wp.block ?_
          | refine Wp.exit ?_
          | refine Wp.seq ?_)
        exact ⟨trivial, _, rfl, _, _, on.ends (VSub.refl _) ⟨rfl, .inl hj⟩⟩
def RndQ (J : List Fr → Prop) (E : AExit → List Fr → Prop) : AExit → List Fr → Prop
  | .normal, l => J l
  | .panic _, _ => False
  | e, l => E e l
theorem loop_between {N : Nat} {s : Nat} {S : Spc} {F : Fr} (hF : SpcF s S F) (hr : RiseL S.L) (hl : S.L.length ≤ 500000) (a b : Bs) {g : Opd} {p q : Nat} {y : AC} {t : Tm} {l : List Fr} {n m : Nat} {T : List Nat} {Q : AExit → St → Prop} (hg : ev t g = iterV s a b) (ok : Ok l n T m) (hT : T = ks l) (hp : p < N)
    (J : Nat → List Fr → Prop) (E : AExit → List Fr → Prop) (hJ : ∀ i l, J i l → F ∈ l) (h0 : J 0 l)
    (round : ∀ i l o n1 n2 m2, i < (selK (keysOf S.L) a b).length → J i l → n ≤ n1 → Ok (ob n1 o :: l) n2 (ks l) m2 →
      Wp Try.prog N y ⟨upd (upd t p (.str ((selK (keysOf S.L) a b).getD i []))) q (.str ((selK (keysOf S.L) a b).getD i [])), ⟨lay (ob n1 o :: l), n2, ks l, m2⟩⟩ fun e2 s2 => ∃ l', Av.Ends (ob n1 o :: l) n2 m2 (fun _ _ => True) (.tup []) s2.h (.tup []) (ob n1 o :: l') ∧ RndQ (J (i + 1)) E e2 l')
    (fin : ∀ l1 n' m', On l n m l1 n' (ks l1) m' → J (selK (keysOf S.L) a b).length l1 → Q .normal ⟨t, ⟨lay l1, n', ks l1, m'⟩⟩)
    (out : ∀ e l1 n' m', On l n m l1 n' (ks l1) m' → E e l1 → Q e ⟨t, ⟨lay l1, n', ks l1, m'⟩⟩) :
    Wp Try.prog N (.rfun g [p] (.reg [⟨some q, none, .mov (.t p)⟩] none) y) ⟨t, ⟨lay l, n, T, m⟩⟩ Q := by
  refine Wp.rfunG (fi := 106) (first := []) (caps := [.ref [.ptr s 0], .ref [.str a], .ref [.str b]]) hg (Try.func106) rfl (of_decide_eq_true (by kernel_rfl)) ok hT fun asg body c1 c2 c3 c4 => ?_
  refine (iter_g hF hr hl a b n (fun i L => ∃ l', L = ob n (.loop N t [p] asg body .ready none) :: l' ∧ J i l') (fun L => ∃ l' st pend e, L = ob n (.loop N t [p] asg body st pend) :: l' ∧ st ≠ .busy ∧ LoopEnd pend e ∧ E e l') ?_ ?_ _ ⟨l, rfl, h0⟩).mono ?_
  · rintro i L ⟨l', rfl, h⟩
    exact List.mem_cons_of_mem _ (hJ i l' h)
  · rintro i L hi ⟨l', rfl, h⟩
    refine gyields_of c1 c2 c3 c4 rfl (by simpa using hp) fun n2 m2 ok2 => ?_
    refine Wp.reg1 (by simp only [go_sem, reduceIte, Nat.reduceEqDiff, putPs]; exact rfl) (by trivial) ⟨rfl, rfl, ?_⟩
    refine (round i l' _ n n2 m2 hi h (Nat.le_refl _) ok2).mono ?_
    rintro e2 s2 ⟨l2, hE, hq⟩
    cases e2 with
    | normal => exact ⟨true, .ready, none, l2, .normal, ⟨VSub.refl _, hE.ole, hE.tk, hE.ok, hE.new, hE.knew, trivial⟩, .inl ⟨rfl, l2, rfl, hq⟩⟩
    | exit i => exact ⟨false, .done, _, l2, .exit i, ⟨VSub.refl _, hE.ole, hE.tk, hE.ok, hE.new, hE.knew, trivial⟩, .inr ⟨rfl, l2, _, _, _, rfl, by simp, .exit i, hq⟩⟩
    | goto i => exact ⟨false, .done, _, l2, .goto i, ⟨VSub.refl _, hE.ole, hE.tk, hE.ok, hE.new, hE.knew, trivial⟩, .inr ⟨rfl, l2, _, _, _, rfl, by simp, .goto i, hq⟩⟩
    | ret => exact ⟨false, .done, _, l2, .ret, ⟨VSub.refl _, hE.ole, hE.tk, hE.ok, hE.new, hE.knew, trivial⟩, .inr ⟨rfl, l2, _, _, _, rfl, by simp, .ret, hq⟩⟩
    | panic v => exact False.elim hq
  · rintro r L ⟨rfl, h⟩
    rcases h with ⟨l', rfl, h⟩ | ⟨l', st, pend, e, rfl, h1, h2, h3⟩
    · exact ⟨t, .ready, none, .normal, l', rfl, by simp, .none, fun n' m' on => fin l' n' m' on h⟩
    · exact ⟨t, st, pend, e, l', rfl, h1, h2, fun n' m' on => out e l' n' m' on h3⟩
end Go.Proofs.Ytpehfflehebmbaa.Space
end
section
set_option linter.unusedSimpArgs false
set_option linter.unusedVariables false
set_option maxRecDepth 10000
namespace Go.Proofs.Ytpehfflehebmbaa.Space
open Go Go.Av Go.Proofs Go.Proofs.Ytpehfflehebmbaa.C Go.Proofs.Ytpehfflehebmbaa.Batch
def sinceS (S : Spc) (a b : Bs) (t : Int) : Bool := (selK (keysOf S.L) a b).any fun k => sinceB (mget S.L k) t
theorem since_g {s : Nat} {S : Spc} {F : Fr} (hF : SpcF s S F) (hr : RiseL S.L) (hS : Small S) (a b : Bs) (t : Int) : GCalls Try.prog 22 [.ptr s 0, .str a, .str b, .int .i64 t] [F] (fun r l => r = .bool (sinceS S a b t) ∧ l = [F]) := by
  obtain ⟨c, M, K, hM, hsc, hs, hc, hK⟩ := hF.go
  refine f22.gsame (by simp) fun n m ok => ?_
  unfold c22
  have hsn := ok.lt (by simp) hs
  obtain ⟨o1, o2, o3, o4⟩ := ne_off hsn
  have ksF : ks [F] = [] := by simp [ks, hF.k]
  rw [ksF] at ok ⊢
  refine Wp.seqReg (by simp only [go_sem, reduceIte, Nat.reduceEqDiff, Nat.reduceAdd, bx]; exact rfl) (by trivial) ?_
  simp only [upd_new]
  have ok3 := ((ok.more (.cells [.ptr s 0])).more (.cells [.int .i64 t])).more (.cells [.bool false])
  have ok := ok3
  have n1 : (n = n + 1) = False := by simp
  have n2 : (n = n + 1 + 1) = False := by simp; omega
  have n3 : (n + 1 = n + 1 + 1) = False := by simp
  have f4 := ok3.sub (F := ob n (.cells [.ptr s 0])) (by simp) n _ (by simp [ob_o]; rfl)
  have f7 := ok3.sub (F := ob (n + 1) (.cells [.int .i64 t])) (by simp) (n + 1) _ (by simp [ob_o]; rfl)
  repeat (first
    | ((first | apply Wp.seqItemsR | apply Wp.itemsR | ((first
        | (refine WpItems.glook ?_ ?_ (made_r hF) (by first | exact fun j o h => h | exact ok.sub (by simp) | assumption) (fun ids => ?_); (· simp only [go_sem, reduceIte, Nat.reduceEqDiff, Nat.reduceAdd, bx]); (· simp only [go_sem, reduceIte, Nat.reduceEqDiff, Nat.reduceAdd, bx, List.map]; first | exact VSubs.refl _ | (repeat (first | exact VSubs.nil | refine VSubs.cons (by first | exact VSub.refl _ | assumption | exact VSub.cap | exact VSub.any _) ?_))))); apply WpItems.evR)); (· simp only [go_sem, reduceIte, Nat.reduceEqDiff, Nat.reduceAdd, bx, ax, if_true, if_false, Nat.reduceMul, Nat.reduceLeDiff, f4]; exact rfl))
    | (refine WpItems.nil ⟨?_, ?_⟩; (· first | trivial | simp [pairsQ, pairsOk, apart, ent0]))
    | (apply Wp.cond_lit; (· simp only [go_sem, reduceIte, Nat.reduceEqDiff, Nat.reduceAdd, bx, ax, if_true, if_false, Nat.reduceMul, Nat.reduceLeDiff, f4]; exact rfl); (· rfl))
    | refine Wp.skip ?_
    | refine Wp.label ?_
    | refine Wp.block ?_
    | refine Wp.exit ?_
    | refine Wp.seq ?_)
  refine WpItems.gkeep [_, _, _] [] (by simp only [go_sem]) (by simp only [go_sem, reduceIte, Nat.reduceEqDiff, List.map]; exact VSubs.refl _) (between_g hF a b) hF.k ok3 fun n4 m4 ids hn4 hm4 ok4 => ?_
  refine WpItems.evR (by simp only [go_sem, reduceIte, Nat.reduceEqDiff, Nat.reduceAdd, bx]; exact rfl) ?_
  refine WpItems.nil ⟨by trivial, ?_⟩
  refine Wp.block ?_
  have hsel : ∀ i, i < (selK (keysOf S.L) a b).length → (selK (keysOf S.L) a b).getD i [] ∈ selK (keysOf S.L) a b := fun i hi => by rw [getD_el hi]; exact List.getElem_mem hi
  refine loop_between hF hr hS.1 a b (by simp only [go_sem, reduceIte, Nat.reduceEqDiff]) ok4 (by simp [ks, hF.k, ob]) (by simp)
    (fun i l => l = [ob (n + 1 + 1) (.cells [.bool false]), ob (n + 1) (.cells [.int .i64 t]), ob n (.cells [.ptr s 0]), F] ∧ ∀ j, j < i → sinceB (mget S.L ((selK (keysOf S.L) a b).getD j [])) t = false)
    (fun e l => e = .ret ∧ l = [ob (n + 1 + 1) (.cells [.bool true]), ob (n + 1) (.cells [.int .i64 t]), ob n (.cells [.ptr s 0]), F] ∧ sinceS S a b t = true) ?_ ⟨rfl, fun j hj => by omega⟩ ?_ ?_ ?_
  · rintro i l ⟨rfl, -⟩; simp
  · rintro i l oo k1 k2 k3 hi ⟨rfl, hno⟩ hk1 ok5
    have ok := ok5
    have g4 := ok5.sub (F := ob n (.cells [.ptr s 0])) (by simp) n _ (by simp [ob_o]; rfl)
    have g7 := ok5.sub (F := ob (n + 1) (.cells [.int .i64 t])) (by simp) (n + 1) _ (by simp [ob_o]; rfl)
    have g8 := ok5.sub (F := ob (n + 1 + 1) (.cells [.bool false])) (by simp) (n + 1 + 1) _ (by simp [ob_o]; rfl)
    have gs := ok5.sub (F := F) (by simp) _ _ hs
    have gc := ok5.sub (F := F) (by simp) _ _ hc
    have hat := since_p (mget S.L ((selK (keysOf S.L) a b).getD i [])) (by have := hS.2 ((selK (keysOf S.L) a b).getD i []); omega) t
    have hl := look_sub M ((selK (keysOf S.L) a b).getD i [])
    rw [hM.eq] at hl
    unfold vAV at hl
    have fit : VSubs [lookAV (.sl 3 [] (.exact 0)) false (mres M ((selK (keysOf S.L) a b).getD i [])), .int .i64 t] [.sl 3 ((mget S.L ((selK (keysOf S.L) a b).getD i [])).map encV) .any, .int .i64 t] := VSubs.cons hl (VSubs.refl _)
    cases hb : sinceB (mget S.L ((selK (keysOf S.L) a b).getD i [])) t with
    | true =>
      rw [hb] at hat
      repeat (first
        | ((first | apply Wp.seqItemsR | apply Wp.itemsR | ((first
            | (refine WpItems.pcall ?_ ?_ (hat) ?_; (· simp only [go_sem, reduceIte, Nat.reduceEqDiff, Nat.reduceAdd, bx]); (· simp only [go_sem, reduceIte, Nat.reduceEqDiff, Nat.reduceAdd, bx, List.map]; exact fit))); apply WpItems.evR)); (· simp only [go_sem, reduceIte, Nat.reduceEqDiff, Nat.reduceAdd, bx, ax, if_true, if_false, Nat.reduceMul, Nat.reduceLeDiff, g4, g7, gs, gc, mfind_enc, g8]; exact rfl))
        | (refine WpItems.nil ⟨?_, ?_⟩; (· first | trivial | simp [pairsQ, pairsOk, apart, ent0]))
        | (apply Wp.cond_lit; (· simp only [go_sem, reduceIte, Nat.reduceEqDiff, Nat.reduceAdd, bx, ax, if_true, if_false, Nat.reduceMul, Nat.reduceLeDiff, g4, g7, gs, gc, mfind_enc, g8]; exact rfl); (· rfl))
        | refine Wp.skip ?_
        | refine Wp.label ?_
        | refine Wp.block ?_
        | refine Wp.exit ?_
        | refine Wp.seq ?_)
      have e8 := Ok.upd_ob (A := [_]) (.cells [.bool true]) ok5
      have on8 := On.put_ob (A := [_]) (o' := .cells [.bool true]) ok5
      refine Wp.ret ⟨_, (?_ : Av.Ends _ _ _ _ _ ⟨_, _, _, _⟩ _ _), rfl, rfl, ?_⟩
      · simp only [List.cons_append, List.nil_append] at e8 on8
        rw [e8]
        exact on8.ends (VSub.refl _) trivial
      · exact List.any_eq_true.2 ⟨_, hsel i hi, hb⟩
    | false =>
      rw [hb] at hat
      repeat (first
        | ((first | apply Wp.seqItemsR | apply Wp.itemsR | ((first
            | (refine WpItems.pcall ?_ ?_ (hat) ?_; (· simp only [go_sem, reduceIte, Nat.reduceEqDiff, Nat.reduceAdd, bx]); (· simp only [go_sem, reduceIte, Nat.reduceEqDiff, Nat.reduceAdd, bx, List.map]; exact fit))); apply WpItems.evR)); (· simp only [go_sem, reduceIte, Nat.reduceEqDiff, Nat.reduceAdd, bx, ax, if_true, if_false, Nat.reduceMul, Nat.reduceLeDiff, g4, g7, gs, gc, mfind_enc]; exact rfl))
        | (refine WpItems.nil ⟨?_, ?_⟩; (· first | trivial | simp [pairsQ, pairsOk, apart, ent0]))
        | (apply Wp.cond_lit; (· simp only [go_sem, reduceIte, Nat.reduceEqDiff, Nat.reduceAdd, bx, ax, if_true, if_false, Nat.reduceMul, Nat.reduceLeDiff, g4, g7, gs, gc, mfind_enc]; exact rfl); (· rfl))
        | refine Wp.skip ?_
        | refine Wp.label ?_
        | refine Wp.block ?_
        | refine Wp.exit ?_
        | refine Wp.seq ?_)
      exact ⟨_, (On.refl ok5).ends (VSub.refl _) trivial, rfl, fun j hj => by
        by_cases e : j = i
        · rw [e]; exact hb
        · exact hno j (by omega)⟩
  · rintro l1 n' m' on ⟨rfl, hno⟩
    have g8 := on.ok.sub (F := ob (n + 1 + 1) (.cells [.bool false])) (by simp) (n + 1 + 1) _ (by simp [ob_o]; rfl)
    have hz : sinceS S a b t = false := by
      rw [sinceS, List.any_eq_false]
      intro x hx
      obtain ⟨j, hj, rfl⟩ := List.mem_iff_getElem.1 hx
      have := hno j hj
      rw [getD_el hj] at this
      simp [this]
    rw [hz]
    show Wp _ _ _ _ _
    repeat (first
      | ((first | apply Wp.seqItemsR | apply Wp.itemsR); (· simp only [go_sem, reduceIte, Nat.reduceEqDiff, Nat.reduceAdd, bx, ax, if_true, if_false, Nat.reduceMul, Nat.reduceLeDiff, g8]; exact rfl))
      | (refine WpItems.nil ⟨?_, ?_⟩; (· first | trivial | simp [pairsQ, pairsOk, apart, ent0]))
      | (apply Wp.cond_lit; (· simp only [go_sem, reduceIte, Nat.reduceEqDiff, Nat.reduceAdd, bx, ax, if_true, if_false, Nat.reduceMul, Nat.reduceLeDiff, g8]; exact rfl); (· rfl))
      | refine Wp.skip ?_
      | refine Wp.label ?_
      | refine Wp.block ?_
      | refine Wp.exit ?_
      | refine Wp.seq ?_)
    refine Wp.ret ⟨trivial, .bool false, ?_, VSub.refl _, fun j hj => ?_, by simp⟩
    · simp [resOf, rvs, rv, go_sem, upd]
    · have q1 : j ≠ n := by omega
      have q2 : j ≠ n + 1 := by omega
      have q3 : j ≠ n + 1 + 1 := by omega
      simp [upd, lay, ob_o, q1, q2, q3]
  · rintro e l1 n' m' on ⟨rfl, rfl, hy⟩
    rw [hy]
    have g8 := on.ok.sub (F := ob (n + 1 + 1) (.cells [.bool true])) (by simp) (n + 1 + 1) _ (by simp [ob_o]; rfl)
    refine ⟨trivial, .bool true, ?_, VSub.refl _, fun j hj => ?_, by simp⟩
    · simp [resOf, rvs, rv, go_sem, g8]
    · have q1 : j ≠ n := by omega
      have q2 : j ≠ n + 1 := by omega
      have q3 : j ≠ n + 1 + 1 := by omega
      simp [lay, ob_o, q1, q2, q3]
end Go.Proofs.Ytpehfflehebmbaa.Space
end
section
set_option linter.unusedSimpArgs false
set_option linter.unusedVariables false
set_option maxRecDepth 10000
namespace Go.Proofs.Ytpehfflehebmbaa.Batch
open Go Go.Av Go.Proofs Go.Proofs.Ytpehfflehebmbaa.C
abbrev Bs := List UInt8
structure Pr where
  k : Bs
  v : Bs
  deriving DecidableEq
structure Ch where
  k : Bs
  v : Bs
  d : Bool
  deriving DecidableEq
instance : Inhabited Pr := ⟨⟨[], []⟩⟩
instance : Inhabited Ch := ⟨⟨[], [], false⟩⟩
def encPr (p : Pr) : AV := .agg [.str p.k, .str p.v]
def encCh (c : Ch) : AV := .agg [.str c.k, .str c.v, .bool c.d]
def prs (l : List Pr) : List AV := l.map encPr
def chs (l : List Ch) : List AV := l.map encCh
theorem prs_length (l : List Pr) : (prs l).length = l.length := by simp [prs]
theorem chs_length (l : List Ch) : (chs l).length = l.length := by simp [chs]
theorem prs_getD (l : List Pr) (k : Nat) (d : AV) (h : k < l.length) : (prs l).getD k d = encPr (l.getD k default) := by
  simp [prs, List.getD, List.getElem?_map, List.getElem?_eq_getElem h]
theorem chs_getD (l : List Ch) (k : Nat) (d : AV) (h : k < l.length) : (chs l).getD k d = encCh (l.getD k default) := by
  simp [chs, List.getD, List.getElem?_map, List.getElem?_eq_getElem h]
theorem allPure_map {α : Type} {f : α → AV} (h : ∀ x, isPure (f x) = true) : ∀ l : List α, allPure (l.map f) = true
  | [] => rfl
  | x :: l => by simp only [List.map_cons, allPure, h x, Bool.true_and]; exact allPure_map h l
theorem prs_pure (l : List Pr) : allPure (prs l) = true := allPure_map (fun x => by simp [encPr, isPure, allPure]) l
theorem chs_pure (l : List Ch) : allPure (chs l) = true := allPure_map (fun x => by simp [encCh, isPure, allPure]) l
end Go.Proofs.Ytpehfflehebmbaa.Batch
end
section
set_option linter.unusedSimpArgs false
set_option linter.unusedVariables false
set_option maxRecDepth 10000
namespace Go.Proofs.Ytpehfflehebmbaa.Space
open Go Go.Av Go.Proofs Go.Proofs.Ytpehfflehebmbaa.C Go.Proofs.Ytpehfflehebmbaa.Batch
def tellS (S : Spc) (t : Int) (k : Bs) : Option Pr := if (atB (mget S.L k) t).2 = true then some ⟨k, (atB (mget S.L k) t).1⟩ else none
def allS (S : Spc) (a b : Bs) (t : Int) : List Pr := (selK (keysOf S.L) a b).filterMap (tellS S t)
def cutL (most : Int) (l : List Pr) : List Pr := if most < 0 then l else l.take most.toNat
def scanB (S : Spc) (a b : Bs) (t most : Int) : List Pr × Int := if keptB S t = 0 then (cutL most (allS S a b t), 0) else ([], keptB S t)
theorem scan_g {s : Nat} {S : Spc} {F : Fr} (hF : SpcF s S F) (hr : RiseL S.L) (hS : Small S) (a b : Bs) (t most : Int) : GCalls Try.prog 17 [.ptr s 0, .str a, .str b, .int .i64 t, .int .i64 most] [F] (fun r l => r = .tup [.sl 2 (prs (scanB S a b t most).1) .any, .int .i64 (scanB S a b t most).2] ∧ l = [F]) := by
  obtain ⟨c, M, K, hM, hsc, hs, hc, hK⟩ := hF.go
  refine f17.gsame (by simp) fun n m ok => ?_
  unfold c17
  have hsn := ok.lt (by simp) hs
  have ksF : ks [F] = [] := by simp [ks, hF.k]
  rw [ksF] at ok ⊢
  refine Wp.seqReg (by simp only [go_sem, reduceIte, Nat.reduceEqDiff, Nat.reduceAdd, bx]; exact rfl) (by trivial) ?_
  simp only [upd_new]
  have ok3 := ((ok.more (.cells [.ptr s 0])).more (.cells [.int .i64 t])).more (.cells [.int .i64 most])
  have n1 : (n = n + 1) = False := by simp
  have n2 : (n = n + 1 + 1) = False := by simp; omega
  have n3 : (n + 1 = n + 1 + 1) = False := by simp
  have f5 := ok3.sub (F := ob n (.cells [.ptr s 0])) (by simp) n _ (by simp [ob_o]; rfl)
  have f8 := ok3.sub (F := ob (n + 1) (.cells [.int .i64 t])) (by simp) (n + 1) _ (by simp [ob_o]; rfl)
  by_cases h1 : keptB S t = 0
  · have d1 := decide_eq_true h1
    have okx := ok
    have ok := ok3
    refine Wp.seq ?_
    repeat (first
      | ((first | apply Wp.seqItemsR | apply Wp.itemsR | ((first
          | (refine WpItems.glook ?_ ?_ (kept_r hF t) (by first | exact fun j o h => h | exact ok.sub (by simp) | assumption) (fun ids => ?_); (· simp only [go_sem, reduceIte, Nat.reduceEqDiff, Nat.reduceAdd, bx]); (· simp only [go_sem, reduceIte, Nat.reduceEqDiff, Nat.reduceAdd, bx, List.map]; first | exact VSubs.refl _ | (repeat (first | exact VSubs.nil | refine VSubs.cons (by first | exact VSub.refl _ | assumption | exact VSub.cap | exact VSub.any _) ?_))))); apply WpItems.evR)); (· simp only [go_sem, reduceIte, Nat.reduceEqDiff, Nat.reduceAdd, bx, ax, if_true, if_false, Nat.reduceMul, Nat.reduceLeDiff, f5, f8, d1]; exact rfl))
      | (refine WpItems.nil ⟨?_, ?_⟩; (· first | trivial | simp [pairsQ, pairsOk, apart, ent0]))
      | (apply Wp.cond_lit; (· simp only [go_sem, reduceIte, Nat.reduceEqDiff, Nat.reduceAdd, bx, ax, if_true, if_false, Nat.reduceMul, Nat.reduceLeDiff, f5, f8, d1]; exact rfl); (· rfl))
      | refine Wp.skip ?_
      | refine Wp.label ?_
      | refine Wp.block ?_
      | refine Wp.exit ?_
      | refine Wp.seq ?_)
    rw [upd_newk (k := [m])]
    refine Wp.le (StLe.trans (StLe.tok _ _) (StLe.of (f' := lay [obk (n + 1 + 1 + 1) (.cells [.sl 2 [] (.own m)]) [m], ob (n + 1 + 1) (.cells [.int .i64 most]), ob (n + 1) (.cells [.int .i64 t]), ob n (.cells [.ptr s 0]), F]) (n' := n + 1 + 1 + 1 + 1) (m' := m + 1) (k' := [m]) (fun i => VSub.refl _) ?_ (by simp) (by simp) (by simp))) ?_
    · intro j o hj
      by_cases e : j = n + 1 + 1 + 1
      · subst e
        rw [lay_obk_at] at hj
        cases hj
        exact ⟨_, lay_obk_at _ _ _ _, VSubs.cons (VSub.own_of rfl) VSubs.nil⟩
      · rw [lay_obk_ne _ _ _ e] at hj
        exact ⟨o, (lay_obk_ne _ _ _ e).trans hj, OSub.refl _⟩
    have ok4 := ok3.more_k (.cells [.sl 2 [] (.own m)])
    have g5 := ok4.sub (F := ob n (.cells [.ptr s 0])) (by simp) n _ (by simp [ob_o]; rfl)
    repeat (first
      | ((first | apply Wp.seqItemsR | apply Wp.itemsR); (· simp only [go_sem, reduceIte, Nat.reduceEqDiff, Nat.reduceAdd, bx, ax, if_true, if_false, Nat.reduceMul, Nat.reduceLeDiff, g5]; exact rfl))
      | (refine WpItems.nil ⟨?_, ?_⟩; (· first | trivial | simp [pairsQ, pairsOk, apart, ent0]))
      | (apply Wp.cond_lit; (· simp only [go_sem, reduceIte, Nat.reduceEqDiff, Nat.reduceAdd, bx, ax, if_true, if_false, Nat.reduceMul, Nat.reduceLeDiff, g5]; exact rfl); (· rfl))
      | refine Wp.skip ?_
      | refine Wp.label ?_
      | refine Wp.block ?_
      | refine Wp.exit ?_
      | refine Wp.seq ?_)
    refine WpItems.gkeep [_, _, _, _] [] (by simp only [go_sem]) (by simp only [go_sem, reduceIte, Nat.reduceEqDiff, List.map]; exact VSubs.refl _) (between_g hF a b) hF.k ok4 fun n5 m5 ids hn5 hm5 ok5 => ?_
    refine WpItems.evR (by simp only [go_sem, reduceIte, Nat.reduceEqDiff, Nat.reduceAdd, bx]; exact rfl) ?_
    refine WpItems.nil ⟨by trivial, ?_⟩
    refine Wp.block ?_
    have hlen : (selK (keysOf S.L) a b).length ≤ 500000 := by
      have := (List.takeWhile_prefix (selP b) (l := (keysOf S.L).drop (plK (keysOf S.L) a))).length_le
      have hkl : (keysOf S.L).length = S.L.length := by simp [keysOf]
      rw [List.length_drop] at this
      have := hS.1
      unfold selK; omega
    have hz : (scanB S a b t most).2 = 0 := by rw [scanB, if_pos h1]
    refine loop_between hF hr hS.1 a b (by simp only [go_sem, reduceIte, Nat.reduceEqDiff]) ok5 (by simp [ks, hF.k, ob, obk]) (by simp)
      (fun i l => ∃ tk, l = [obk (n + 1 + 1 + 1) (.cells [.sl 2 (prs (((selK (keysOf S.L) a b).take i).filterMap (tellS S t))) (.own tk)]) [tk], ob (n + 1 + 1) (.cells [.int .i64 most]), ob (n + 1) (.cells [.int .i64 t]), ob n (.cells [.ptr s 0]), F] ∧ (most < 0 ∨ (((selK (keysOf S.L) a b).take i).filterMap (tellS S t)).length ≤ most.toNat))
      (fun e l => e = .exit 0 ∧ ∃ tk, l = [obk (n + 1 + 1 + 1) (.cells [.sl 2 (prs (scanB S a b t most).1) (.own tk)]) [tk], ob (n + 1 + 1) (.cells [.int .i64 most]), ob (n + 1) (.cells [.int .i64 t]), ob n (.cells [.ptr s 0]), F]) ?_ ⟨m, rfl, by simp⟩ ?_ ?_ ?_
    · rintro i l ⟨tk, rfl, -⟩; simp
    · rintro i l oo k1 k2 k3 hi ⟨tk, rfl, hmost⟩ hk1 ok6
      have hstep : ((selK (keysOf S.L) a b).take (i + 1)).filterMap (tellS S t) = ((selK (keysOf S.L) a b).take i).filterMap (tellS S t) ++ (tellS S t ((selK (keysOf S.L) a b).getD i [])).toList := by
        rw [take_snoc [] hi, List.filterMap_append]
        congr 1
      have holen : (((selK (keysOf S.L) a b).take i).filterMap (tellS S t)).length ≤ 500000 := by
        refine Nat.le_trans (List.length_filterMap_le _ _) ?_
        rw [List.length_take]; omega
      have hpre : ∃ x, allS S a b t = ((selK (keysOf S.L) a b).take i).filterMap (tellS S t) ++ x := ⟨((selK (keysOf S.L) a b).drop i).filterMap (tellS S t), by rw [← List.filterMap_append, List.take_append_drop]; rfl⟩
      have h13 := ok6.sub (F := obk (n + 1 + 1 + 1) (.cells [.sl 2 (prs (((selK (keysOf S.L) a b).take i).filterMap (tellS S t))) (.own tk)]) [tk]) (by simp) (n + 1 + 1 + 1) _ (by simp [obk_o]; rfl)
      generalize hO : ((selK (keysOf S.L) a b).take i).filterMap (tellS S t) = O at *
      generalize hq : (selK (keysOf S.L) a b).getD i [] = q at *
      have h5 := ok6.sub (F := ob n (.cells [.ptr s 0])) (by simp) n _ (by simp [ob_o]; rfl)
      have h8 := ok6.sub (F := ob (n + 1) (.cells [.int .i64 t])) (by simp) (n + 1) _ (by simp [ob_o]; rfl)
      have h9 := ok6.sub (F := ob (n + 1 + 1) (.cells [.int .i64 most])) (by simp) (n + 1 + 1) _ (by simp [ob_o]; rfl)
      have gs := ok6.sub (F := F) (by simp) _ _ hs
      have gc := ok6.sub (F := F) (by simp) _ _ hc
      have hat := at_p (mget S.L q) (by have := hS.2 q; omega) t
      have hl := look_sub M q
      rw [hM.eq] at hl
      unfold vAV at hl
      have fit : VSubs [lookAV (.sl 3 [] (.exact 0)) false (mres M q), .int .i64 t] [.sl 3 ((mget S.L q).map encV) .any, .int .i64 t] := VSubs.cons hl (VSubs.refl _)
      have hpl : (prs O).length = O.length := by simp [prs]
      have hks : ks [obk (n + 1 + 1 + 1) (.cells [.sl 2 (prs O) (.own tk)]) [tk], ob (n + 1 + 1) (.cells [.int .i64 most]), ob (n + 1) (.cells [.int .i64 t]), ob n (.cells [.ptr s 0]), F] = [tk] := by simp [ks, ob, obk, hF.k]
      rw [hks] at ok6 ⊢
      have rm1 : (O.length + 1) * 32 ≤ 140737488355328 := by omega
      have rm2 : O.length + 1 < 4611686018427387904 := by omega
      by_cases p0 : 0 ≤ most
      · have c0 := decide_eq_true p0
        by_cases p1 : most ≤ (O.length : Int)
        · have c1 := decide_eq_true p1
          refine Wp.block ?_
          repeat (first
            | ((first | apply Wp.seqItemsR | apply Wp.itemsR); (· simp only [go_sem, reduceIte, Nat.reduceEqDiff, Nat.reduceAdd, bx, ax, if_true, if_false, Nat.reduceMul, Nat.reduceLeDiff, h9, h13, hpl, c0, c1]; exact rfl))
            | (refine WpItems.nil ⟨?_, ?_⟩; (· first | trivial | simp [pairsQ, pairsOk, apart, ent0]))
            | (apply Wp.cond_lit; (· simp only [go_sem, reduceIte, Nat.reduceEqDiff, Nat.reduceAdd, bx, ax, if_true, if_false, Nat.reduceMul, Nat.reduceLeDiff, h9, h13, hpl, c0, c1]; exact rfl); (· rfl))
            | refine Wp.skip ?_
            | refine Wp.label ?_
            | refine Wp.block ?_
            | refine Wp.exit ?_
            | refine Wp.seq ?_)
          refine ⟨_, (On.refl ok6).ends (VSub.refl _) trivial, rfl, tk, ?_⟩
          obtain ⟨x, hx⟩ := hpre
          have : most.toNat = O.length := by omega
          rw [scanB, if_pos h1, cutL, if_neg (by omega), hx, this]
          simp
        · have c1 := decide_eq_false p1
          cases ha : (atB (mget S.L q) t).2 with
          | true =>
            rw [ha] at hat
            repeat (first
              | ((first | apply Wp.seqItemsR | apply Wp.itemsR | ((first
                  | (refine WpItems.pcall ?_ ?_ (hat) ?_; (· simp only [go_sem, reduceIte, Nat.reduceEqDiff, Nat.reduceAdd, bx]); (· simp only [go_sem, reduceIte, Nat.reduceEqDiff, Nat.reduceAdd, bx, List.map]; exact fit))); apply WpItems.evR)); (· simp only [go_sem, reduceIte, Nat.reduceEqDiff, Nat.reduceAdd, bx, ax, if_true, if_false, Nat.reduceMul, Nat.reduceLeDiff, h5, h8, h13, gs, gc, mfind_enc, h9, hpl, c0, c1, rm1, rm2, List.mem_singleton, List.length_cons, List.length_nil]; exact rfl))
              | (refine WpItems.nil ⟨?_, ?_⟩; (· first | trivial | simp [pairsQ, pairsOk, apart, ent0]))
              | (apply Wp.cond_lit; (· simp only [go_sem, reduceIte, Nat.reduceEqDiff, Nat.reduceAdd, bx, ax, if_true, if_false, Nat.reduceMul, Nat.reduceLeDiff, h5, h8, h13, gs, gc, mfind_enc, h9, hpl, c0, c1, rm1, rm2, List.mem_singleton, List.length_cons, List.length_nil]; exact rfl); (· rfl))
              | refine Wp.skip ?_
              | refine Wp.label ?_
              | refine Wp.block ?_
              | refine Wp.exit ?_
              | refine Wp.seq ?_)
            have e13 := Ok.upd_obk (A := [ob k1 oo]) (.cells [.sl 2 (prs (O ++ [⟨q, (atB (mget S.L q) t).1⟩])) (.own k3)]) [k3] ok6
            have on13 := On.put_obk (A := [ob k1 oo]) (o' := .cells [.sl 2 (prs (O ++ [⟨q, (atB (mget S.L q) t).1⟩])) (.own k3)]) ok6
            simp only [List.cons_append, List.nil_append, prs, List.map_append, List.map_cons, List.map_nil, encPr] at e13 on13
            have ft : (([tk] : List Nat).filter fun t => ![tk].contains t) = [] := by simp
            rw [ft] at on13
            refine ⟨[obk (n + 1 + 1 + 1) (.cells [.sl 2 (prs (O ++ [⟨q, (atB (mget S.L q) t).1⟩])) (.own k3)]) [k3], ob (n + 1 + 1) (.cells [.int .i64 most]), ob (n + 1) (.cells [.int .i64 t]), ob n (.cells [.ptr s 0]), F], ?_, k3, ?_, ?_⟩
            · simp only [prs, List.map_append, List.map_cons, List.map_nil, encPr]
              have := on13.ends (QQ := fun _ _ => True) (VSub.refl (.tup [])) trivial
              rw [← e13] at this
              exact this
            · rw [hstep, tellS, if_pos ha]; rfl
            · rw [hstep, tellS, if_pos ha]; simp only [Option.toList_some, List.length_append, List.length_cons, List.length_nil]; omega
          | false =>
            rw [ha] at hat
            repeat (first
              | ((first | apply Wp.seqItemsR | apply Wp.itemsR | ((first
                  | (refine WpItems.pcall ?_ ?_ (hat) ?_; (· simp only [go_sem, reduceIte, Nat.reduceEqDiff, Nat.reduceAdd, bx]); (· simp only [go_sem, reduceIte, Nat.reduceEqDiff, Nat.reduceAdd, bx, List.map]; exact fit))); apply WpItems.evR)); (· simp only [go_sem, reduceIte, Nat.reduceEqDiff, Nat.reduceAdd, bx, ax, if_true, if_false, Nat.reduceMul, Nat.reduceLeDiff, h5, h8, h13, gs, gc, mfind_enc, h9, hpl, c0, c1]; exact rfl))
              | (refine WpItems.nil ⟨?_, ?_⟩; (· first | trivial | simp [pairsQ, pairsOk, apart, ent0]))
              | (apply Wp.cond_lit; (· simp only [go_sem, reduceIte, Nat.reduceEqDiff, Nat.reduceAdd, bx, ax, if_true, if_false, Nat.reduceMul, Nat.reduceLeDiff, h5, h8, h13, gs, gc, mfind_enc, h9, hpl, c0, c1]; exact rfl); (· rfl))
              | refine Wp.skip ?_
              | refine Wp.label ?_
              | refine Wp.block ?_
              | refine Wp.exit ?_
              | refine Wp.seq ?_)
            refine ⟨_, (On.refl ok6).ends (VSub.refl _) trivial, tk, ?_, ?_⟩
            · rw [hstep, tellS, if_neg (by simp [ha])]; simp
            · rw [hstep, tellS, if_neg (by simp [ha])]; simpa using hmost
      · have c0 := decide_eq_false p0
        cases ha : (atB (mget S.L q) t).2 with
        | true =>
          rw [ha] at hat
          repeat (first
            | ((first | apply Wp.seqItemsR | apply Wp.itemsR | ((first
                | (refine WpItems.pcall ?_ ?_ (hat) ?_; (· simp only [go_sem, reduceIte, Nat.reduceEqDiff, Nat.reduceAdd, bx]); (· simp only [go_sem, reduceIte, Nat.reduceEqDiff, Nat.reduceAdd, bx, List.map]; exact fit))); apply WpItems.evR)); (· simp only [go_sem, reduceIte, Nat.reduceEqDiff, Nat.reduceAdd, bx, ax, if_true, if_false, Nat.reduceMul, Nat.reduceLeDiff, h5, h8, h13, gs, gc, mfind_enc, h9, hpl, c0, rm1, rm2, List.mem_singleton, List.length_cons, List.length_nil]; exact rfl))
            | (refine WpItems.nil ⟨?_, ?_⟩; (· first | trivial | simp [pairsQ, pairsOk, apart, ent0]))
            | (apply Wp.cond_lit; (· simp only [go_sem, reduceIte, Nat.reduceEqDiff, Nat.reduceAdd, bx, ax, if_true, if_false, Nat.reduceMul, Nat.reduceLeDiff, h5, h8, h13, gs, gc, mfind_enc, h9, hpl, c0, rm1, rm2, List.mem_singleton, List.length_cons, List.length_nil]; exact rfl); (· rfl))
            | refine Wp.skip ?_
            | refine Wp.label ?_
            | refine Wp.block ?_
            | refine Wp.exit ?_
            | refine Wp.seq ?_)
          have e13 := Ok.upd_obk (A := [ob k1 oo]) (.cells [.sl 2 (prs (O ++ [⟨q, (atB (mget S.L q) t).1⟩])) (.own k3)]) [k3] ok6
          have on13 := On.put_obk (A := [ob k1 oo]) (o' := .cells [.sl 2 (prs (O ++ [⟨q, (atB (mget S.L q) t).1⟩])) (.own k3)]) ok6
          simp only [List.cons_append, List.nil_append, prs, List.map_append, List.map_cons, List.map_nil, encPr] at e13 on13
          have ft : (([tk] : List Nat).filter fun t => ![tk].contains t) = [] := by simp
          rw [ft] at on13
          refine ⟨[obk (n + 1 + 1 + 1) (.cells [.sl 2 (prs (O ++ [⟨q, (atB (mget S.L q) t).1⟩])) (.own k3)]) [k3], ob (n + 1 + 1) (.cells [.int .i64 most]), ob (n + 1) (.cells [.int .i64 t]), ob n (.cells [.ptr s 0]), F], ?_, k3, ?_, ?_⟩
          · simp only [prs, List.map_append, List.map_cons, List.map_nil, encPr]
            have := on13.ends (QQ := fun _ _ => True) (VSub.refl (.tup [])) trivial
            rw [← e13] at this
            exact this
          · rw [hstep, tellS, if_pos ha]; rfl
          · rw [hstep, tellS, if_pos ha]; simp only [Option.toList_some, List.length_append, List.length_cons, List.length_nil]; omega
        | false =>
          rw [ha] at hat
          repeat (first
            | ((first | apply Wp.seqItemsR | apply Wp.itemsR | ((first
                | (refine WpItems.pcall ?_ ?_ (hat) ?_; (· simp only [go_sem, reduceIte, Nat.reduceEqDiff, Nat.reduceAdd, bx]); (· simp only [go_sem, reduceIte, Nat.reduceEqDiff, Nat.reduceAdd, bx, List.map]; exact fit))); apply WpItems.evR)); (· simp only [go_sem, reduceIte, Nat.reduceEqDiff, Nat.reduceAdd, bx, ax, if_true, if_false, Nat.reduceMul, Nat.reduceLeDiff, h5, h8, h13, gs, gc, mfind_enc, h9, hpl, c0]; exact rfl))
            | (refine WpItems.nil ⟨?_, ?_⟩; (· first | trivial | simp [pairsQ, pairsOk, apart, ent0]))
            | (apply Wp.cond_lit; (· simp only [go_sem, reduceIte, Nat.reduceEqDiff, Nat.reduceAdd, bx, ax, if_true, if_false, Nat.reduceMul, Nat.reduceLeDiff, h5, h8, h13, gs, gc, mfind_enc, h9, hpl, c0]; exact rfl); (· rfl))
            | refine Wp.skip ?_
            | refine Wp.label ?_
            | refine Wp.block ?_
            | refine Wp.exit ?_
            | refine Wp.seq ?_)
          refine ⟨_, (On.refl ok6).ends (VSub.refl _) trivial, tk, ?_, ?_⟩
          · rw [hstep, tellS, if_neg (by simp [ha])]; simp
          · rw [hstep, tellS, if_neg (by simp [ha])]; simpa using hmost
    · rintro l1 n' m' on ⟨tk, rfl, hmost⟩
      have hres : ((selK (keysOf S.L) a b).take (selK (keysOf S.L) a b).length).filterMap (tellS S t) = (scanB S a b t most).1 := by
        rw [List.take_length] at hmost ⊢
        rw [scanB, if_pos h1, cutL]
        split
        · rfl
        · rw [List.take_of_length_le]; rfl
          unfold allS; omega
      rw [hres] at on ⊢
      have h13 := on.ok.sub (F := obk (n + 1 + 1 + 1) (.cells [.sl 2 (prs (scanB S a b t most).1) (.own tk)]) [tk]) (by simp) (n + 1 + 1 + 1) _ (by simp [obk_o]; rfl)
      show Wp _ _ _ _ _
      repeat (first
        | ((first | apply Wp.seqItemsR | apply Wp.itemsR); (· simp only [go_sem, reduceIte, Nat.reduceEqDiff, Nat.reduceAdd, bx, ax, if_true, if_false, Nat.reduceMul, Nat.reduceLeDiff, h13]; exact rfl))
        | (refine WpItems.nil ⟨?_, ?_⟩; (· first | trivial | simp [pairsQ, pairsOk, apart, ent0]))
        | (apply Wp.cond_lit; (· simp only [go_sem, reduceIte, Nat.reduceEqDiff, Nat.reduceAdd, bx, ax, if_true, if_false, Nat.reduceMul, Nat.reduceLeDiff, h13]; exact rfl); (· rfl))
        | refine Wp.skip ?_
        | refine Wp.label ?_
        | refine Wp.block ?_
        | refine Wp.exit ?_
        | refine Wp.seq ?_)
      refine Wp.ret ⟨trivial, _, rfl, ?_, fun j hj => ?_, by simp⟩
      · rw [hz]; exact VSub.tup (VSubs.cons VSub.cap (VSubs.refl _))
      · have q1 : j ≠ n := by omega
        have q2 : j ≠ n + 1 := by omega
        have q3 : j ≠ n + 1 + 1 := by omega
        have q4 : j ≠ n + 1 + 1 + 1 := by omega
        simp [lay, ob_o, obk_o, q1, q2, q3, q4]
    · rintro e l1 n' m' on ⟨rfl, tk, rfl⟩
      have h13 := on.ok.sub (F := obk (n + 1 + 1 + 1) (.cells [.sl 2 (prs (scanB S a b t most).1) (.own tk)]) [tk]) (by simp) (n + 1 + 1 + 1) _ (by simp [obk_o]; rfl)
      show Wp _ _ _ _ _
      repeat (first
        | ((first | apply Wp.seqItemsR | apply Wp.itemsR); (· simp only [go_sem, reduceIte, Nat.reduceEqDiff, Nat.reduceAdd, bx, ax, if_true, if_false, Nat.reduceMul, Nat.reduceLeDiff, h13]; exact rfl))
        | (refine WpItems.nil ⟨?_, ?_⟩; (· first | trivial | simp [pairsQ, pairsOk, apart, ent0]))
        | (apply Wp.cond_lit; (· simp only [go_sem, reduceIte, Nat.reduceEqDiff, Nat.reduceAdd, bx, ax, if_true, if_false, Nat.reduceMul, Nat.reduceLeDiff, h13]; exact rfl); (· rfl))
        | refine Wp.skip ?_
        | refine Wp.label ?_
        | refine Wp.block ?_
        | refine Wp.exit ?_
        | refine Wp.seq ?_)
      refine Wp.ret ⟨trivial, _, rfl, ?_, fun j hj => ?_, by simp⟩
      · rw [hz]; exact VSub.tup (VSubs.cons VSub.cap (VSubs.refl _))
      · have q1 : j ≠ n := by omega
        have q2 : j ≠ n + 1 := by omega
        have q3 : j ≠ n + 1 + 1 := by omega
        have q4 : j ≠ n + 1 + 1 + 1 := by omega
        simp [lay, ob_o, obk_o, q1, q2, q3, q4]
  · have d1 := decide_eq_false h1
    have okx := ok
    have ok := ok3
    refine Wp.seq ?_
    repeat (first
      | ((first | apply Wp.seqItemsR | apply Wp.itemsR | ((first
          | (refine WpItems.glook ?_ ?_ (kept_r hF t) (by first | exact fun j o h => h | exact ok.sub (by simp) | assumption) (fun ids => ?_); (· simp only [go_sem, reduceIte, Nat.reduceEqDiff, Nat.reduceAdd, bx]); (· simp only [go_sem, reduceIte, Nat.reduceEqDiff, Nat.reduceAdd, bx, List.map]; first | exact VSubs.refl _ | (repeat (first | exact VSubs.nil | refine VSubs.cons (by first | exact VSub.refl _ | assumption | exact VSub.cap | exact VSub.any _) ?_))))); apply WpItems.evR)); (· simp only [go_sem, reduceIte, Nat.reduceEqDiff, Nat.reduceAdd, bx, ax, if_true, if_false, Nat.reduceMul, Nat.reduceLeDiff, f5, f8, d1]; exact rfl))
      | (refine WpItems.nil ⟨?_, ?_⟩; (· first | trivial | simp [pairsQ, pairsOk, apart, ent0]))
      | (apply Wp.cond_lit; (· simp only [go_sem, reduceIte, Nat.reduceEqDiff, Nat.reduceAdd, bx, ax, if_true, if_false, Nat.reduceMul, Nat.reduceLeDiff, f5, f8, d1]; exact rfl); (· rfl))
      | refine Wp.skip ?_
      | refine Wp.label ?_
      | refine Wp.block ?_
      | refine Wp.exit ?_
      | refine Wp.seq ?_)
    refine Wp.ret ⟨trivial, _, rfl, ?_, fun j hj => ?_, by simp⟩
    · rw [scanB, if_neg h1]; exact VSub.tup (VSubs.cons VSub.cap (VSubs.refl _))
    · have q1 : j ≠ n := by omega
      have q2 : j ≠ n + 1 := by omega
      have q3 : j ≠ n + 1 + 1 := by omega
      simp [lay, ob_o, q1, q2, q3]
end Go.Proofs.Ytpehfflehebmbaa.Space
end
section
set_option linter.unusedSimpArgs false
set_option linter.unusedVariables false
set_option maxRecDepth 10000
namespace Go.Proofs.Ytpehfflehebmbaa.Space
open Go Go.Av Go.Proofs Go.Proofs.Ytpehfflehebmbaa.C Go.Proofs.Ytpehfflehebmbaa.Batch
def encE (E : List (Bs × Nat)) : List (AV × AV) := E.map fun p => (.str p.1, .int .i64 (p.2 : Nat))
theorem fE_no (q : Bs) : ∀ E : List (Bs × Nat), q ∉ E.map (·.1) → mfind q (encE E) = some none
  | [], _ => rfl
  | p :: E, h => by
    simp only [List.map_cons, List.mem_cons, not_or] at h
    have ih := fE_no q E h.2
    simp only [encE, List.map_cons, mfind] at ih ⊢
    rw [if_neg (fun e => h.1 e.symm), ih]; rfl
theorem fE_yes (q : Bs) : ∀ E : List (Bs × Nat), q ∈ E.map (·.1) → ∃ p, mfind q (encE E) = some (some p)
  | [], h => by simp at h
  | p :: E, h => by
    by_cases e : p.1 = q
    · exact ⟨(0, .int .i64 (p.2 : Nat)), by simp only [encE, List.map_cons, mfind, if_pos e]⟩
    · simp only [List.map_cons, List.mem_cons] at h
      obtain ⟨r, hr⟩ := fE_yes q E (h.resolve_left fun e' => e e'.symm)
      refine ⟨(r.1 + 1, r.2), ?_⟩
      simp only [encE, List.map_cons, mfind] at hr ⊢
      rw [if_neg e, hr]; rfl
def fitAt (l : List Ch) (i : Nat) : Bool := !decide ((l.getD i default).k ∈ (l.take i).map (·.k)) && decide (((l.getD i default).k.length : Int) ≤ 128) && decide (((l.getD i default).v.length : Int) ≤ 200) && (!(l.getD i default).d || decide ((l.getD i default).v = []))
def fitB (l : List Ch) : Bool := (List.range l.length).all (fitAt l)
theorem fit_p (l : List Ch) (hl : l.length ≤ 1000000) : PCalls Try.prog 53 [.sl 3 (chs l) .any] (.bool (fitB l)) := by
  refine f53.pcalls0 (by simp) (by simp [allPure, isPure, capPure, chs_pure]) rfl ?_
  unfold c53
  repeat (first
    | ((first | apply Wp.seqItemsR | apply Wp.itemsR); (· simp only [go_sem, reduceIte, Nat.reduceEqDiff, Nat.reduceAdd, bx, ax, if_true, if_false, Nat.reduceMul, Nat.reduceLeDiff, chs_length]; exact rfl))
    | (refine WpItems.nil ⟨?_, ?_⟩; (· first | trivial | simp [pairsQ, pairsOk, apart, ent0]))
    | (apply Wp.cond_lit; (· simp only [go_sem, reduceIte, Nat.reduceEqDiff, Nat.reduceAdd, bx, ax, if_true, if_false, Nat.reduceMul, Nat.reduceLeDiff, chs_length]; exact rfl); (· rfl))
    | refine Wp.skip ?_
    | refine Wp.label ?_
    | refine Wp.block ?_
    | refine Wp.exit ?_
    | refine Wp.seq ?_)
  refine Wp.loopH (β := Nat × List (Bs × Nat) × Nat) [3, 9, 10] (by simp only [go_sem, reduceIte, Nat.reduceEqDiff, List.map, chs_length]; exact rfl) (fun j => [(11, .int .i64 (j.1 : Nat))]) (fun j => ⟨upd none' 0 (some (.map (encE j.2.1))), j.2.2, [], 0⟩) (fun j => j.1 ≤ l.length ∧ j.2.1.map (·.1) = (l.take j.1).map (·.k) ∧ 1 ≤ j.2.2 ∧ ∀ i, i < j.1 → fitAt l i = true) (fun j => l.length - j.1) (0, [], 1) ⟨Nat.zero_le _, rfl, Nat.le_refl _, fun i h => absurd h (by omega)⟩ rfl ?_ ?_
  · simp only [AllSub, go_sem, reduceIte, Nat.reduceEqDiff, Nat.reduceAdd, bx]; and_intros <;> first | exact trivial | exact VSub.refl _ | exact VSub.any _ | (refine VSub.int ?_; omega)
  rintro ⟨j, E, n⟩ ⟨hj, hE, hn, hs⟩
  simp only at hj hE hn hs ⊢
  by_cases hcj : j < l.length
  · have g1 : decide (((j : Nat) : Int) < ((l.length : Nat) : Int)) = true := decide_eq_true (by omega)
    have h2 : (0 : Int) ≤ ((j : Nat) : Int) := by omega
    have h3 : ((j : Nat) : Int) < ((l.length : Nat) : Int) := by omega
    have e1 : IntKind.i64.wrap (((j : Nat) : Int) + 1) = ((j + 1 : Nat) : Int) := by rw [IntWalk.i64_in _ (by omega)]; omega
    have hat := chs_getD l j .any hcj
    have a1 : (0 = n) = False := by simp; omega
    have a2 : (n = 0) = False := by simp; omega
    generalize hx : l.getD j default = x at *
    by_cases ht : x.k ∈ E.map (·.1)
    · obtain ⟨p, hp⟩ := fE_yes x.k E ht
      repeat (first
        | ((first | apply Wp.seqItemsR | apply Wp.itemsR); (· simp only [go_sem, reduceIte, Nat.reduceEqDiff, Nat.reduceAdd, bx, ax, if_true, if_false, Nat.reduceMul, Nat.reduceLeDiff, g1, h2, h3, hat, encCh, a1, a2, hp, chs_length]; exact rfl))
        | (refine WpItems.nil ⟨?_, ?_⟩; (· first | trivial | simp [pairsQ, pairsOk, apart, ent0]))
        | (apply Wp.cond_lit; (· simp only [go_sem, reduceIte, Nat.reduceEqDiff, Nat.reduceAdd, bx, ax, if_true, if_false, Nat.reduceMul, Nat.reduceLeDiff, g1, h2, h3, hat, encCh, a1, a2, hp, chs_length]; exact rfl); (· rfl))
        | refine Wp.skip ?_
        | refine Wp.label ?_
        | refine Wp.block ?_
        | refine Wp.exit ?_
        | refine Wp.seq ?_)
      refine Wp.ret ⟨trivial, _, rfl, ?_⟩
      simp only [go_sem, reduceIte, Nat.reduceEqDiff, Nat.reduceAdd, bx]
      rw [fitB, all_no hcj (by rw [fitAt, hx, ← hE, decide_eq_true ht]; rfl)]
      exact VSub.refl _
    · have hp := fE_no x.k E ht
      repeat (first
        | ((first | apply Wp.seqItemsR | apply Wp.itemsR); (· simp only [go_sem, reduceIte, Nat.reduceEqDiff, Nat.reduceAdd, bx, ax, if_true, if_false, Nat.reduceMul, Nat.reduceLeDiff, g1, h2, h3, hat, encCh, a1, a2, hp, chs_length]; exact rfl))
        | (refine WpItems.nil ⟨?_, ?_⟩; (· first | trivial | simp [pairsQ, pairsOk, apart, ent0]))
        | (apply Wp.cond_lit; (· simp only [go_sem, reduceIte, Nat.reduceEqDiff, Nat.reduceAdd, bx, ax, if_true, if_false, Nat.reduceMul, Nat.reduceLeDiff, g1, h2, h3, hat, encCh, a1, a2, hp, chs_length]; exact rfl); (· rfl))
        | refine Wp.skip ?_
        | refine Wp.label ?_
        | refine Wp.block ?_
        | refine Wp.exit ?_
        | refine Wp.seq ?_)
      repeat' (first
        | (refine WpItems.nil ⟨?_, ?_⟩; (· first | trivial | simp [pairsQ, pairsOk, apart, ent0]))
        | (apply WpItems.evU; (· simp only [go_sem, reduceIte, Nat.reduceEqDiff, Nat.reduceAdd, bx, ax, if_true, if_false, Nat.reduceMul, Nat.reduceLeDiff, a1, a2, e1, hp, putEs, encCh, List.length_map]; exact rfl); (· simp only [go_sem, reduceIte, Nat.reduceEqDiff, Nat.reduceAdd, bx, ax, if_true, if_false, Nat.reduceMul, Nat.reduceLeDiff, a1, a2, e1, hp, putEs, encCh, List.length_map]; exact rfl))
        | (apply WpItems.part 1; (· simp only [go_sem, reduceIte, Nat.reduceEqDiff, Nat.reduceAdd, bx, ax, if_true, if_false, Nat.reduceMul, Nat.reduceLeDiff, a1, a2, e1, hp, putEs, encCh, List.length_map]; exact rfl); (try simp only [List.drop_succ_cons, List.drop_zero, List.drop_nil]))
        | (refine WpItems.gsplit_dec (p := ?_) ?_ (fun hc => ?_) (fun hc => ?_); rotate_left; (· simp only [go_sem, reduceIte, Nat.reduceEqDiff, Nat.reduceAdd, bx, ax, if_true, if_false, Nat.reduceMul, Nat.reduceLeDiff, a1, a2, e1, hp, putEs, encCh, List.length_map]; exact rfl))
        | (refine WpItems.gsplit_ndec (p := ?_) ?_ (fun hc => ?_) (fun hc => ?_); rotate_left; (· simp only [go_sem, reduceIte, Nat.reduceEqDiff, Nat.reduceAdd, bx, ax, if_true, if_false, Nat.reduceMul, Nat.reduceLeDiff, a1, a2, e1, hp, putEs, encCh, List.length_map]; exact rfl))
        | (refine WpItems.gsplit (b := ?_) ?_ (fun hc => ?_) (fun hc => ?_); rotate_left; (· simp only [go_sem, reduceIte, Nat.reduceEqDiff, Nat.reduceAdd, bx, ax, if_true, if_false, Nat.reduceMul, Nat.reduceLeDiff, a1, a2, e1, hp, putEs, encCh, List.length_map]; exact rfl))
        | refine Wp.seqRegS ?_
        | refine Wp.regS ?_
        | (refine Wp.cond_true ?_ ?_; (· simp only [go_sem, reduceIte, Nat.reduceEqDiff, Nat.reduceAdd, bx, ax, if_true, if_false, Nat.reduceMul, Nat.reduceLeDiff, a1, a2, e1, hp, putEs, encCh, List.length_map]))
        | (refine Wp.cond_false ?_ ?_; (· simp only [go_sem, reduceIte, Nat.reduceEqDiff, Nat.reduceAdd, bx, ax, if_true, if_false, Nat.reduceMul, Nat.reduceLeDiff, a1, a2, e1, hp, putEs, encCh, List.length_map]))
        | (refine Wp.cond_dec (p := ?_) ?_ (fun hc => ?_) (fun hc => ?_); rotate_left; (· simp only [go_sem, reduceIte, Nat.reduceEqDiff, Nat.reduceAdd, bx, ax, if_true, if_false, Nat.reduceMul, Nat.reduceLeDiff, a1, a2, e1, hp, putEs, encCh, List.length_map]; exact rfl))
        | (refine Wp.cond_ndec (p := ?_) ?_ (fun hc => ?_) (fun hc => ?_); rotate_left; (· simp only [go_sem, reduceIte, Nat.reduceEqDiff, Nat.reduceAdd, bx, ax, if_true, if_false, Nat.reduceMul, Nat.reduceLeDiff, a1, a2, e1, hp, putEs, encCh, List.length_map]; exact rfl))
        | (refine Wp.cond_split (b := ?_) ?_ (fun hc => ?_) (fun hc => ?_); rotate_left; (· simp only [go_sem, reduceIte, Nat.reduceEqDiff, Nat.reduceAdd, bx, ax, if_true, if_false, Nat.reduceMul, Nat.reduceLeDiff, a1, a2, e1, hp, putEs, encCh, List.length_map]; exact rfl))
        | refine Wp.skip ?_
        | refine Wp.label ?_
        | refine Wp.block ?_
        | refine Wp.exit ?_
        | refine Wp.seq ?_)
      any_goals
        refine Wp.ret ⟨trivial, _, rfl, ?_⟩
        rw [fitB, all_no hcj (by rw [fitAt, hx]; first | (simp_all; done) | (simp_all; intros; exfalso; omega))]
        exact VSub.refl _
      all_goals
        refine ⟨(j + 1, E ++ [(x.k, j)], n + 1), ⟨by simp only; omega, ?_, by simp only; omega, all_step hs ?_⟩, by simp only; omega, ?_⟩
        · simp only [List.map_append, hE, take_snoc default hcj, hx, List.map_cons, List.map_nil]
        · rw [fitAt, hx]; simp_all
        · simp only [encE, List.map_append, List.map_cons, List.map_nil]
          refine StLe.tmN (by omega) (OLe.at (by simp [upd, none', a1, a2])) (by simp only [AllSub, go_sem, reduceIte, Nat.reduceEqDiff, Nat.reduceAdd, bx, a1, a2]; and_intros <;> first | exact trivial | exact VSub.refl _ | exact VSub.any _ | (refine VSub.int ?_; omega))
  · have hje : j = l.length := by omega
    subst hje
    have g1 : decide (((l.length : Nat) : Int) < ((l.length : Nat) : Int)) = false := decide_eq_false (by omega)
    repeat (first
      | ((first | apply Wp.seqItemsR | apply Wp.itemsR); (· simp only [go_sem, reduceIte, Nat.reduceEqDiff, Nat.reduceAdd, bx, ax, if_true, if_false, Nat.reduceMul, Nat.reduceLeDiff, g1]; exact rfl))
      | (refine WpItems.nil ⟨?_, ?_⟩; (· first | trivial | simp [pairsQ, pairsOk, apart, ent0]))
      | (apply Wp.cond_lit; (· simp only [go_sem, reduceIte, Nat.reduceEqDiff, Nat.reduceAdd, bx, ax, if_true, if_false, Nat.reduceMul, Nat.reduceLeDiff, g1]; exact rfl); (· rfl))
      | refine Wp.skip ?_
      | refine Wp.label ?_
      | refine Wp.block ?_
      | refine Wp.exit ?_
      | refine Wp.seq ?_)
    refine Wp.ret ⟨trivial, _, rfl, ?_⟩
    simp only [go_sem, reduceIte, Nat.reduceEqDiff, Nat.reduceAdd, bx]
    rw [fitB, all_yes hs]
    exact VSub.refl _
end Go.Proofs.Ytpehfflehebmbaa.Space
end
section
set_option linter.unusedSimpArgs false
set_option linter.unusedVariables false
set_option maxRecDepth 10000
namespace Go.Proofs.Ytpehfflehebmbaa.Space
open Go Go.Av Go.Proofs Go.Proofs.Ytpehfflehebmbaa.C Go.Proofs.Ytpehfflehebmbaa.Batch
def stepS (t : Int) (S : Spc) (c : Ch) : Spc := setS S c.k (addB (mget S.L c.k) ⟨t, c.v, c.d⟩).1
def doS (t : Int) (S : Spc) (l : List Ch) : Spc := l.foldl (stepS t) S
def applyB (S : Spc) (t : Int) (l : List Ch) : Spc × Int := if t ≤ S.last ∨ 1152921504606846976 < t then (S, 18) else if fitB l = false then (S, 2) else ({ doS t S l with last := t }, 0)
def Room (S : Spc) (k : Nat) : Prop := S.L.length + k ≤ 500000 ∧ ∀ q, (mget S.L q).length + k ≤ 500000
theorem add_len (v : List Ver) (x : Ver) : (addB v x).1.length ≤ v.length + 1 := by
  unfold addB; split
  · simp
  · split
    · simp
    · split <;> simp
theorem setL_len (L : List It) (q : Bs) (v : List Ver) : (setL L q v).length ≤ L.length + 1 := by
  have := plK_le (keysOf L) q
  have hk : (keysOf L).length = L.length := by simp [keysOf]
  unfold setL
  split
  · split <;> simp <;> omega
  · split <;> simp <;> omega
theorem Room.step {S : Spc} {k : Nat} (h : Room S (k + 1)) (hr : RiseL S.L) (t : Int) (c : Ch) : Room (stepS t S c) k := by
  refine ⟨?_, fun q => ?_⟩
  · have := setL_len S.L c.k (addB (mget S.L c.k) ⟨t, c.v, c.d⟩).1
    have := h.1
    show (setL _ _ _).length + k ≤ _
    omega
  · show (mget (setL _ _ _) q).length + k ≤ _
    rw [setL_get hr]
    split
    · have := add_len (mget S.L c.k) ⟨t, c.v, c.d⟩
      have := h.2 c.k
      omega
    · have := h.2 q; omega
theorem do_ok (t : Int) : ∀ (l : List Ch) (S : Spc) (k : Nat), RiseL S.L → Room S (l.length + k) → RiseL (doS t S l).L ∧ Room (doS t S l) k
  | [], S, k, hr, h => ⟨hr, by rw [List.length_nil, Nat.zero_add] at h; exact h⟩
  | c :: l, S, k, hr, h => by
    have h' : Room S ((l.length + k) + 1) := by
      have e : l.length + k + 1 = (c :: l).length + k := by simp only [List.length_cons]; omega
      rw [e]; exact h
    exact do_ok t l (stepS t S c) k (setL_rise hr _ _) (h'.step hr t c)
theorem do_snoc (t : Int) (S : Spc) (l : List Ch) {j : Nat} (h : j < l.length) : doS t S (l.take (j + 1)) = stepS t (doS t S (l.take j)) (l.getD j default) := by
  rw [take_snoc default h, doS, List.foldl_append]; rfl
theorem SpcF.times {s : Nat} {S : Spc} {F : Fr} (hF : SpcF s S F) {K : AV} {c : Nat} {a b : Int} (hs : F.o s = some (.cells [K, .mp c, .int .i64 a, .int .i64 b])) (last mark : Int) : SpcF s { S with last := last, mark := mark } ⟨upd F.o s (some (.cells [K, .mp c, .int .i64 last, .int .i64 mark])), F.k⟩ := by
  obtain ⟨c', M, K', hM, hsc, hs', hc, hK⟩ := hF.go
  rw [hs'] at hs
  simp only [Option.some.injEq, Obj.cells.injEq, List.cons.injEq, AV.mp.injEq, AV.int.injEq, true_and, and_true] at hs
  obtain ⟨rfl, rfl, -, -⟩ := hs
  refine ⟨⟨c, M, K, hM, hsc, by simp [upd], ?_, ?_⟩, hF.k, ?_⟩
  · simp only [upd]; rw [if_neg (Ne.symm hsc)]; exact hc
  · rcases hK with ⟨h1, h2⟩ | ⟨k, h1, h2, h3, h4⟩
    · exact .inl ⟨h1, h2⟩
    · exact .inr ⟨k, h1, by simp only [upd]; rw [if_neg h3]; exact h2, h3, h4⟩
  · obtain ⟨ids, hi⟩ := hF.fin
    refine ⟨s :: ids, fun id h => ?_⟩
    simp only [upd] at h
    split at h
    · rename_i e; simp [e]
    · exact List.mem_cons_of_mem _ (hi id h)
set_option maxHeartbeats 1000000 in
theorem apply_g {s : Nat} {S : Spc} {F : Fr} (hF : SpcF s S F) (hr : RiseL S.L) (t : Int) (l : List Ch) (hl : l.length ≤ 1000000) (hR : Room S l.length) : GCalls Try.prog 15 [.ptr s 0, .int .i64 t, .sl 3 (chs l) .any] [F] (fun r L => r = .int .i64 (applyB S t l).2 ∧ ∃ F', L = [F'] ∧ SpcF s (applyB S t l).1 F') := by
  obtain ⟨c, M, K, hM, hsc, hs, hc, hK⟩ := hF.go
  refine f15.gcalls (by simp) fun n m ok => ?_
  unfold c15
  have fs := ok.at0 hs
  have stop : ∀ (e : Int), applyB S t l = (S, e) → ∃ r l', Av.Ends [F] n m (fun r L => r = .int .i64 (applyB S t l).2 ∧ ∃ F', L = [F'] ∧ SpcF s (applyB S t l).1 F') (.int .i64 e) ⟨lay [F], n, ks [F], m⟩ r l' := by
    intro e h
    rw [h]
    exact ⟨_, _, (On.refl ok).ends (VSub.refl _) ⟨rfl, F, rfl, hF⟩⟩
  by_cases p1 : t ≤ S.last
  · have d1 := decide_eq_true p1
    repeat (first
      | ((first | apply Wp.seqItemsR | apply Wp.itemsR | ((first
          | (refine WpItems.glook ?_ ?_ (made_r hF) (by first | exact fun j o h => h | exact ok.sub (by simp) | assumption) (fun ids => ?_); (· simp only [go_sem, reduceIte, Nat.reduceEqDiff, Nat.reduceAdd, bx]); (· simp only [go_sem, reduceIte, Nat.reduceEqDiff, Nat.reduceAdd, bx, List.map]; first | exact VSubs.refl _ | (repeat (first | exact VSubs.nil | refine VSubs.cons (by first | exact VSub.refl _ | assumption | exact VSub.cap | exact VSub.any _) ?_))))); apply WpItems.evR)); (· simp only [go_sem, reduceIte, Nat.reduceEqDiff, Nat.reduceAdd, bx, ax, if_true, if_false, Nat.reduceMul, Nat.reduceLeDiff, fs, d1]; exact rfl))
      | (refine WpItems.nil ⟨?_, ?_⟩; (· first | trivial | simp [pairsQ, pairsOk, apart, ent0]))
      | (apply Wp.cond_lit; (· simp only [go_sem, reduceIte, Nat.reduceEqDiff, Nat.reduceAdd, bx, ax, if_true, if_false, Nat.reduceMul, Nat.reduceLeDiff, fs, d1]; exact rfl); (· rfl))
      | refine Wp.skip ?_
      | refine Wp.label ?_
      | refine Wp.block ?_
      | refine Wp.exit ?_
      | refine Wp.seq ?_)
    exact Wp.ret ⟨trivial, _, rfl, stop 18 (by rw [applyB, if_pos (.inl p1)])⟩
  · have d1 := decide_eq_false p1
    by_cases p2 : 1152921504606846976 < t
    · have d2 := decide_eq_true p2
      repeat (first
        | ((first | apply Wp.seqItemsR | apply Wp.itemsR | ((first
            | (refine WpItems.glook ?_ ?_ (made_r hF) (by first | exact fun j o h => h | exact ok.sub (by simp) | assumption) (fun ids => ?_); (· simp only [go_sem, reduceIte, Nat.reduceEqDiff, Nat.reduceAdd, bx]); (· simp only [go_sem, reduceIte, Nat.reduceEqDiff, Nat.reduceAdd, bx, List.map]; first | exact VSubs.refl _ | (repeat (first | exact VSubs.nil | refine VSubs.cons (by first | exact VSub.refl _ | assumption | exact VSub.cap | exact VSub.any _) ?_))))); apply WpItems.evR)); (· simp only [go_sem, reduceIte, Nat.reduceEqDiff, Nat.reduceAdd, bx, ax, if_true, if_false, Nat.reduceMul, Nat.reduceLeDiff, fs, d1, d2]; exact rfl))
        | (refine WpItems.nil ⟨?_, ?_⟩; (· first | trivial | simp [pairsQ, pairsOk, apart, ent0]))
        | (apply Wp.cond_lit; (· simp only [go_sem, reduceIte, Nat.reduceEqDiff, Nat.reduceAdd, bx, ax, if_true, if_false, Nat.reduceMul, Nat.reduceLeDiff, fs, d1, d2]; exact rfl); (· rfl))
        | refine Wp.skip ?_
        | refine Wp.label ?_
        | refine Wp.block ?_
        | refine Wp.exit ?_
        | refine Wp.seq ?_)
      exact Wp.ret ⟨trivial, _, rfl, stop 18 (by rw [applyB, if_pos (.inr p2)])⟩
    · have d2 := decide_eq_false p2
      have hfit := fit_p l hl
      cases hf : fitB l with
      | false =>
        rw [hf] at hfit
        repeat (first
          | ((first | apply Wp.seqItemsR | apply Wp.itemsR | ((first
              | (refine WpItems.glook ?_ ?_ (made_r hF) (by first | exact fun j o h => h | exact ok.sub (by simp) | assumption) (fun ids => ?_); (· simp only [go_sem, reduceIte, Nat.reduceEqDiff, Nat.reduceAdd, bx]); (· simp only [go_sem, reduceIte, Nat.reduceEqDiff, Nat.reduceAdd, bx, List.map]; first | exact VSubs.refl _ | (repeat (first | exact VSubs.nil | refine VSubs.cons (by first | exact VSub.refl _ | assumption | exact VSub.cap | exact VSub.any _) ?_))))
              | (refine WpItems.pcall ?_ ?_ (hfit) ?_; (· simp only [go_sem, reduceIte, Nat.reduceEqDiff, Nat.reduceAdd, bx]); (· simp only [go_sem, reduceIte, Nat.reduceEqDiff, Nat.reduceAdd, bx, List.map]; first | exact VSubs.refl _ | (repeat (first | exact VSubs.nil | refine VSubs.cons (by first | exact VSub.refl _ | assumption | exact VSub.cap | exact VSub.any _) ?_))))); apply WpItems.evR)); (· simp only [go_sem, reduceIte, Nat.reduceEqDiff, Nat.reduceAdd, bx, ax, if_true, if_false, Nat.reduceMul, Nat.reduceLeDiff, fs, d1, d2]; exact rfl))
          | (refine WpItems.nil ⟨?_, ?_⟩; (· first | trivial | simp [pairsQ, pairsOk, apart, ent0]))
          | (apply Wp.cond_lit; (· simp only [go_sem, reduceIte, Nat.reduceEqDiff, Nat.reduceAdd, bx, ax, if_true, if_false, Nat.reduceMul, Nat.reduceLeDiff, fs, d1, d2]; exact rfl); (· rfl))
          | refine Wp.skip ?_
          | refine Wp.label ?_
          | refine Wp.block ?_
          | refine Wp.exit ?_
          | refine Wp.seq ?_)
        exact Wp.ret ⟨trivial, _, rfl, stop 2 (by rw [applyB, if_neg (by omega), if_pos hf])⟩
      | true =>
        rw [hf] at hfit
        repeat (first
          | ((first | apply Wp.seqItemsR | apply Wp.itemsR | ((first
              | (refine WpItems.glook ?_ ?_ (made_r hF) (by first | exact fun j o h => h | exact ok.sub (by simp) | assumption) (fun ids => ?_); (· simp only [go_sem, reduceIte, Nat.reduceEqDiff, Nat.reduceAdd, bx]); (· simp only [go_sem, reduceIte, Nat.reduceEqDiff, Nat.reduceAdd, bx, List.map]; first | exact VSubs.refl _ | (repeat (first | exact VSubs.nil | refine VSubs.cons (by first | exact VSub.refl _ | assumption | exact VSub.cap | exact VSub.any _) ?_))))
              | (refine WpItems.pcall ?_ ?_ (hfit) ?_; (· simp only [go_sem, reduceIte, Nat.reduceEqDiff, Nat.reduceAdd, bx]); (· simp only [go_sem, reduceIte, Nat.reduceEqDiff, Nat.reduceAdd, bx, List.map]; first | exact VSubs.refl _ | (repeat (first | exact VSubs.nil | refine VSubs.cons (by first | exact VSub.refl _ | assumption | exact VSub.cap | exact VSub.any _) ?_))))); apply WpItems.evR)); (· simp only [go_sem, reduceIte, Nat.reduceEqDiff, Nat.reduceAdd, bx, ax, if_true, if_false, Nat.reduceMul, Nat.reduceLeDiff, fs, d1, d2, chs_length]; exact rfl))
          | (refine WpItems.nil ⟨?_, ?_⟩; (· first | trivial | simp [pairsQ, pairsOk, apart, ent0]))
          | (apply Wp.cond_lit; (· simp only [go_sem, reduceIte, Nat.reduceEqDiff, Nat.reduceAdd, bx, ax, if_true, if_false, Nat.reduceMul, Nat.reduceLeDiff, fs, d1, d2, chs_length]; exact rfl); (· rfl))
          | refine Wp.skip ?_
          | refine Wp.label ?_
          | refine Wp.block ?_
          | refine Wp.exit ?_
          | refine Wp.seq ?_)
        refine Wp.loopG (β := Nat) [0, 1, 30, 31] (by simp only [go_sem, reduceIte, Nat.reduceEqDiff, List.map, chs_length]; exact rfl) (fun i => [(32, .int .i64 (i : Nat))]) (fun i L => i ≤ l.length ∧ ∃ F', L = [F'] ∧ SpcF s (doS t S (l.take i)) F') (fun i => l.length - i) 0 ⟨Nat.zero_le _, F, rfl, hF⟩ ok (by simp only [AllSub, go_sem, reduceIte, Nat.reduceEqDiff]; exact ⟨VSub.refl _, trivial⟩) ?_
        rintro i L n1 T1 m1 on ⟨hi, F', rfl, hF'⟩
        obtain ⟨c', M', K', hM', hsc', hs', hc', hK'⟩ := hF'.go
        by_cases hi2 : i < l.length
        · have g1 : decide (((i : Nat) : Int) < ((l.length : Nat) : Int)) = true := decide_eq_true (by omega)
          have h2 : (0 : Int) ≤ ((i : Nat) : Int) := by omega
          have h3 : ((i : Nat) : Int) < ((l.length : Nat) : Int) := by omega
          have e1 : IntKind.i64.wrap (((i : Nat) : Int) + 1) = ((i + 1 : Nat) : Int) := by rw [IntWalk.i64_in _ (by omega)]; omega
          have hat := chs_getD l i .any hi2
          have hdo := do_snoc t S l hi2
          obtain ⟨hr', hR'⟩ := do_ok t (l.take i) S (l.length - i) hr (by rw [List.length_take, show min i l.length + (l.length - i) = l.length by omega]; exact hR)
          generalize l.getD i default = x at *
          generalize doS t S (l.take i) = S' at *
          have ok2 := on.ok.more (.cells [.str x.k, .str x.v, .bool x.d])
          have gs := ok2.sub (F := F') (by simp) _ _ hs'
          have gc := ok2.sub (F := F') (by simp) _ _ hc'
          have g8 := lay_ob_at n1 (.cells [.str x.k, .str x.v, .bool x.d]) [F']
          repeat (first
            | ((first | apply Wp.seqItemsR | apply Wp.itemsR); (· simp only [go_sem, reduceIte, Nat.reduceEqDiff, Nat.reduceAdd, bx, ax, if_true, if_false, Nat.reduceMul, Nat.reduceLeDiff, g1, h2, h3, hat, chs_length, encCh]; exact rfl))
            | (refine WpItems.nil ⟨?_, ?_⟩; (· first | trivial | simp [pairsQ, pairsOk, apart, ent0]))
            | (apply Wp.cond_lit; (· simp only [go_sem, reduceIte, Nat.reduceEqDiff, Nat.reduceAdd, bx, ax, if_true, if_false, Nat.reduceMul, Nat.reduceLeDiff, g1, h2, h3, hat, chs_length, encCh]; exact rfl); (· rfl))
            | refine Wp.skip ?_
            | refine Wp.label ?_
            | refine Wp.block ?_
            | refine Wp.exit ?_
            | refine Wp.seq ?_)
          rw [upd_new, upd_ob]
          have hadd := add_p (mget S'.L x.k) (by have := hR'.2 x.k; omega) ⟨t, x.v, x.d⟩
          have hlk := look_sub M' x.k
          rw [hM'.eq] at hlk
          unfold vAV at hlk
          have fit : VSubs [lookAV (.sl 3 [] (.exact 0)) false (mres M' x.k), .agg [.int .i64 t, .str x.v, .bool x.d]] [.sl 3 ((mget S'.L x.k).map encV) .any, encV ⟨t, x.v, x.d⟩] := VSubs.cons hlk (VSubs.refl _)
          repeat (first
            | ((first | apply Wp.seqItemsR | apply Wp.itemsR | ((first
                | (refine WpItems.pcall ?_ ?_ (hadd) ?_; (· simp only [go_sem, reduceIte, Nat.reduceEqDiff, Nat.reduceAdd, bx]); (· simp only [go_sem, reduceIte, Nat.reduceEqDiff, Nat.reduceAdd, bx, List.map]; exact fit))); apply WpItems.evR)); (· simp only [go_sem, reduceIte, Nat.reduceEqDiff, Nat.reduceAdd, bx, ax, if_true, if_false, Nat.reduceMul, Nat.reduceLeDiff, gs, gc, g8, mfind_enc]; exact rfl))
            | (refine WpItems.nil ⟨?_, ?_⟩; (· first | trivial | simp [pairsQ, pairsOk, apart, ent0]))
            | (apply Wp.cond_lit; (· simp only [go_sem, reduceIte, Nat.reduceEqDiff, Nat.reduceAdd, bx, ax, if_true, if_false, Nat.reduceMul, Nat.reduceLeDiff, gs, gc, g8, mfind_enc]; exact rfl); (· rfl))
            | refine Wp.skip ?_
            | refine Wp.label ?_
            | refine Wp.block ?_
            | refine Wp.exit ?_
            | refine Wp.seq ?_)
          refine WpItems.gcall [_] [F'] [] (by simp only [go_sem]) (by simp only [go_sem, reduceIte, Nat.reduceEqDiff, List.map]; exact VSubs.refl _) (set_g hF' hr' (by have := hR'.1; omega) x.k (addB (mget S'.L x.k) ⟨t, x.v, x.d⟩).1) ok2 fun r G' n' m' ids hq hn' hm' ok3 wi ki => ?_
          obtain ⟨rfl, F2, rfl, hF2⟩ := hq
          have on2 : On [F'] n1 m1 [F2] n' _ m' := On.under ⟨hn', hm', ok3, wi, ki⟩
          refine WpItems.evR (by simp only [go_sem, reduceIte, Nat.reduceEqDiff, Nat.reduceAdd, bx]; exact rfl) ?_
          refine WpItems.nil ⟨by trivial, ?_⟩
          repeat (first
            | ((first | apply Wp.seqItemsR | apply Wp.itemsR); (· simp only [go_sem, reduceIte, Nat.reduceEqDiff, Nat.reduceAdd, bx, ax, if_true, if_false, Nat.reduceMul, Nat.reduceLeDiff, e1]; exact rfl))
            | (refine WpItems.nil ⟨?_, ?_⟩; (· first | trivial | simp [pairsQ, pairsOk, apart, ent0]))
            | (apply Wp.cond_lit; (· simp only [go_sem, reduceIte, Nat.reduceEqDiff, Nat.reduceAdd, bx, ax, if_true, if_false, Nat.reduceMul, Nat.reduceLeDiff, e1]; exact rfl); (· rfl))
            | refine Wp.skip ?_
            | refine Wp.label ?_
            | refine Wp.block ?_
            | refine Wp.exit ?_
            | refine Wp.seq ?_)
          refine ⟨i + 1, [F2], n', _, m', on2, ⟨by omega, F2, rfl, ?_⟩, by omega, ?_⟩
          · rw [hdo]; exact hF2
          · refine StLe.of (tm_le ?_) (ole_drop_ob (Ok.alone ok3)) (fun _ h => h) (Nat.le_refl _) (Nat.le_refl _)
            simp only [AllSub, go_sem, reduceIte, Nat.reduceEqDiff, Nat.reduceAdd, bx]; and_intros <;> first | exact trivial | exact VSub.refl _ | exact VSub.any _ | (refine VSub.int ?_; omega)
        · have hie : i = l.length := by omega
          subst hie
          have g1 : decide (((l.length : Nat) : Int) < ((l.length : Nat) : Int)) = false := decide_eq_false (by omega)
          rw [List.take_length] at hF' hs'
          have gs := on.ok.at0 hs'
          have hres : applyB S t l = ({ doS t S l with last := t }, 0) := by rw [applyB, if_neg (by omega), if_neg (by simp [hf])]
          repeat (first
            | ((first | apply Wp.seqItemsR | apply Wp.itemsR); (· simp only [go_sem, reduceIte, Nat.reduceEqDiff, Nat.reduceAdd, bx, ax, if_true, if_false, Nat.reduceMul, Nat.reduceLeDiff, g1, gs]; exact rfl))
            | (refine WpItems.nil ⟨?_, ?_⟩; (· first | trivial | simp [pairsQ, pairsOk, apart, ent0]))
            | (apply Wp.cond_lit; (· simp only [go_sem, reduceIte, Nat.reduceEqDiff, Nat.reduceAdd, bx, ax, if_true, if_false, Nat.reduceMul, Nat.reduceLeDiff, g1, gs]; exact rfl); (· rfl))
            | refine Wp.skip ?_
            | refine Wp.label ?_
            | refine Wp.block ?_
            | refine Wp.exit ?_
            | refine Wp.seq ?_)
          have on3 := on.step (On.put (o := .cells [K', .mp c', .int .i64 t, .int .i64 (doS t S l).mark]) on.ok (by rw [hs']; rfl))
          have hF3 := hF'.times hs' t (doS t S l).mark
          refine Wp.ret ⟨trivial, .int .i64 0, rfl, .int .i64 (applyB S t l).2, [⟨upd F'.o s (some (.cells [K', .mp c', .int .i64 t, .int .i64 (doS t S l).mark])), F'.k⟩], ?_⟩
          rw [upd_lay]
          refine on3.ends (by rw [hres]; exact VSub.refl _) ⟨rfl, _, rfl, ?_⟩
          rw [hres]; exact hF3
end Go.Proofs.Ytpehfflehebmbaa.Space
end
section
set_option linter.unusedVariables false
set_option linter.unusedSimpArgs false
namespace Go.Av
section
variable {P : Program}
theorem ACalls.lookT {f : FuncId} {xs ys args : List AV} {sz k : Nat} (hc : ∀ n m, ACalls P f (.sl 1 xs .any :: args) (H0 n m) (.tsl sz n 0 k none) (.only (upd none' n (some (.cells ys))) [] (n + 1) m)) (hp : ∀ G G' w vs, VRels G w ys vs → VRels G' w ys vs) (c : Option Nat) (id n m : Nat) (hid : id < n) :
    ACalls P f (.tsl 1 id 0 xs.length c :: args) (.only (upd none' id (some (.cells xs))) [] n m) (.tsl sz n 0 k none) (.only (upd (upd none' id (some (.cells xs))) n (some (.cells ys))) [] (n + 1) m) := by
  intro G w vs hv R F
  have ho : (H.only (upd none' id (some (.cells xs))) [] n m).objs id = some (.cells xs) := by simp [H.only, upd]
  have hv' : VRels (G.frz (H.only (upd none' id (some (.cells xs))) [] n m) fun _ => true) w (.sl 1 xs .any :: args) vs := by
    simp only [VRels] at hv ⊢
    obtain ⟨v, us, e, h1, h2⟩ := hv
    refine ⟨v, us, e, ?_, VRels.mono R (frz_trans _) _ _ h2⟩
    have := frz_tsl R (d := fun _ => true) ho rfl (by omega) h1
    simpa using this
  refine (hc n m _ w vs hv' only_rep F).mono ?_
  rintro e w' ⟨v, G', rfl, T, R', V⟩
  obtain ⟨q1, q2, q3, q4⟩ := R.obj id _ ho
  have hne : ∀ B, ¬ (H.only (upd none' id (some (.cells xs))) [] n m).O G B → B ≠ G.ι id := fun B h1 e => h1 ⟨id, _, ho, e.symm⟩
  have hDO : ∀ B, ¬ (H.only (upd none' id (some (.cells xs))) [] n m).O G B → ¬ (H.only (upd none' id (some (.cells xs))) [] n m).DO G (fun _ => true) B := fun B h1 h2 => h1 (DO_O h2)
  have hT : ∀ {G : Ghost} B, ¬ (H0 n m).T G B := fun B ⟨t, ht, _⟩ => by simp [H0, H.only] at ht
  have hι : G'.ι id = G.ι id := T.ι_eq id q1
  have hnew : ¬ G'.ι n < w.heap.size := fun hlt => only_O (G := G.frz (H.only (upd none' id (some (.cells xs))) [] n m) fun _ => true) (G'.ι n) (T.O_new _ hlt ⟨n, .cells ys, by simp [H.only, upd], rfl⟩)
  have hnid : G'.ι n ≠ G.ι id := fun e => hnew (by rw [e]; exact q3)
  have hj2 : ∀ j o, (H.only (upd (upd none' id (some (.cells xs))) n (some (.cells ys))) [] (n + 1) m).objs j = some o → (j = n ∧ o = .cells ys) ∨ (j = id ∧ o = .cells xs) := by
    intro j o hj
    simp only [H.only, upd, none'] at hj
    split at hj
    · cases hj; exact .inl ⟨‹_›, rfl⟩
    · split at hj
      · cases hj; exact .inr ⟨‹_›, rfl⟩
      · cases hj
  let G3 : Ghost := { own := fun B => B = G.ι id ∨ G'.own B, lim := fun B => if B = G.ι id then G.lim B else G'.lim B, dom := G'.dom, ι := G'.ι, tdom := G'.tdom, τ := G'.τ }
  have T3 : Trans G w (H.only (upd none' id (some (.cells xs))) [] n m) G3 w' (H.only (upd (upd none' id (some (.cells xs))) n (some (.cells ys))) [] (n + 1) m) := by
    constructor
    · exact T.dom_le
    · exact T.dom_new
    · exact T.ι_eq
    · exact T.tdom_le
    · exact T.tdom_new
    · exact T.τ_eq
    · exact Nat.le_succ _
    · exact Nat.le_refl _
    · exact T.size_le
    · exact T.os
    · exact T.output
    · exact T.form
    · exact fun B hB _ _ => T.keep B hB (only_O B) (hT B)
    · intro B hB h1
      have e1 := T.own_keep B hB (only_O B)
      have e2 := hDO B h1
      have e3 := hne B h1
      simp only [G3, e3, false_or, e1, Ghost.frz, e2, not_false_eq_true, and_true]
    · intro B hB h1 _
      have e1 := T.lim_keep B hB (only_O B) (hT B)
      have e2 := hDO B h1
      have e3 := hne B h1
      simp only [G3, e3, if_false, e1, Ghost.frz, e2]
    · exact fun B hB x => absurd x (only_T0 B)
    · rintro B hB ⟨j, o, h1, h2⟩
      rcases hj2 j o h1 with ⟨rfl, -⟩ | ⟨rfl, -⟩
      · exact absurd (by rw [show G'.ι j = B from h2]; exact hB) hnew
      · exact ⟨j, _, ho, by rw [← h2]; exact hι.symm⟩
    · exact fun B _ x => absurd x (only_T0 B)
    · intro j o h1
      rcases hj2 j o h1 with ⟨rfl, -⟩ | ⟨rfl, -⟩
      · exact .inr ⟨Nat.le_refl _, Nat.lt_succ_self _⟩
      · exact .inl ⟨_, ho⟩
    · exact fun t x => by simp [H.only] at x
  refine ⟨v, G3, rfl, T3, ?_, ?_⟩
  · refine ⟨fun j o hj => ?_, fun i j o o' a b e => ?_, fun t ht => by simp [H.only] at ht, fun t ht => by simp [H.only] at ht⟩
    · rcases hj2 j o hj with ⟨rfl, rfl⟩ | ⟨rfl, rfl⟩
      · obtain ⟨p1, p2, p3, p4⟩ := R'.obj j (.cells ys) (by simp [H.only, upd])
        refine ⟨p1, .inr p2, p3, ?_⟩
        obtain ⟨vs, rest, T', fr, y1, y2, y3⟩ := p4
        exact ⟨vs, rest, T', fr, y1, hp _ _ _ _ y2, y3⟩
      · refine ⟨T.dom_le _ q1, .inl hι, by show G'.ι j < _; rw [hι]; exact Nat.lt_of_lt_of_le q3 T.size_le, ?_⟩
        have hk : w'.heap[G'.ι j]? = w.heap[G.ι j]? := by rw [hι]; exact T.keep _ q3 (only_O _) (hT _)
        show ORel G3 w' _ w'.heap[G'.ι j]?
        rw [hk]
        obtain ⟨vs, rest, T', fr, y1, y2, y3⟩ := q4
        exact ⟨vs, rest, T', fr, y1, VRels.mono R T3 _ _ y2, y3⟩
    · have e' : G'.ι i = G'.ι j := e
      rcases hj2 i o a with ⟨rfl, -⟩ | ⟨rfl, -⟩ <;> rcases hj2 j o' b with ⟨rfl, -⟩ | ⟨rfl, -⟩
      · rfl
      · exact absurd (e'.trans hι) hnid
      · exact absurd (e'.symm.trans hι) hnid
      · rfl
  · unfold VRel at V ⊢
    exact V
end
end Go.Av
end
section
set_option linter.unusedSimpArgs false
set_option linter.unusedVariables false
set_option maxRecDepth 10000
namespace Go.Proofs.Ytpehfflehebmbaa.Reads
open Go Go.Av Go.Proofs Go.Proofs.Ytpehfflehebmbaa.C Go.Proofs.Ytpehfflehebmbaa.Batch
def spOk (l : List Sp) (i : Nat) : Bool := hasB (l.getD i default) && (decide (i = 0) || apartB (l.getD (i - 1) default) (l.getD i default))
def kOk (k : List Bs) (l : List Sp) (i : Nat) : Bool := (decide (i = 0) || Op.bytesLess (k.getD (i - 1) []) (k.getD i [])) && !spanned l (k.getD i [])
def spsOk (l : List Sp) : Bool := (List.range l.length).all (spOk l)
def ksOk (k : List Bs) (l : List Sp) : Bool := (List.range k.length).all (kOk k l)
def checkB (k : List Bs) (l : List Sp) : Bool := decide (k.length ≤ 64) && decide (l.length ≤ 64) && spsOk l && ksOk k l
theorem all_no {p : Nat → Bool} {n j : Nat} (h : j < n) (hp : p j = false) : (List.range n).all p = false := List.all_eq_false.2 ⟨j, List.mem_range.2 h, by simp [hp]⟩
theorem all_yes {p : Nat → Bool} {n : Nat} (h : ∀ i, i < n → p i = true) : (List.range n).all p = true := List.all_eq_true.2 fun i hi => h i (List.mem_range.1 hi)
theorem check_p (k : List Bs) (l : List Sp) : PCalls Try.prog 43 [encR k l] (.int .i64 (if checkB k l then 0 else 4)) := by
  refine f43.pcalls0 (by simp) (by simp [allPure, encR_pure]) rfl ?_
  unfold c43
  refine Wp.seqReg (by simp only [go_sem, reduceIte, Nat.reduceEqDiff, Nat.reduceAdd, bx, encR]; exact rfl) (by trivial) ?_
  refine Wp.frz (fun _ => true) [(1, .ref [.sl 1 (strs k) .any, .sl 2 (sps l) .any])] ⟨none', 1, [], 0⟩ ?_ (OLe.none _) (by simp) (by simp [go_sem]) (Nat.le_refl _) ?_
  · simp only [AllSub, go_sem, reduceIte, Nat.reduceEqDiff, unT, and_true]
    exact VSub.refl _
  by_cases b1 : k.length ≤ 64
  rotate_left
  · have d1 : decide ((64 : Int) < (k.length : Int)) = true := decide_eq_true (by omega)
    repeat (first
      | ((first | apply Wp.seqItems | apply Wp.items); (· simp only [go_sem, reduceIte, Nat.reduceEqDiff, Nat.reduceAdd, bx, ax, if_true, if_false, Nat.reduceMul, Nat.reduceLeDiff, d1, strs_length]; exact rfl))
      | (refine WpItems.nil ⟨?_, ?_⟩; (· first | trivial | simp [pairsQ, pairsOk, apart, ent0]))
      | (apply Wp.cond_lit; (· simp only [go_sem, reduceIte, Nat.reduceEqDiff, Nat.reduceAdd, bx, ax, if_true, if_false, Nat.reduceMul, Nat.reduceLeDiff, d1, strs_length]; exact rfl); (· rfl))
      | refine Wp.skip ?_
      | refine Wp.label ?_
      | refine Wp.block ?_
      | refine Wp.exit ?_
      | refine Wp.seq ?_)
    refine Wp.ret ⟨trivial, _, rfl, ?_⟩
    simp only [go_sem, reduceIte, Nat.reduceEqDiff, Nat.reduceAdd, bx]
    simp only [checkB, decide_eq_false b1, Bool.false_and, Bool.false_eq_true, if_false]
    exact VSub.refl _
  have d1 : decide ((64 : Int) < (k.length : Int)) = false := decide_eq_false (by omega)
  by_cases b2 : l.length ≤ 64
  rotate_left
  · have d2 : decide ((64 : Int) < (l.length : Int)) = true := decide_eq_true (by omega)
    repeat (first
      | ((first | apply Wp.seqItems | apply Wp.items); (· simp only [go_sem, reduceIte, Nat.reduceEqDiff, Nat.reduceAdd, bx, ax, if_true, if_false, Nat.reduceMul, Nat.reduceLeDiff, d1, d2, strs_length, sps_length]; exact rfl))
      | (refine WpItems.nil ⟨?_, ?_⟩; (· first | trivial | simp [pairsQ, pairsOk, apart, ent0]))
      | (apply Wp.cond_lit; (· simp only [go_sem, reduceIte, Nat.reduceEqDiff, Nat.reduceAdd, bx, ax, if_true, if_false, Nat.reduceMul, Nat.reduceLeDiff, d1, d2, strs_length, sps_length]; exact rfl); (· rfl))
      | refine Wp.skip ?_
      | refine Wp.label ?_
      | refine Wp.block ?_
      | refine Wp.exit ?_
      | refine Wp.seq ?_)
    refine Wp.ret ⟨trivial, _, rfl, ?_⟩
    simp only [go_sem, reduceIte, Nat.reduceEqDiff, Nat.reduceAdd, bx]
    simp only [checkB, decide_eq_false b2, Bool.and_false, Bool.false_and, Bool.false_eq_true, if_false]
    exact VSub.refl _
  have d2 : decide ((64 : Int) < (l.length : Int)) = false := decide_eq_false (by omega)
  repeat (first
    | ((first | apply Wp.seqItems | apply Wp.items); (· simp only [go_sem, reduceIte, Nat.reduceEqDiff, Nat.reduceAdd, bx, ax, if_true, if_false, Nat.reduceMul, Nat.reduceLeDiff, d1, d2, strs_length, sps_length]; exact rfl))
    | (refine WpItems.nil ⟨?_, ?_⟩; (· first | trivial | simp [pairsQ, pairsOk, apart, ent0]))
    | (apply Wp.cond_lit; (· simp only [go_sem, reduceIte, Nat.reduceEqDiff, Nat.reduceAdd, bx, ax, if_true, if_false, Nat.reduceMul, Nat.reduceLeDiff, d1, d2, strs_length, sps_length]; exact rfl); (· rfl))
    | refine Wp.skip ?_
    | refine Wp.label ?_
    | refine Wp.block ?_
    | refine Wp.exit ?_
    | refine Wp.seq ?_)
  refine Wp.loopN [1, 18, 19] (by simp only [go_sem, reduceIte, Nat.reduceEqDiff, List.map, sps_length]; exact rfl) (fun j : Nat => [(20, .int .i64 j)]) (fun j => j ≤ l.length ∧ ∀ i, i < j → spOk l i = true) (fun j => l.length - j) 0 ⟨Nat.zero_le _, fun i h => absurd h (by omega)⟩ ?_ ?_
  · simp only [AllSub, go_sem, reduceIte, Nat.reduceEqDiff, Nat.reduceAdd, bx]; and_intros <;> first | exact trivial | exact VSub.refl _ | exact VSub.any _ | (refine VSub.int ?_; omega)
  rintro j n hn ⟨hj, hs⟩
  by_cases hc : j < l.length
  · have g1 : decide ((j : Int) < (l.length : Int)) = true := decide_eq_true (by omega)
    have h2 : (0 : Int) ≤ (j : Int) := by omega
    have h3 : (j : Int) < (l.length : Int) := by omega
    have e1 : IntKind.i64.wrap ((j : Int) + 1) = ((j + 1 : Nat) : Int) := by rw [IntWalk.i64_in _ (by omega)]; omega
    have key : ∀ {b : Bool}, spOk l j = b → (b = true → ∀ i, i < j + 1 → spOk l i = true) ∧ (b = false → checkB k l = false) := by
      intro b hb
      refine ⟨fun h i hi => ?_, fun h => ?_⟩
      · by_cases e : i = j
        · subst e; rw [hb, h]
        · exact hs i (by omega)
      · have : spsOk l = false := all_no hc (hb.trans h)
        simp [checkB, this]
    cases ha : hasB (l.getD j default) with
    | false =>
      have q := (key (b := false) (by simp only [spOk, ha, Bool.false_and])).2 rfl
      repeat (first
        | ((first | apply Wp.seqItems | apply Wp.items | ((first
            | (refine WpItems.pcall ?_ ?_ (has_p (l.getD j default)) ?_; (· simp only [go_sem, reduceIte, Nat.reduceEqDiff, Nat.reduceAdd, bx]); (· simp only [go_sem, reduceIte, Nat.reduceEqDiff, Nat.reduceAdd, bx, List.map]; first | exact VSubs.refl _ | (repeat (first | exact VSubs.nil | refine VSubs.cons (by first | exact VSub.refl _ | assumption | exact VSub.cap | exact VSub.any _) ?_))))); apply WpItems.eval)); (· simp only [go_sem, reduceIte, Nat.reduceEqDiff, Nat.reduceAdd, bx, ax, if_true, if_false, Nat.reduceMul, Nat.reduceLeDiff, g1, h2, h3, e1, sps_length, Int.toNat_natCast, sps_getD _ _ _ hc, encSp, ha]; exact rfl))
        | (refine WpItems.nil ⟨?_, ?_⟩; (· first | trivial | simp [pairsQ, pairsOk, apart, ent0]))
        | (apply Wp.cond_lit; (· simp only [go_sem, reduceIte, Nat.reduceEqDiff, Nat.reduceAdd, bx, ax, if_true, if_false, Nat.reduceMul, Nat.reduceLeDiff, g1, h2, h3, e1, sps_length, Int.toNat_natCast, sps_getD _ _ _ hc, encSp, ha]; exact rfl); (· rfl))
        | refine Wp.skip ?_
        | refine Wp.label ?_
        | refine Wp.block ?_
        | refine Wp.exit ?_
        | refine Wp.seq ?_)
      refine Wp.ret ⟨trivial, _, rfl, ?_⟩
      simp only [go_sem, reduceIte, Nat.reduceEqDiff, Nat.reduceAdd, bx]
      simp only [q, Bool.false_eq_true, if_false]
      exact VSub.refl _
    | true =>
      by_cases hz : j = 0
      · have g2 : decide ((0 : Int) < (j : Int)) = false := decide_eq_false (by omega)
        have q := (key (b := true) (by simp only [spOk, ha, hz, decide_true, Bool.true_or, Bool.and_self] at ha ⊢; simp only [ha, Bool.and_self])).1 rfl
        repeat (first
          | ((first | apply Wp.seqItems | apply Wp.items | ((first
              | (refine WpItems.pcall ?_ ?_ (has_p (l.getD j default)) ?_; (· simp only [go_sem, reduceIte, Nat.reduceEqDiff, Nat.reduceAdd, bx]); (· simp only [go_sem, reduceIte, Nat.reduceEqDiff, Nat.reduceAdd, bx, List.map]; first | exact VSubs.refl _ | (repeat (first | exact VSubs.nil | refine VSubs.cons (by first | exact VSub.refl _ | assumption | exact VSub.cap | exact VSub.any _) ?_))))); apply WpItems.eval)); (· simp only [go_sem, reduceIte, Nat.reduceEqDiff, Nat.reduceAdd, bx, ax, if_true, if_false, Nat.reduceMul, Nat.reduceLeDiff, g1, g2, h2, h3, e1, sps_length, Int.toNat_natCast, sps_getD _ _ _ hc, encSp, ha]; exact rfl))
          | (refine WpItems.nil ⟨?_, ?_⟩; (· first | trivial | simp [pairsQ, pairsOk, apart, ent0]))
          | (apply Wp.cond_lit; (· simp only [go_sem, reduceIte, Nat.reduceEqDiff, Nat.reduceAdd, bx, ax, if_true, if_false, Nat.reduceMul, Nat.reduceLeDiff, g1, g2, h2, h3, e1, sps_length, Int.toNat_natCast, sps_getD _ _ _ hc, encSp, ha]; exact rfl); (· rfl))
          | refine Wp.skip ?_
          | refine Wp.label ?_
          | refine Wp.block ?_
          | refine Wp.exit ?_
          | refine Wp.seq ?_)
        refine ⟨j + 1, n + 1, by omega, ⟨by omega, q⟩, by omega, ?_⟩
        refine StLe.tmN (by omega) (OLe.none _) (by simp only [AllSub, go_sem, reduceIte, Nat.reduceEqDiff, Nat.reduceAdd, bx]; and_intros <;> first | exact trivial | exact VSub.refl _ | exact VSub.any _ | (refine VSub.int ?_; omega))
      · have g2 : decide ((0 : Int) < (j : Int)) = true := decide_eq_true (by omega)
        have e2 : IntKind.i64.wrap ((j : Int) - 1) = ((j - 1 : Nat) : Int) := by rw [IntWalk.i64_in _ (by omega)]; omega
        have h4 : (0 : Int) ≤ ((j - 1 : Nat) : Int) := by omega
        have h5 : ((j - 1 : Nat) : Int) < (l.length : Int) := by omega
        have h6 : j - 1 < l.length := by omega
        have hq : spOk l j = apartB (l.getD (j - 1) default) (l.getD j default) := by simp only [spOk, ha, decide_eq_false hz, Bool.true_and, Bool.false_or]
        cases hp : apartB (l.getD (j - 1) default) (l.getD j default) with
        | true =>
          have q := (key (hq.trans hp)).1 rfl
          repeat (first
            | ((first | apply Wp.seqItems | apply Wp.items | ((first
                | (refine WpItems.pcall ?_ ?_ (has_p (l.getD j default)) ?_; (· simp only [go_sem, reduceIte, Nat.reduceEqDiff, Nat.reduceAdd, bx]); (· simp only [go_sem, reduceIte, Nat.reduceEqDiff, Nat.reduceAdd, bx, List.map]; first | exact VSubs.refl _ | (repeat (first | exact VSubs.nil | refine VSubs.cons (by first | exact VSub.refl _ | assumption | exact VSub.cap | exact VSub.any _) ?_))))
                | (refine WpItems.pcall ?_ ?_ (apart_p (l.getD (j - 1) default) (l.getD j default)) ?_; (· simp only [go_sem, reduceIte, Nat.reduceEqDiff, Nat.reduceAdd, bx]); (· simp only [go_sem, reduceIte, Nat.reduceEqDiff, Nat.reduceAdd, bx, List.map]; first | exact VSubs.refl _ | (repeat (first | exact VSubs.nil | refine VSubs.cons (by first | exact VSub.refl _ | assumption | exact VSub.cap | exact VSub.any _) ?_))))); apply WpItems.eval)); (· simp only [go_sem, reduceIte, Nat.reduceEqDiff, Nat.reduceAdd, bx, ax, if_true, if_false, Nat.reduceMul, Nat.reduceLeDiff, g1, g2, h2, h3, h4, h5, e1, e2, sps_length, Int.toNat_natCast, sps_getD _ _ _ hc, sps_getD _ _ _ h6, encSp, ha, hp]; exact rfl))
            | (refine WpItems.nil ⟨?_, ?_⟩; (· first | trivial | simp [pairsQ, pairsOk, apart, ent0]))
            | (apply Wp.cond_lit; (· simp only [go_sem, reduceIte, Nat.reduceEqDiff, Nat.reduceAdd, bx, ax, if_true, if_false, Nat.reduceMul, Nat.reduceLeDiff, g1, g2, h2, h3, h4, h5, e1, e2, sps_length, Int.toNat_natCast, sps_getD _ _ _ hc, sps_getD _ _ _ h6, encSp, ha, hp]; exact rfl); (· rfl))
            | refine Wp.skip ?_
            | refine Wp.label ?_
            | refine Wp.block ?_
            | refine Wp.exit ?_
            | refine Wp.seq ?_)
          refine ⟨j + 1, n + 1, by omega, ⟨by omega, q⟩, by omega, ?_⟩
          refine StLe.tmN (by omega) (OLe.none _) (by simp only [AllSub, go_sem, reduceIte, Nat.reduceEqDiff, Nat.reduceAdd, bx]; and_intros <;> first | exact trivial | exact VSub.refl _ | exact VSub.any _ | (refine VSub.int ?_; omega))
        | false =>
          have q := (key (hq.trans hp)).2 rfl
          repeat (first
            | ((first | apply Wp.seqItems | apply Wp.items | ((first
                | (refine WpItems.pcall ?_ ?_ (has_p (l.getD j default)) ?_; (· simp only [go_sem, reduceIte, Nat.reduceEqDiff, Nat.reduceAdd, bx]); (· simp only [go_sem, reduceIte, Nat.reduceEqDiff, Nat.reduceAdd, bx, List.map]; first | exact VSubs.refl _ | (repeat (first | exact VSubs.nil | refine VSubs.cons (by first | exact VSub.refl _ | assumption | exact VSub.cap | exact VSub.any _) ?_))))
                | (refine WpItems.pcall ?_ ?_ (apart_p (l.getD (j - 1) default) (l.getD j default)) ?_; (· simp only [go_sem, reduceIte, Nat.reduceEqDiff, Nat.reduceAdd, bx]); (· simp only [go_sem, reduceIte, Nat.reduceEqDiff, Nat.reduceAdd, bx, List.map]; first | exact VSubs.refl _ | (repeat (first | exact VSubs.nil | refine VSubs.cons (by first | exact VSub.refl _ | assumption | exact VSub.cap | exact VSub.any _) ?_))))); apply WpItems.eval)); (· simp only [go_sem, reduceIte, Nat.reduceEqDiff, Nat.reduceAdd, bx, ax, if_true, if_false, Nat.reduceMul, Nat.reduceLeDiff, g1, g2, h2, h3, h4, h5, e1, e2, sps_length, Int.toNat_natCast, sps_getD _ _ _ hc, sps_getD _ _ _ h6, encSp, ha, hp]; exact rfl))
            | (refine WpItems.nil ⟨?_, ?_⟩; (· first | trivial | simp [pairsQ, pairsOk, apart, ent0]))
            | (apply Wp.cond_lit; (· simp only [go_sem, reduceIte, Nat.reduceEqDiff, Nat.reduceAdd, bx, ax, if_true, if_false, Nat.reduceMul, Nat.reduceLeDiff, g1, g2, h2, h3, h4, h5, e1, e2, sps_length, Int.toNat_natCast, sps_getD _ _ _ hc, sps_getD _ _ _ h6, encSp, ha, hp]; exact rfl); (· rfl))
            | refine Wp.skip ?_
            | refine Wp.label ?_
            | refine Wp.block ?_
            | refine Wp.exit ?_
            | refine Wp.seq ?_)
          refine Wp.ret ⟨trivial, _, rfl, ?_⟩
          simp only [go_sem, reduceIte, Nat.reduceEqDiff, Nat.reduceAdd, bx]
          simp only [q, Bool.false_eq_true, if_false]
          exact VSub.refl _
  obtain rfl : j = l.length := by omega
  have g1 : decide ((l.length : Int) < (l.length : Int)) = false := decide_eq_false (by omega)
  have hsp : spsOk l = true := all_yes hs
  repeat (first
    | ((first | apply Wp.seqItems | apply Wp.items); (· simp only [go_sem, reduceIte, Nat.reduceEqDiff, Nat.reduceAdd, bx, ax, if_true, if_false, Nat.reduceMul, Nat.reduceLeDiff, g1, strs_length]; exact rfl))
    | (refine WpItems.nil ⟨?_, ?_⟩; (· first | trivial | simp [pairsQ, pairsOk, apart, ent0]))
    | (apply Wp.cond_lit; (· simp only [go_sem, reduceIte, Nat.reduceEqDiff, Nat.reduceAdd, bx, ax, if_true, if_false, Nat.reduceMul, Nat.reduceLeDiff, g1, strs_length]; exact rfl); (· rfl))
    | refine Wp.skip ?_
    | refine Wp.label ?_
    | refine Wp.block ?_
    | refine Wp.exit ?_
    | refine Wp.seq ?_)
  refine Wp.loopN [1, 45, 46] (by simp only [go_sem, reduceIte, Nat.reduceEqDiff, List.map, strs_length]; exact rfl) (fun j : Nat => [(47, .int .i64 j)]) (fun j => j ≤ k.length ∧ ∀ i, i < j → kOk k l i = true) (fun j => k.length - j) 0 ⟨Nat.zero_le _, fun i h => absurd h (by omega)⟩ ?_ ?_
  · simp only [AllSub, go_sem, reduceIte, Nat.reduceEqDiff, Nat.reduceAdd, bx]; and_intros <;> first | exact trivial | exact VSub.refl _ | exact VSub.any _ | (refine VSub.int ?_; omega)
  rintro j n' hn' ⟨hj, hs'⟩
  by_cases hc : j < k.length
  · have g1 : decide ((j : Int) < (k.length : Int)) = true := decide_eq_true (by omega)
    have h2 : (0 : Int) ≤ (j : Int) := by omega
    have h3 : (j : Int) < (k.length : Int) := by omega
    have e1 : IntKind.i64.wrap ((j : Int) + 1) = ((j + 1 : Nat) : Int) := by rw [IntWalk.i64_in _ (by omega)]; omega
    have key : ∀ {b : Bool}, kOk k l j = b → (b = true → ∀ i, i < j + 1 → kOk k l i = true) ∧ (b = false → checkB k l = false) := by
      intro b hb
      refine ⟨fun h i hi => ?_, fun h => ?_⟩
      · by_cases e : i = j
        · subst e; rw [hb, h]
        · exact hs' i (by omega)
      · have : ksOk k l = false := all_no hc (hb.trans h)
        simp [checkB, this]
    have go : ∀ g : Bool, ((decide (j = 0) || Op.bytesLess (k.getD (j - 1) []) (k.getD j [])) = g) → kOk k l j = (g && !spanned l (k.getD j [])) := fun g hg => by simp only [kOk, hg]
    by_cases hz : j = 0
    · have g2 : decide ((0 : Int) < (j : Int)) = false := decide_eq_false (by omega)
      have hg := go true (by simp [hz])
      cases hp : spanned l (k.getD j []) with
      | true =>
        have q := (key (b := false) (by rw [hg, hp]; rfl)).2 rfl
        repeat (first
          | ((first | apply Wp.seqItems | apply Wp.items | ((first
              | (refine WpItems.pcall ?_ ?_ (spanned_p l (by omega) (k.getD j [])) ?_; (· simp only [go_sem, reduceIte, Nat.reduceEqDiff, Nat.reduceAdd, bx]); (· simp only [go_sem, reduceIte, Nat.reduceEqDiff, Nat.reduceAdd, bx, List.map]; first | exact VSubs.refl _ | (repeat (first | exact VSubs.nil | refine VSubs.cons (by first | exact VSub.refl _ | assumption | exact VSub.cap | exact VSub.any _) ?_))))); apply WpItems.eval)); (· simp only [go_sem, reduceIte, Nat.reduceEqDiff, Nat.reduceAdd, bx, ax, if_true, if_false, Nat.reduceMul, Nat.reduceLeDiff, g1, g2, h2, h3, e1, strs_length, Int.toNat_natCast, strs_getD _ _ _ hc, hp]; exact rfl))
          | (refine WpItems.nil ⟨?_, ?_⟩; (· first | trivial | simp [pairsQ, pairsOk, apart, ent0]))
          | (apply Wp.cond_lit; (· simp only [go_sem, reduceIte, Nat.reduceEqDiff, Nat.reduceAdd, bx, ax, if_true, if_false, Nat.reduceMul, Nat.reduceLeDiff, g1, g2, h2, h3, e1, strs_length, Int.toNat_natCast, strs_getD _ _ _ hc, hp]; exact rfl); (· rfl))
          | refine Wp.skip ?_
          | refine Wp.label ?_
          | refine Wp.block ?_
          | refine Wp.exit ?_
          | refine Wp.seq ?_)
        refine Wp.ret ⟨trivial, _, rfl, ?_⟩
        simp only [go_sem, reduceIte, Nat.reduceEqDiff, Nat.reduceAdd, bx]
        simp only [q, Bool.false_eq_true, if_false]
        exact VSub.refl _
      | false =>
        have q := (key (b := true) (by rw [hg, hp]; rfl)).1 rfl
        repeat (first
          | ((first | apply Wp.seqItems | apply Wp.items | ((first
              | (refine WpItems.pcall ?_ ?_ (spanned_p l (by omega) (k.getD j [])) ?_; (· simp only [go_sem, reduceIte, Nat.reduceEqDiff, Nat.reduceAdd, bx]); (· simp only [go_sem, reduceIte, Nat.reduceEqDiff, Nat.reduceAdd, bx, List.map]; first | exact VSubs.refl _ | (repeat (first | exact VSubs.nil | refine VSubs.cons (by first | exact VSub.refl _ | assumption | exact VSub.cap | exact VSub.any _) ?_))))); apply WpItems.eval)); (· simp only [go_sem, reduceIte, Nat.reduceEqDiff, Nat.reduceAdd, bx, ax, if_true, if_false, Nat.reduceMul, Nat.reduceLeDiff, g1, g2, h2, h3, e1, strs_length, Int.toNat_natCast, strs_getD _ _ _ hc, hp]; exact rfl))
          | (refine WpItems.nil ⟨?_, ?_⟩; (· first | trivial | simp [pairsQ, pairsOk, apart, ent0]))
          | (apply Wp.cond_lit; (· simp only [go_sem, reduceIte, Nat.reduceEqDiff, Nat.reduceAdd, bx, ax, if_true, if_false, Nat.reduceMul, Nat.reduceLeDiff, g1, g2, h2, h3, e1, strs_length, Int.toNat_natCast, strs_getD _ _ _ hc, hp]; exact rfl); (· rfl))
          | refine Wp.skip ?_
          | refine Wp.label ?_
          | refine Wp.block ?_
          | refine Wp.exit ?_
          | refine Wp.seq ?_)
        refine ⟨j + 1, n', by omega, ⟨by omega, q⟩, by omega, ?_⟩
        refine StLe.tmN (by omega) (OLe.none _) (by simp only [AllSub, go_sem, reduceIte, Nat.reduceEqDiff, Nat.reduceAdd, bx]; and_intros <;> first | exact trivial | exact VSub.refl _ | exact VSub.any _ | (refine VSub.int ?_; omega))
    · have g2 : decide ((0 : Int) < (j : Int)) = true := decide_eq_true (by omega)
      have e2 : IntKind.i64.wrap ((j : Int) - 1) = ((j - 1 : Nat) : Int) := by rw [IntWalk.i64_in _ (by omega)]; omega
      have h4 : (0 : Int) ≤ ((j - 1 : Nat) : Int) := by omega
      have h5 : ((j - 1 : Nat) : Int) < (k.length : Int) := by omega
      have h6 : j - 1 < k.length := by omega
      have hg := go _ (show _ = Op.bytesLess (k.getD (j - 1) []) (k.getD j []) by simp [hz])
      cases hp : Op.bytesLess (k.getD (j - 1) []) (k.getD j []) with
      | false =>
        have q := (key (b := false) (by rw [hg, hp]; rfl)).2 rfl
        repeat (first
          | ((first | apply Wp.seqItems | apply Wp.items); (· simp only [go_sem, reduceIte, Nat.reduceEqDiff, Nat.reduceAdd, bx, ax, if_true, if_false, Nat.reduceMul, Nat.reduceLeDiff, g1, g2, h2, h3, h4, h5, e1, e2, strs_length, Int.toNat_natCast, strs_getD _ _ _ hc, strs_getD _ _ _ h6, hp]; exact rfl))
          | (refine WpItems.nil ⟨?_, ?_⟩; (· first | trivial | simp [pairsQ, pairsOk, apart, ent0]))
          | (apply Wp.cond_lit; (· simp only [go_sem, reduceIte, Nat.reduceEqDiff, Nat.reduceAdd, bx, ax, if_true, if_false, Nat.reduceMul, Nat.reduceLeDiff, g1, g2, h2, h3, h4, h5, e1, e2, strs_length, Int.toNat_natCast, strs_getD _ _ _ hc, strs_getD _ _ _ h6, hp]; exact rfl); (· rfl))
          | refine Wp.skip ?_
          | refine Wp.label ?_
          | refine Wp.block ?_
          | refine Wp.exit ?_
          | refine Wp.seq ?_)
        refine Wp.ret ⟨trivial, _, rfl, ?_⟩
        simp only [go_sem, reduceIte, Nat.reduceEqDiff, Nat.reduceAdd, bx]
        simp only [q, Bool.false_eq_true, if_false]
        exact VSub.refl _
      | true =>
        cases hp2 : spanned l (k.getD j []) with
        | true =>
          have q := (key (b := false) (by rw [hg, hp, hp2]; rfl)).2 rfl
          repeat (first
            | ((first | apply Wp.seqItems | apply Wp.items | ((first
                | (refine WpItems.pcall ?_ ?_ (spanned_p l (by omega) (k.getD j [])) ?_; (· simp only [go_sem, reduceIte, Nat.reduceEqDiff, Nat.reduceAdd, bx]); (· simp only [go_sem, reduceIte, Nat.reduceEqDiff, Nat.reduceAdd, bx, List.map]; first | exact VSubs.refl _ | (repeat (first | exact VSubs.nil | refine VSubs.cons (by first | exact VSub.refl _ | assumption | exact VSub.cap | exact VSub.any _) ?_))))); apply WpItems.eval)); (· simp only [go_sem, reduceIte, Nat.reduceEqDiff, Nat.reduceAdd, bx, ax, if_true, if_false, Nat.reduceMul, Nat.reduceLeDiff, g1, g2, h2, h3, h4, h5, e1, e2, strs_length, Int.toNat_natCast, strs_getD _ _ _ hc, strs_getD _ _ _ h6, hp, hp2]; exact rfl))
            | (refine WpItems.nil ⟨?_, ?_⟩; (· first | trivial | simp [pairsQ, pairsOk, apart, ent0]))
            | (apply Wp.cond_lit; (· simp only [go_sem, reduceIte, Nat.reduceEqDiff, Nat.reduceAdd, bx, ax, if_true, if_false, Nat.reduceMul, Nat.reduceLeDiff, g1, g2, h2, h3, h4, h5, e1, e2, strs_length, Int.toNat_natCast, strs_getD _ _ _ hc, strs_getD _ _ _ h6, hp, hp2]; exact rfl); (· rfl))
            | refine Wp.skip ?_
            | refine Wp.label ?_
            | refine Wp.block ?_
            | refine Wp.exit ?_
            | refine Wp.seq ?_)
          refine Wp.ret ⟨trivial, _, rfl, ?_⟩
          simp only [go_sem, reduceIte, Nat.reduceEqDiff, Nat.reduceAdd, bx]
          simp only [q, Bool.false_eq_true, if_false]
          exact VSub.refl _
        | false =>
          have q := (key (b := true) (by rw [hg, hp, hp2]; rfl)).1 rfl
          repeat (first
            | ((first | apply Wp.seqItems | apply Wp.items | ((first
                | (refine WpItems.pcall ?_ ?_ (spanned_p l (by omega) (k.getD j [])) ?_; (· simp only [go_sem, reduceIte, Nat.reduceEqDiff, Nat.reduceAdd, bx]); (· simp only [go_sem, reduceIte, Nat.reduceEqDiff, Nat.reduceAdd, bx, List.map]; first | exact VSubs.refl _ | (repeat (first | exact VSubs.nil | refine VSubs.cons (by first | exact VSub.refl _ | assumption | exact VSub.cap | exact VSub.any _) ?_))))); apply WpItems.eval)); (· simp only [go_sem, reduceIte, Nat.reduceEqDiff, Nat.reduceAdd, bx, ax, if_true, if_false, Nat.reduceMul, Nat.reduceLeDiff, g1, g2, h2, h3, h4, h5, e1, e2, strs_length, Int.toNat_natCast, strs_getD _ _ _ hc, strs_getD _ _ _ h6, hp, hp2]; exact rfl))
            | (refine WpItems.nil ⟨?_, ?_⟩; (· first | trivial | simp [pairsQ, pairsOk, apart, ent0]))
            | (apply Wp.cond_lit; (· simp only [go_sem, reduceIte, Nat.reduceEqDiff, Nat.reduceAdd, bx, ax, if_true, if_false, Nat.reduceMul, Nat.reduceLeDiff, g1, g2, h2, h3, h4, h5, e1, e2, strs_length, Int.toNat_natCast, strs_getD _ _ _ hc, strs_getD _ _ _ h6, hp, hp2]; exact rfl); (· rfl))
            | refine Wp.skip ?_
            | refine Wp.label ?_
            | refine Wp.block ?_
            | refine Wp.exit ?_
            | refine Wp.seq ?_)
          refine ⟨j + 1, n', by omega, ⟨by omega, q⟩, by omega, ?_⟩
          refine StLe.tmN (by omega) (OLe.none _) (by simp only [AllSub, go_sem, reduceIte, Nat.reduceEqDiff, Nat.reduceAdd, bx]; and_intros <;> first | exact trivial | exact VSub.refl _ | exact VSub.any _ | (refine VSub.int ?_; omega))
  obtain rfl : j = k.length := by omega
  have g1 : decide ((k.length : Int) < (k.length : Int)) = false := decide_eq_false (by omega)
  have hk : ksOk k l = true := all_yes hs'
  repeat (first
    | ((first | apply Wp.seqItems | apply Wp.items); (· simp only [go_sem, reduceIte, Nat.reduceEqDiff, Nat.reduceAdd, bx, ax, if_true, if_false, Nat.reduceMul, Nat.reduceLeDiff, g1]; exact rfl))
    | (refine WpItems.nil ⟨?_, ?_⟩; (· first | trivial | simp [pairsQ, pairsOk, apart, ent0]))
    | (apply Wp.cond_lit; (· simp only [go_sem, reduceIte, Nat.reduceEqDiff, Nat.reduceAdd, bx, ax, if_true, if_false, Nat.reduceMul, Nat.reduceLeDiff, g1]; exact rfl); (· rfl))
    | refine Wp.skip ?_
    | refine Wp.label ?_
    | refine Wp.block ?_
    | refine Wp.exit ?_
    | refine Wp.seq ?_)
  refine Wp.ret ⟨trivial, _, rfl, ?_⟩
  simp only [go_sem, reduceIte, Nat.reduceEqDiff, Nat.reduceAdd, bx]
  simp only [checkB, decide_eq_true b1, decide_eq_true b2, hsp, hk, Bool.and_self, if_true]
  exact VSub.refl _
end Go.Proofs.Ytpehfflehebmbaa.Reads
end
section
set_option linter.unusedSimpArgs false
set_option linter.unusedVariables false
set_option maxRecDepth 10000
namespace Go.Proofs.Ytpehfflehebmbaa.Reads
open Go Go.Av Go.Proofs Go.Proofs.Ytpehfflehebmbaa.C Go.Proofs.Ytpehfflehebmbaa.Batch
def place (k : List Bs) (key : Bs) : Nat := k.findIdx fun x => !Op.bytesLess x key
end Go.Proofs.Ytpehfflehebmbaa.Reads
end
section
set_option linter.unusedSimpArgs false
set_option linter.unusedVariables false
set_option maxRecDepth 10000
namespace Go.Proofs.Ytpehfflehebmbaa.Reads
open Go Go.Av Go.Proofs Go.Proofs.Ytpehfflehebmbaa.C Go.Proofs.Ytpehfflehebmbaa.Batch
theorem strs_cells (l : List Bs) : (strs l).flatMap cellsOf = strs l := by
  induction l with
  | nil => rfl
  | cons s l ih => simp only [strs, List.map_cons, List.flatMap_cons] at ih ⊢; rw [ih]; rfl
theorem strs_shaped (l : List Bs) : (strs l).all shaped = true := by
  simp [strs, shaped, isCell]
theorem cloneK_p (k : List Bs) (h0 : k ≠ []) (hl : k.length ≤ 1000000) (n m : Nat) : ACalls Try.prog 61 [.sl 1 (strs k) .any] (H0 n m) (.tsl 1 n 0 k.length none) (.only (upd none' n (some (.cells (strs k)))) [] (n + 1) m) := by
  cases k with
  | nil => exact absurd rfl h0
  | cons s k =>
    have := cloneT_gen (sz := 1) (bytes := 16) f61 (.str s) (strs k) (strs_shaped (s :: k)) (by rw [strs_length]; simp only [List.length_cons] at hl; omega) (by rw [strs_length]; simp only [List.length_cons] at hl; omega) n m
    rw [strs_length] at this
    have e : (AV.str s :: strs k).flatMap cellsOf = strs (s :: k) := strs_cells (s :: k)
    rw [e] at this
    exact this
end Go.Proofs.Ytpehfflehebmbaa.Reads
end
section
set_option linter.unusedSimpArgs false
set_option linter.unusedVariables false
set_option maxRecDepth 10000
namespace Go.Proofs.Ytpehfflehebmbaa.Space
open Go Go.Av Go.Proofs Go.Proofs.Ytpehfflehebmbaa.C Go.Proofs.Ytpehfflehebmbaa.Batch
theorem patch_new {L : List Fr} {n m id : Nat} {T : List Nat} {o o2 : Av.Obj} (h : lay L id = some o) : H.patch ⟨lay L, n, T, m⟩ (.only (upd none' id (some o)) [] n m) (.only (upd (upd none' id (some o)) n (some o2)) [] (n + 1) m) = ⟨lay (ob n o2 :: L), n + 1, T, m⟩ := by
  refine H.ext (fun j => ?_) rfl ?_ rfl
  · simp only [H.patch, H.only, upd, none', lay, ob_o]
    by_cases e1 : j = n
    · subst e1; simp
    · by_cases e2 : j = id
      · subst e2; simp [e1, h]
      · have : ¬ (n ≤ j ∧ j < n + 1) := by omega
        simp [e1, e2, this]
  · simp [H.patch, H.only]
theorem sl0_any {G G' : Ghost} {w : World} {v : Value} (h : VRel G w (.sl 1 [] (.exact 0)) v) : VRel G' w (.sl 1 [] (.exact 0)) v := by
  simp only [VRel, CapOk] at h ⊢
  rcases h with h | ⟨B, off, C, vs, q1, q2, q3, q4, q5, q6⟩
  · exact .inl h
  · left
    subst q6
    simpa [CapNil] using ⟨_, q1⟩
theorem clone0 {K : AV} {o : Objs} {s c : Nat} (hK : RowIs K [] o s c) : ∃ (objs : Objs) (ids : List Nat), (∀ id p, objs id = some p → o id = some p) ∧ (∀ id, (objs id).isSome → id ∈ ids) ∧ RCalls Try.prog 61 [K] objs (.sl 1 [] (.exact 0)) := by
  have hb := cloneE_gen (sz := 1) (bytes := 16) f61
  rcases hK with ⟨rfl, h⟩ | ⟨k, rfl, h1, h2, h3⟩
  · refine ⟨none', [], fun id p h => by simp [none'] at h, fun id h => by simp [none'] at h, fun n m => ?_⟩
    intro G w vs hv R F
    exact hb n m G w vs ((VSubs.cons VSub.cap VSubs.nil) G w vs hv) R F
  · refine ⟨upd none' k (some (.cells [])), [k], fun id p h => ?_, fun id h => ?_, ?_⟩
    · simp only [upd, none'] at h
      split at h
      · rename_i e; subst e; cases h; exact h1
      · cases h
    · simp only [upd, none'] at h
      split at h
      · rename_i e; simp [e]
      · cases h
    · exact hb.look (fun G G' w v h => sl0_any h) none k
theorem strs_any {G G' : Ghost} {w : World} : ∀ (l : List Bs) (vs : List Value), VRels G w (strs l) vs → VRels G' w (strs l) vs
  | [], vs, h => by simpa [strs, VRels] using h
  | s :: l, vs, h => by
    simp only [strs, List.map_cons, VRels] at h ⊢
    obtain ⟨v, us, e, h1, h2⟩ := h
    exact ⟨v, us, e, by simpa only [VRel] using h1, strs_any l us h2⟩
theorem cloneK_look (l : List Bs) (h0 : l ≠ []) (hl : l.length ≤ 1000000) (id n m : Nat) (hid : id < n) : ACalls Try.prog 61 [.tsl 1 id 0 l.length none] (.only (upd none' id (some (.cells (strs l)))) [] n m) (.tsl 1 n 0 l.length none) (.only (upd (upd none' id (some (.cells (strs l)))) n (some (.cells (strs l)))) [] (n + 1) m) := by
  have := ACalls.lookT (args := []) (fun n m => Reads.cloneK_p l h0 hl n m) (fun G G' w vs h => strs_any l vs h) none id n m hid
  rwa [strs_length] at this
def vacStep (mark : Int) (S : Spc) (k : Bs) : Spc := setS S k (vacB (mget S.L k) mark)
def vacS (mark : Int) (S : Spc) (ks : List Bs) : Spc := ks.foldl (vacStep mark) S
def vacuumB (S : Spc) (mark : Int) : Spc × Int := if mark < S.mark ∨ S.last < mark then (S, 2) else ({ vacS mark S (keysOf S.L) with mark := mark }, 0)
theorem vac_len (v : List Ver) (m : Int) : (vacB v m).length ≤ v.length := by
  unfold vacB
  split
  · rw [List.length_take]; omega
  · simp
theorem vacStep_ok {S : Spc} (h : Small S) (hr : RiseL S.L) (m : Int) (k : Bs) : Small (vacStep m S k) ∧ RiseL (vacStep m S k).L := by
  refine ⟨⟨?_, fun q => ?_⟩, setL_rise hr _ _⟩
  · show (setL S.L k (vacB (mget S.L k) m)).length ≤ _
    have hp := plK_le (keysOf S.L) k
    have hk : (keysOf S.L).length = S.L.length := by simp [keysOf]
    have := h.1
    by_cases ht : thK (keysOf S.L) k = true
    · unfold setL
      simp only [ht, if_true]
      have ht2 := ht
      simp only [thK, Bool.and_eq_true, decide_eq_true_eq] at ht2
      have := ht2.1
      split
      · simp; omega
      · simp; omega
    · have hm : mget S.L k = [] := by
        refine mget_none _ _ fun hm => ?_
        have := thK_iff hr k
        rw [decide_eq_true (show k ∈ keysOf S.L from hm)] at this
        exact ht this
      have hv : vacB (mget S.L k) m = [] := by
        have := vac_len (mget S.L k) m
        rw [hm] at this ⊢
        exact List.length_eq_zero_iff.1 (by simpa using this)
      rw [hv, setL, if_pos rfl, if_neg ht]; exact this
  · show (mget (setL _ _ _) q).length ≤ _
    rw [setL_get hr]
    split
    · have := vac_len (mget S.L k) m
      have := h.2 k
      omega
    · exact h.2 q
theorem vacS_ok (m : Int) : ∀ (l : List Bs) (S : Spc), Small S → RiseL S.L → Small (vacS m S l) ∧ RiseL (vacS m S l).L
  | [], S, h, hr => ⟨h, hr⟩
  | k :: l, S, h, hr => by
    obtain ⟨h1, h2⟩ := vacStep_ok h hr m k
    exact vacS_ok m l _ h1 h2
theorem vacS_snoc (m : Int) (S : Spc) (l : List Bs) {j : Nat} (h : j < l.length) : vacS m S (l.take (j + 1)) = vacStep m (vacS m S (l.take j)) (l.getD j []) := by
  rw [take_snoc [] h, vacS, List.foldl_append]; rfl
set_option maxHeartbeats 1000000 in
theorem vacuum_g {s : Nat} {S : Spc} {F : Fr} (hF : SpcF s S F) (hr : RiseL S.L) (hS : Small S) (mark : Int) : GCalls Try.prog 21 [.ptr s 0, .int .i64 mark] [F] (fun r L => r = .int .i64 (vacuumB S mark).2 ∧ ∃ F', L = [F'] ∧ SpcF s (vacuumB S mark).1 F') := by
  obtain ⟨c, M, K, hM, hsc, hs, hc, hK⟩ := hF.go
  refine f21.gcalls (by simp) fun n m ok => ?_
  unfold c21
  have fs := ok.at0 hs
  have stop : ∀ (e : Int), vacuumB S mark = (S, e) → ∃ r l', Av.Ends [F] n m (fun r L => r = .int .i64 (vacuumB S mark).2 ∧ ∃ F', L = [F'] ∧ SpcF s (vacuumB S mark).1 F') (.int .i64 e) ⟨lay [F], n, ks [F], m⟩ r l' := by
    intro e h
    rw [h]
    exact ⟨_, _, (On.refl ok).ends (VSub.refl _) ⟨rfl, F, rfl, hF⟩⟩
  by_cases p1 : mark < S.mark
  · have d1 := decide_eq_true p1
    have hres : vacuumB S mark = (S, 2) := by rw [vacuumB, if_pos (.inl p1)]
    repeat (first
      | ((first | apply Wp.seqItemsR | apply Wp.itemsR | ((first
          | (refine WpItems.glook ?_ ?_ (made_r hF) (by first | exact fun j o h => h | exact ok.sub (by simp) | assumption) (fun ids => ?_); (· simp only [go_sem, reduceIte, Nat.reduceEqDiff, Nat.reduceAdd, bx]); (· simp only [go_sem, reduceIte, Nat.reduceEqDiff, Nat.reduceAdd, bx, List.map]; first | exact VSubs.refl _ | (repeat (first | exact VSubs.nil | refine VSubs.cons (by first | exact VSub.refl _ | assumption | exact VSub.cap | exact VSub.any _) ?_))))); apply WpItems.evR)); (· simp only [go_sem, reduceIte, Nat.reduceEqDiff, Nat.reduceAdd, bx, ax, if_true, if_false, Nat.reduceMul, Nat.reduceLeDiff, fs, d1]; exact rfl))
      | (refine WpItems.nil ⟨?_, ?_⟩; (· first | trivial | simp [pairsQ, pairsOk, apart, ent0]))
      | (apply Wp.cond_lit; (· simp only [go_sem, reduceIte, Nat.reduceEqDiff, Nat.reduceAdd, bx, ax, if_true, if_false, Nat.reduceMul, Nat.reduceLeDiff, fs, d1]; exact rfl); (· rfl))
      | refine Wp.skip ?_
      | refine Wp.label ?_
      | refine Wp.block ?_
      | refine Wp.exit ?_
      | refine Wp.seq ?_)
    exact Wp.ret ⟨trivial, _, rfl, stop 2 hres⟩
  · have d1 := decide_eq_false p1
    by_cases p2 : S.last < mark
    · have d2 := decide_eq_true p2
      have hres : vacuumB S mark = (S, 2) := by rw [vacuumB, if_pos (.inr p2)]
      repeat (first
        | ((first | apply Wp.seqItemsR | apply Wp.itemsR | ((first
            | (refine WpItems.glook ?_ ?_ (made_r hF) (by first | exact fun j o h => h | exact ok.sub (by simp) | assumption) (fun ids => ?_); (· simp only [go_sem, reduceIte, Nat.reduceEqDiff, Nat.reduceAdd, bx]); (· simp only [go_sem, reduceIte, Nat.reduceEqDiff, Nat.reduceAdd, bx, List.map]; first | exact VSubs.refl _ | (repeat (first | exact VSubs.nil | refine VSubs.cons (by first | exact VSub.refl _ | assumption | exact VSub.cap | exact VSub.any _) ?_))))); apply WpItems.evR)); (· simp only [go_sem, reduceIte, Nat.reduceEqDiff, Nat.reduceAdd, bx, ax, if_true, if_false, Nat.reduceMul, Nat.reduceLeDiff, fs, d1, d2]; exact rfl))
        | (refine WpItems.nil ⟨?_, ?_⟩; (· first | trivial | simp [pairsQ, pairsOk, apart, ent0]))
        | (apply Wp.cond_lit; (· simp only [go_sem, reduceIte, Nat.reduceEqDiff, Nat.reduceAdd, bx, ax, if_true, if_false, Nat.reduceMul, Nat.reduceLeDiff, fs, d1, d2]; exact rfl); (· rfl))
        | refine Wp.skip ?_
        | refine Wp.label ?_
        | refine Wp.block ?_
        | refine Wp.exit ?_
        | refine Wp.seq ?_)
      exact Wp.ret ⟨trivial, _, rfl, stop 2 hres⟩
    · have d2 := decide_eq_false p2
      have hres : vacuumB S mark = ({ vacS mark S (keysOf S.L) with mark := mark }, 0) := by rw [vacuumB, if_neg (by omega)]
      have hkl : (keysOf S.L).length = S.L.length := by simp [keysOf]
      have hS1 := hS.1
      by_cases hz : keysOf S.L = []
      · rw [hz] at hK
        obtain ⟨objs, idk, ho, hi, hb⟩ := clone0 hK
        have g1 : decide ((0 : Int) < ((0 : Nat) : Int)) = false := rfl
        repeat (first
          | ((first | apply Wp.seqItemsR | apply Wp.itemsR | ((first
              | (refine WpItems.glook ?_ ?_ (made_r hF) (by first | exact fun j o h => h | exact ok.sub (by simp) | assumption) (fun ids => ?_); (· simp only [go_sem, reduceIte, Nat.reduceEqDiff, Nat.reduceAdd, bx]); (· simp only [go_sem, reduceIte, Nat.reduceEqDiff, Nat.reduceAdd, bx, List.map]; first | exact VSubs.refl _ | (repeat (first | exact VSubs.nil | refine VSubs.cons (by first | exact VSub.refl _ | assumption | exact VSub.cap | exact VSub.any _) ?_))))); apply WpItems.evR)); (· simp only [go_sem, reduceIte, Nat.reduceEqDiff, Nat.reduceAdd, bx, ax, if_true, if_false, Nat.reduceMul, Nat.reduceLeDiff, fs, d1, d2]; exact rfl))
          | (refine WpItems.nil ⟨?_, ?_⟩; (· first | trivial | simp [pairsQ, pairsOk, apart, ent0]))
          | (apply Wp.cond_lit; (· simp only [go_sem, reduceIte, Nat.reduceEqDiff, Nat.reduceAdd, bx, ax, if_true, if_false, Nat.reduceMul, Nat.reduceLeDiff, fs, d1, d2]; exact rfl); (· rfl))
          | refine Wp.skip ?_
          | refine Wp.label ?_
          | refine Wp.block ?_
          | refine Wp.exit ?_
          | refine Wp.seq ?_)
        refine WpItems.rcall idk (by simp only [go_sem]) (by simp only [go_sem, reduceIte, Nat.reduceEqDiff, List.map]; exact VSubs.refl _) (fun id o h => ok.sub (by simp) id o (ho id o h)) hi hb ?_
        refine WpItems.evR (by simp only [go_sem, reduceIte, Nat.reduceEqDiff, Nat.reduceAdd, bx]; exact rfl) ?_
        refine WpItems.nil ⟨by trivial, ?_⟩
        repeat (first
          | ((first | apply Wp.seqItemsR | apply Wp.itemsR); (· simp only [go_sem, reduceIte, Nat.reduceEqDiff, Nat.reduceAdd, bx, ax, if_true, if_false, Nat.reduceMul, Nat.reduceLeDiff, g1]; exact rfl))
          | (refine WpItems.nil ⟨?_, ?_⟩; (· first | trivial | simp [pairsQ, pairsOk, apart, ent0]))
          | (apply Wp.cond_lit; (· simp only [go_sem, reduceIte, Nat.reduceEqDiff, Nat.reduceAdd, bx, ax, if_true, if_false, Nat.reduceMul, Nat.reduceLeDiff, g1]; exact rfl); (· rfl))
          | refine Wp.skip ?_
          | refine Wp.label ?_
          | refine Wp.block ?_
          | refine Wp.exit ?_
          | refine Wp.seq ?_)
        refine Wp.loopL (WpL.next ?_)
        repeat (first
          | ((first | apply Wp.seqItemsR | apply Wp.itemsR); (· simp only [go_sem, reduceIte, Nat.reduceEqDiff, Nat.reduceAdd, bx, ax, if_true, if_false, Nat.reduceMul, Nat.reduceLeDiff, g1, fs]; exact rfl))
          | (refine WpItems.nil ⟨?_, ?_⟩; (· first | trivial | simp [pairsQ, pairsOk, apart, ent0]))
          | (apply Wp.cond_lit; (· simp only [go_sem, reduceIte, Nat.reduceEqDiff, Nat.reduceAdd, bx, ax, if_true, if_false, Nat.reduceMul, Nat.reduceLeDiff, g1, fs]; exact rfl); (· rfl))
          | refine Wp.skip ?_
          | refine Wp.label ?_
          | refine Wp.block ?_
          | refine Wp.exit ?_
          | refine Wp.seq ?_)
        have hz2 : vacS mark S (keysOf S.L) = S := by rw [hz]; rfl
        rw [hz2] at hres
        have on3 := On.put (o := .cells [K, .mp c, .int .i64 S.last, .int .i64 mark]) ok (by rw [hs]; rfl)
        have hF3 := hF.times hs S.last mark
        refine Wp.ret ⟨trivial, .int .i64 0, rfl, .int .i64 (vacuumB S mark).2, [⟨upd F.o s (some (.cells [K, .mp c, .int .i64 S.last, .int .i64 mark])), F.k⟩], ?_⟩
        rw [upd_lay]
        refine on3.ends (by rw [hres]; exact VSub.refl _) ⟨rfl, _, rfl, ?_⟩
        rw [hres]; exact hF3
      · rcases hK with ⟨rfl, h2⟩ | ⟨k, rfl, h2, h3, h4⟩
        · exact absurd h2 hz
        · repeat (first
            | ((first | apply Wp.seqItemsR | apply Wp.itemsR | ((first
                | (refine WpItems.glook ?_ ?_ (made_r hF) (by first | exact fun j o h => h | exact ok.sub (by simp) | assumption) (fun ids => ?_); (· simp only [go_sem, reduceIte, Nat.reduceEqDiff, Nat.reduceAdd, bx]); (· simp only [go_sem, reduceIte, Nat.reduceEqDiff, Nat.reduceAdd, bx, List.map]; first | exact VSubs.refl _ | (repeat (first | exact VSubs.nil | refine VSubs.cons (by first | exact VSub.refl _ | assumption | exact VSub.cap | exact VSub.any _) ?_))))); apply WpItems.evR)); (· simp only [go_sem, reduceIte, Nat.reduceEqDiff, Nat.reduceAdd, bx, ax, if_true, if_false, Nat.reduceMul, Nat.reduceLeDiff, fs, d1, d2]; exact rfl))
            | (refine WpItems.nil ⟨?_, ?_⟩; (· first | trivial | simp [pairsQ, pairsOk, apart, ent0]))
            | (apply Wp.cond_lit; (· simp only [go_sem, reduceIte, Nat.reduceEqDiff, Nat.reduceAdd, bx, ax, if_true, if_false, Nat.reduceMul, Nat.reduceLeDiff, fs, d1, d2]; exact rfl); (· rfl))
            | refine Wp.skip ?_
            | refine Wp.label ?_
            | refine Wp.block ?_
            | refine Wp.exit ?_
            | refine Wp.seq ?_)
          have fk := ok.at0 h2
          have hkn := ok.lt (by simp) h2
          refine WpItems.acall (by simp only [go_sem]) (by simp only [go_sem, reduceIte, Nat.reduceEqDiff, List.map]; exact VSubs.refl _) (cloneK_look (keysOf S.L) hz (by omega) k n m hkn) (touch_gen _ _ _ (ids := [k]) ⟨fun j o h => ?_, fun t h => by simp [H.only] at h⟩ rfl rfl (fun id h => ?_) (by simp [H.only]) (by simp [H.only])) ?_
          · simp only [H.only, upd, none'] at h
            split at h
            · rename_i e; subst e; cases h; exact fk
            · cases h
          · simp only [H.only, upd, none'] at h
            split at h
            · rename_i e; simp [e]
            · cases h
          rw [patch_new fk]
          refine WpItems.evR (by simp only [go_sem, reduceIte, Nat.reduceEqDiff, Nat.reduceAdd, bx]; exact rfl) ?_
          refine WpItems.nil ⟨by trivial, ?_⟩
          refine Wp.block ?_
          have ok2 := ok.more (.cells (strs (keysOf S.L)))
          refine Wp.loopG (β := Nat) [0, 1, 30, 31] (by simp only [go_sem, reduceIte, Nat.reduceEqDiff, List.map]; exact rfl) (fun i => [(32, .int .i64 (i : Nat))]) (fun i L => i ≤ (keysOf S.L).length ∧ ∃ F', L = [ob n (.cells (strs (keysOf S.L))), F'] ∧ SpcF s (vacS mark S ((keysOf S.L).take i)) F') (fun i => (keysOf S.L).length - i) 0 ⟨Nat.zero_le _, F, rfl, hF⟩ ok2 (by simp only [AllSub, go_sem, reduceIte, Nat.reduceEqDiff]; exact ⟨VSub.refl _, trivial⟩) ?_
          rintro i L n1 T1 m1 on ⟨hi, F', rfl, hF'⟩
          obtain ⟨c', M', K', hM', hsc', hs', hc', hK'⟩ := hF'.go
          by_cases hi2 : i < (keysOf S.L).length
          · have g1 : decide (((i : Nat) : Int) < (((keysOf S.L).length : Nat) : Int)) = true := decide_eq_true (by omega)
            have h2 : (0 : Int) ≤ ((i : Nat) : Int) := by omega
            have h3 : ((i : Nat) : Int) < (((keysOf S.L).length : Nat) : Int) := by omega
            have e1 : IntKind.i64.wrap (((i : Nat) : Int) + 1) = ((i + 1 : Nat) : Int) := by rw [IntWalk.i64_in _ (by omega)]; omega
            have gk := lay_ob_at n (.cells (strs (keysOf S.L))) [F']
            have gs := on.ok.sub (F := F') (by simp) _ _ hs'
            have gc := on.ok.sub (F := F') (by simp) _ _ hc'
            have hget : (strs (keysOf S.L))[i]? = some (.str ((keysOf S.L).getD i [])) := by
              simp [strs, hi2]
            have hdo := vacS_snoc mark S (keysOf S.L) hi2
            obtain ⟨hS', hr'⟩ := vacS_ok mark ((keysOf S.L).take i) S hS hr
            generalize (keysOf S.L).getD i [] = q at *
            generalize vacS mark S ((keysOf S.L).take i) = S' at *
            have hv := vacuum_p (mget S'.L q) (by have := hS'.2 q; omega) mark
            have hlk := look_sub M' q
            rw [hM'.eq] at hlk
            unfold vAV at hlk
            have fit : VSubs [lookAV (.sl 3 [] (.exact 0)) false (mres M' q), .int .i64 mark] [.sl 3 ((mget S'.L q).map encV) .any, .int .i64 mark] := VSubs.cons hlk (VSubs.refl _)
            repeat (first
              | ((first | apply Wp.seqItemsR | apply Wp.itemsR | ((first
                  | (refine WpItems.pcall ?_ ?_ (hv) ?_; (· simp only [go_sem, reduceIte, Nat.reduceEqDiff, Nat.reduceAdd, bx]); (· simp only [go_sem, reduceIte, Nat.reduceEqDiff, Nat.reduceAdd, bx, List.map]; exact fit))); apply WpItems.evR)); (· simp only [go_sem, reduceIte, Nat.reduceEqDiff, Nat.reduceAdd, bx, ax, if_true, if_false, Nat.reduceMul, Nat.reduceLeDiff, g1, h2, h3, gk, hget, gs, gc, mfind_enc, Nat.zero_add, Nat.mul_one]; exact rfl))
              | (refine WpItems.nil ⟨?_, ?_⟩; (· first | trivial | simp [pairsQ, pairsOk, apart, ent0]))
              | (apply Wp.cond_lit; (· simp only [go_sem, reduceIte, Nat.reduceEqDiff, Nat.reduceAdd, bx, ax, if_true, if_false, Nat.reduceMul, Nat.reduceLeDiff, g1, h2, h3, gk, hget, gs, gc, mfind_enc, Nat.zero_add, Nat.mul_one]; exact rfl); (· rfl))
              | refine Wp.skip ?_
              | refine Wp.label ?_
              | refine Wp.block ?_
              | refine Wp.exit ?_
              | refine Wp.seq ?_)
            refine WpItems.gcall [_] [F'] [] (by simp only [go_sem]) (by simp only [go_sem, reduceIte, Nat.reduceEqDiff, List.map]; exact VSubs.refl _) (set_g hF' hr' hS'.1 q (vacB (mget S'.L q) mark)) on.ok fun r G' n' m' ids hq hn' hm' ok3 wi ki => ?_
            obtain ⟨rfl, F2, rfl, hF2⟩ := hq
            refine WpItems.evR (by simp only [go_sem, reduceIte, Nat.reduceEqDiff, Nat.reduceAdd, bx]; exact rfl) ?_
            refine WpItems.nil ⟨by trivial, ?_⟩
            repeat (first
              | ((first | apply Wp.seqItemsR | apply Wp.itemsR); (· simp only [go_sem, reduceIte, Nat.reduceEqDiff, Nat.reduceAdd, bx, ax, if_true, if_false, Nat.reduceMul, Nat.reduceLeDiff, e1]; exact rfl))
              | (refine WpItems.nil ⟨?_, ?_⟩; (· first | trivial | simp [pairsQ, pairsOk, apart, ent0]))
              | (apply Wp.cond_lit; (· simp only [go_sem, reduceIte, Nat.reduceEqDiff, Nat.reduceAdd, bx, ax, if_true, if_false, Nat.reduceMul, Nat.reduceLeDiff, e1]; exact rfl); (· rfl))
              | refine Wp.skip ?_
              | refine Wp.label ?_
              | refine Wp.block ?_
              | refine Wp.exit ?_
              | refine Wp.seq ?_)
            refine ⟨i + 1, [_, F2], n', _, m', ⟨hn', hm', ok3, wi, ki⟩, ⟨by omega, F2, rfl, ?_⟩, by omega, ?_⟩
            · rw [hdo]; exact hF2
            · refine StLe.tm (by simp only [AllSub, go_sem, reduceIte, Nat.reduceEqDiff, Nat.reduceAdd, bx]; and_intros <;> first | exact trivial | exact VSub.refl _ | exact VSub.any _ | (refine VSub.int ?_; omega))
          · have hie : i = (keysOf S.L).length := by omega
            subst hie
            have g1 : decide ((((keysOf S.L).length : Nat) : Int) < (((keysOf S.L).length : Nat) : Int)) = false := decide_eq_false (by omega)
            rw [List.take_length] at hF' hs'
            repeat (first
              | ((first | apply Wp.seqItemsR | apply Wp.itemsR); (· simp only [go_sem, reduceIte, Nat.reduceEqDiff, Nat.reduceAdd, bx, ax, if_true, if_false, Nat.reduceMul, Nat.reduceLeDiff, g1]; exact rfl))
              | (refine WpItems.nil ⟨?_, ?_⟩; (· first | trivial | simp [pairsQ, pairsOk, apart, ent0]))
              | (apply Wp.cond_lit; (· simp only [go_sem, reduceIte, Nat.reduceEqDiff, Nat.reduceAdd, bx, ax, if_true, if_false, Nat.reduceMul, Nat.reduceLeDiff, g1]; exact rfl); (· rfl))
              | refine Wp.skip ?_
              | refine Wp.label ?_
              | refine Wp.block ?_
              | refine Wp.exit ?_
              | refine Wp.seq ?_)
            refine Wp.le (StLe.of (fun i => VSub.refl _) (ole_drop_ob (Ok.alone on.ok)) (fun _ h => h) (Nat.le_refl _) (Nat.le_refl _)) ?_
            have on2 := On.under on
            have gs := on2.ok.at0 hs'
            repeat (first
              | ((first | apply Wp.seqItemsR | apply Wp.itemsR); (· simp only [go_sem, reduceIte, Nat.reduceEqDiff, Nat.reduceAdd, bx, ax, if_true, if_false, Nat.reduceMul, Nat.reduceLeDiff, gs]; exact rfl))
              | (refine WpItems.nil ⟨?_, ?_⟩; (· first | trivial | simp [pairsQ, pairsOk, apart, ent0]))
              | (apply Wp.cond_lit; (· simp only [go_sem, reduceIte, Nat.reduceEqDiff, Nat.reduceAdd, bx, ax, if_true, if_false, Nat.reduceMul, Nat.reduceLeDiff, gs]; exact rfl); (· rfl))
              | refine Wp.skip ?_
              | refine Wp.label ?_
              | refine Wp.block ?_
              | refine Wp.exit ?_
              | refine Wp.seq ?_)
            have on3 := on2.step (On.put (o := .cells [K', .mp c', .int .i64 (vacS mark S (keysOf S.L)).last, .int .i64 mark]) on2.ok (by rw [hs']; rfl))
            have hF3 := hF'.times hs' (vacS mark S (keysOf S.L)).last mark
            refine Wp.ret ⟨trivial, .int .i64 0, rfl, .int .i64 (vacuumB S mark).2, [⟨upd F'.o s (some (.cells [K', .mp c', .int .i64 (vacS mark S (keysOf S.L)).last, .int .i64 mark])), F'.k⟩], ?_⟩
            rw [upd_lay]
            refine on3.ends (by rw [hres]; exact VSub.refl _) ⟨rfl, _, rfl, ?_⟩
            rw [hres]; exact hF3
end Go.Proofs.Ytpehfflehebmbaa.Space
end
section
set_option linter.unusedSimpArgs false
set_option linter.unusedVariables false
set_option maxRecDepth 10000
namespace Go.Proofs.Ytpehfflehebmbaa.Space
open Go Go.Av Go.Proofs Go.Proofs.Ytpehfflehebmbaa.C Go.Proofs.Ytpehfflehebmbaa.Batch
instance : Inhabited It := ⟨([], [])⟩
def encI (p : It) : AV := .agg [.str p.1, vAV p.2]
theorem mget_at {L : List It} (h : RiseL L) {i : Nat} (hi : i < L.length) : mget L ((keysOf L).getD i []) = (L.getD i default).2 := by
  have hk : (keysOf L).length = L.length := by simp [keysOf]
  have key : ∀ (L : List It), (L.map (·.1)).Pairwise (fun a b => a ≠ b) → ∀ i (hi : i < L.length), mget L (L[i]).1 = (L[i]).2 := by
    intro L
    induction L with
    | nil => intro _ i hi; simp at hi
    | cons p L ih =>
      intro hp i hi
      rw [List.map_cons, List.pairwise_cons] at hp
      cases i with
      | zero => simp [mget]
      | succ i =>
        have hi' : i < L.length := by simpa using hi
        have : p.1 ≠ (L[i]).1 := hp.1 _ (List.mem_map.2 ⟨L[i], List.getElem_mem hi', rfl⟩)
        simp only [List.getElem_cons_succ, mget, if_neg this]
        exact ih hp.2 i hi'
  have hp : (L.map (·.1)).Pairwise (fun a b => a ≠ b) := List.Pairwise.imp (fun {a b} h e => by rw [e, less_irrefl] at h; cases h) h
  rw [getD_el (by omega), getD_el hi]
  have := key L hp i hi
  simpa [keysOf] using this
set_option maxHeartbeats 1000000 in
theorem items_g {s : Nat} {S : Spc} {F : Fr} (hF : SpcF s S F) (hr : RiseL S.L) (hS : Small S) : GCalls Try.prog 24 [.ptr s 0] [F] (fun r l => r = .sl 2 (S.L.map encI) .any ∧ l = [F]) := by
  obtain ⟨c, M, K, hM, hsc, hs, hc, hK⟩ := hF.go
  refine f24.gsame (by simp) fun n m ok => ?_
  unfold c24
  have ksF : ks [F] = [] := by simp [ks, hF.k]
  rw [ksF] at ok ⊢
  have fs := ok.at0 hs
  have fc := ok.at0 hc
  have hkl : (keysOf S.L).length = S.L.length := by simp [keysOf]
  have hS1 := hS.1
  rcases hK with ⟨rfl, h2⟩ | ⟨k, rfl, h2, h3, h4⟩
  · have g1 : decide ((0 : Int) < ((0 : Nat) : Int)) = false := rfl
    have hL : S.L = [] := by simpa [keysOf] using h2
    repeat (first
      | ((first | apply Wp.seqItemsR | apply Wp.itemsR | ((first
          | (refine WpItems.glook ?_ ?_ (made_r hF) (by first | exact fun j o h => h | exact ok.sub (by simp) | assumption) (fun ids => ?_); (· simp only [go_sem, reduceIte, Nat.reduceEqDiff, Nat.reduceAdd, bx]); (· simp only [go_sem, reduceIte, Nat.reduceEqDiff, Nat.reduceAdd, bx, List.map]; first | exact VSubs.refl _ | (repeat (first | exact VSubs.nil | refine VSubs.cons (by first | exact VSub.refl _ | assumption | exact VSub.cap | exact VSub.any _) ?_))))); apply WpItems.evR)); (· simp only [go_sem, reduceIte, Nat.reduceEqDiff, Nat.reduceAdd, bx, ax, if_true, if_false, Nat.reduceMul, Nat.reduceLeDiff, fs]; exact rfl))
      | (refine WpItems.nil ⟨?_, ?_⟩; (· first | trivial | simp [pairsQ, pairsOk, apart, ent0]))
      | (apply Wp.cond_lit; (· simp only [go_sem, reduceIte, Nat.reduceEqDiff, Nat.reduceAdd, bx, ax, if_true, if_false, Nat.reduceMul, Nat.reduceLeDiff, fs]; exact rfl); (· rfl))
      | refine Wp.skip ?_
      | refine Wp.label ?_
      | refine Wp.block ?_
      | refine Wp.exit ?_
      | refine Wp.seq ?_)
    refine Wp.loopL (WpL.next ?_)
    repeat (first
      | ((first | apply Wp.seqItemsR | apply Wp.itemsR); (· simp only [go_sem, reduceIte, Nat.reduceEqDiff, Nat.reduceAdd, bx, ax, if_true, if_false, Nat.reduceMul, Nat.reduceLeDiff, g1]; exact rfl))
      | (refine WpItems.nil ⟨?_, ?_⟩; (· first | trivial | simp [pairsQ, pairsOk, apart, ent0]))
      | (apply Wp.cond_lit; (· simp only [go_sem, reduceIte, Nat.reduceEqDiff, Nat.reduceAdd, bx, ax, if_true, if_false, Nat.reduceMul, Nat.reduceLeDiff, g1]; exact rfl); (· rfl))
      | refine Wp.skip ?_
      | refine Wp.label ?_
      | refine Wp.block ?_
      | refine Wp.exit ?_
      | refine Wp.seq ?_)
    refine Wp.ret ⟨trivial, _, rfl, ?_, fun j hj => rfl, fun t ht => ht⟩
    rw [hL]; exact VSub.cap
  · have fk := ok.at0 h2
    repeat (first
      | ((first | apply Wp.seqItemsR | apply Wp.itemsR | ((first
          | (refine WpItems.glook ?_ ?_ (made_r hF) (by first | exact fun j o h => h | exact ok.sub (by simp) | assumption) (fun ids => ?_); (· simp only [go_sem, reduceIte, Nat.reduceEqDiff, Nat.reduceAdd, bx]); (· simp only [go_sem, reduceIte, Nat.reduceEqDiff, Nat.reduceAdd, bx, List.map]; first | exact VSubs.refl _ | (repeat (first | exact VSubs.nil | refine VSubs.cons (by first | exact VSub.refl _ | assumption | exact VSub.cap | exact VSub.any _) ?_))))); apply WpItems.evR)); (· simp only [go_sem, reduceIte, Nat.reduceEqDiff, Nat.reduceAdd, bx, ax, if_true, if_false, Nat.reduceMul, Nat.reduceLeDiff, fs]; exact rfl))
      | (refine WpItems.nil ⟨?_, ?_⟩; (· first | trivial | simp [pairsQ, pairsOk, apart, ent0]))
      | (apply Wp.cond_lit; (· simp only [go_sem, reduceIte, Nat.reduceEqDiff, Nat.reduceAdd, bx, ax, if_true, if_false, Nat.reduceMul, Nat.reduceLeDiff, fs]; exact rfl); (· rfl))
      | refine Wp.skip ?_
      | refine Wp.label ?_
      | refine Wp.block ?_
      | refine Wp.exit ?_
      | refine Wp.seq ?_)
    refine Wp.le (StLe.tok _ _) ?_
    refine Wp.loopTok (β := Nat) [0, 12, 13] (by simp only [go_sem, reduceIte, Nat.reduceEqDiff, List.map]; exact rfl) (fun j tk => [(14, .int .i64 (j : Nat)), (3, .sl 2 ((S.L.take j).map encI) (.own tk))]) (fun j => j ≤ S.L.length) (fun j => S.L.length - j) 0 m (Nat.zero_le _) rfl ?_ ?_
    · simp only [AllSub, go_sem, reduceIte, Nat.reduceEqDiff]
      exact ⟨VSub.refl _, VSub.own_of rfl, trivial⟩
    intro j tk m1 hj
    by_cases hj2 : j < S.L.length
    · have g1 : decide (((j : Nat) : Int) < (((keysOf S.L).length : Nat) : Int)) = true := decide_eq_true (by omega)
      have h2 : (0 : Int) ≤ ((j : Nat) : Int) := by omega
      have h3 : ((j : Nat) : Int) < (((keysOf S.L).length : Nat) : Int) := by omega
      have e1 : IntKind.i64.wrap (((j : Nat) : Int) + 1) = ((j + 1 : Nat) : Int) := by rw [IntWalk.i64_in _ (by omega)]; omega
      have hget : (strs (keysOf S.L))[j]? = some (.str ((keysOf S.L).getD j [])) := by
        have : j < (keysOf S.L).length := by omega
        simp [strs, this]
      have hmg := mget_at hr hj2
      have hkj : (keysOf S.L).getD j [] = (S.L.getD j default).1 := by
        rw [getD_el (by omega), getD_el hj2]; simp [keysOf]
      have hstep : (S.L.take (j + 1)).map encI = (S.L.take j).map encI ++ [encI (S.L.getD j default)] := by
        rw [take_snoc default hj2, List.map_append]; rfl
      have hlk := look_sub M ((keysOf S.L).getD j [])
      rw [hM.eq, hmg] at hlk
      have hlen := hS.2 ((keysOf S.L).getD j [])
      rw [hmg] at hlen
      rw [hkj] at hlk hget
      generalize S.L.getD j default = x at *
      have hcl := clone_p x.2 (by omega)
      unfold vAV at hlk
      have fit : VSubs [lookAV (.sl 3 [] (.exact 0)) false (mres M x.1)] [.sl 3 (x.2.map encV) .any] := VSubs.cons hlk VSubs.nil
      have hm : ((S.L.take j).map encI).length = j := by simp; omega
      have rm1 : (j + 1) * 40 ≤ 140737488355328 := by omega
      have rm2 : j + 1 < 4611686018427387904 := by omega
      repeat (first
        | ((first | apply Wp.seqItemsR | apply Wp.itemsR | ((first
            | (refine WpItems.pcall ?_ ?_ (hcl) ?_; (· simp only [go_sem, reduceIte, Nat.reduceEqDiff, Nat.reduceAdd, bx]); (· simp only [go_sem, reduceIte, Nat.reduceEqDiff, Nat.reduceAdd, bx, List.map]; exact fit))); apply WpItems.evR)); (· simp only [go_sem, reduceIte, Nat.reduceEqDiff, Nat.reduceAdd, bx, ax, if_true, if_false, Nat.reduceMul, Nat.reduceLeDiff, g1, h2, h3, fk, hget, fs, fc, mfind_enc, Nat.zero_add, Nat.mul_one, hm, rm1, rm2, List.mem_singleton, List.length_cons, List.length_nil, e1]; exact rfl))
        | (refine WpItems.nil ⟨?_, ?_⟩; (· first | trivial | simp [pairsQ, pairsOk, apart, ent0]))
        | (apply Wp.cond_lit; (· simp only [go_sem, reduceIte, Nat.reduceEqDiff, Nat.reduceAdd, bx, ax, if_true, if_false, Nat.reduceMul, Nat.reduceLeDiff, g1, h2, h3, fk, hget, fs, fc, mfind_enc, Nat.zero_add, Nat.mul_one, hm, rm1, rm2, List.mem_singleton, List.length_cons, List.length_nil, e1]; exact rfl); (· rfl))
        | refine Wp.skip ?_
        | refine Wp.label ?_
        | refine Wp.block ?_
        | refine Wp.exit ?_
        | refine Wp.seq ?_)
      refine ⟨j + 1, m1, m1 + 1, by omega, by omega, ?_⟩
      rw [hstep]
      refine StLe.tm (by simp only [AllSub, go_sem, reduceIte, Nat.reduceEqDiff, Nat.reduceAdd, bx]; and_intros <;> first | exact trivial | exact VSub.refl _ | exact VSub.any _ | (refine VSub.int ?_; omega))
    · have hje : j = S.L.length := by omega
      subst hje
      rw [hkl]
      have g1 : decide (((S.L.length : Nat) : Int) < ((S.L.length : Nat) : Int)) = false := decide_eq_false (by omega)
      repeat (first
        | ((first | apply Wp.seqItemsR | apply Wp.itemsR); (· simp only [go_sem, reduceIte, Nat.reduceEqDiff, Nat.reduceAdd, bx, ax, if_true, if_false, Nat.reduceMul, Nat.reduceLeDiff, g1]; exact rfl))
        | (refine WpItems.nil ⟨?_, ?_⟩; (· first | trivial | simp [pairsQ, pairsOk, apart, ent0]))
        | (apply Wp.cond_lit; (· simp only [go_sem, reduceIte, Nat.reduceEqDiff, Nat.reduceAdd, bx, ax, if_true, if_false, Nat.reduceMul, Nat.reduceLeDiff, g1]; exact rfl); (· rfl))
        | refine Wp.skip ?_
        | refine Wp.label ?_
        | refine Wp.block ?_
        | refine Wp.exit ?_
        | refine Wp.seq ?_)
      refine Wp.ret ⟨trivial, _, rfl, ?_, fun j hj => rfl, fun t ht => by simp at ht⟩
      rw [List.take_length]; exact VSub.cap
end Go.Proofs.Ytpehfflehebmbaa.Space
end
section
set_option linter.unusedSimpArgs false
set_option linter.unusedVariables false
set_option maxRecDepth 10000
namespace Go.Proofs.Ytpehfflehebmbaa.Space
open Go Go.Av Go.Proofs Go.Proofs.Ytpehfflehebmbaa.C Go.Proofs.Ytpehfflehebmbaa.Batch
def layL (A : List It) (l : List It) : List It := l.foldl (fun A p => setL A p.1 p.2) A
end Go.Proofs.Ytpehfflehebmbaa.Space
end
section
set_option linter.unusedSimpArgs false
set_option linter.unusedVariables false
set_option maxRecDepth 10000
namespace Go.Proofs.Ytpehfflehebmbaa.Space
open Go Go.Av Go.Proofs Go.Proofs.Ytpehfflehebmbaa.C Go.Proofs.Ytpehfflehebmbaa.Batch
def mayB (x : It) (ahead : Bs) (first : Bool) (last : Int) : Bool := decide ((x.1.length : Int) ≤ 128) && (first || Op.bytesLess ahead x.1) && decide (0 < x.2.length) && chB x.2 && decide ((x.2.getD 0 default).t ≤ last)
end Go.Proofs.Ytpehfflehebmbaa.Space
end
section
set_option linter.unusedSimpArgs false
set_option linter.unusedVariables false
set_option maxRecDepth 10000
namespace Go.Proofs.Ytpehfflehebmbaa.Space
open Go Go.Av Go.Proofs Go.Proofs.Ytpehfflehebmbaa.C Go.Proofs.Ytpehfflehebmbaa.Batch
def aheadAt (l : List It) (i : Nat) : Bs := if i = 0 then [] else (l.getD (i - 1) default).1
def ldAt (l : List It) (last : Int) (i : Nat) : Bool := mayB (l.getD i default) (aheadAt l i) (decide (i = 0)) last
def ldB (l : List It) (last mark : Int) : Bool := !decide (last < 0) && !decide (1152921504606846976 < last) && !decide (mark < 0) && !decide (last < mark) && (List.range l.length).all (ldAt l last)
end Go.Proofs.Ytpehfflehebmbaa.Space
end
section
set_option linter.unusedSimpArgs false
set_option linter.unusedVariables false
set_option maxRecDepth 10000
namespace Go.Proofs.Ytpehfflehebmbaa.Space
open Go Go.Av Go.Proofs Go.Proofs.Ytpehfflehebmbaa.C Go.Proofs.Ytpehfflehebmbaa.Batch
theorem keysOf_cons (p : It) (L : List It) : keysOf (p :: L) = p.1 :: keysOf L := rfl
theorem plK_cons (k : Bs) (ks : List Bs) (q : Bs) : plK (k :: ks) q = if Op.bytesLess k q = true then plK ks q + 1 else 0 := by
  simp only [plK, List.findIdx_cons]
  cases h : Op.bytesLess k q <;> simp
theorem thK_nil (q : Bs) : thK [] q = false := by simp [thK]
theorem thK_cons (k : Bs) (ks : List Bs) (q : Bs) : thK (k :: ks) q = if Op.bytesLess k q = true then thK ks q else decide (k = q) := by
  simp only [thK, plK_cons]
  cases h : Op.bytesLess k q <;> simp
theorem setL_nil (q : Bs) (v : List Ver) : setL [] q v = if v = [] then [] else [(q, v)] := by
  simp [setL, keysOf, thK_nil, plK]
theorem setL_cons (p : It) (L : List It) (q : Bs) (v : List Ver) : setL (p :: L) q v = if Op.bytesLess p.1 q = true then p :: setL L q v else if p.1 = q then (if v = [] then L else (q, v) :: L) else (if v = [] then p :: L else (q, v) :: p :: L) := by
  simp only [setL, keysOf_cons, thK_cons, plK_cons]
  by_cases h : Op.bytesLess p.1 q = true
  · simp only [if_pos h, List.take_succ_cons, List.drop_succ_cons, List.cons_append]
    split <;> split <;> rfl
  · simp only [if_neg h]
    by_cases e : p.1 = q
    · simp [e]
    · simp [e]
theorem setL_mid (q : Bs) (v : List Ver) (B : List It) : ∀ A : List It, (∀ p ∈ A, Op.bytesLess p.1 q = true) → setL (A ++ B) q v = A ++ setL B q v
  | [], _ => rfl
  | p :: A, h => by
    rw [List.cons_append, setL_cons, if_pos (h p (by simp)), setL_mid q v B A (fun x hx => h x (by simp [hx]))]; rfl
theorem rise_cons {p : It} {L : List It} : RiseL (p :: L) ↔ (∀ x ∈ L, Op.bytesLess p.1 x.1 = true) ∧ RiseL L := by
  simp [RiseL, Rise, keysOf, List.pairwise_cons]
theorem rise_app {A B : List It} : RiseL (A ++ B) ↔ RiseL A ∧ RiseL B ∧ ∀ x ∈ A, ∀ y ∈ B, Op.bytesLess x.1 y.1 = true := by
  unfold RiseL Rise keysOf
  rw [List.map_append, List.pairwise_append]
  simp
theorem less_ne {a b : Bs} (h : Op.bytesLess a b = true) : a ≠ b := fun e => by rw [e, less_irrefl] at h; cases h
theorem after {p : It} {L : List It} {q : Bs} (hr : RiseL (p :: L)) (h : Op.bytesLess p.1 q = false) : ∀ x ∈ L, x.1 ≠ q := by
  intro x hx e
  have := (rise_cons.1 hr).1 x hx
  rw [e, h] at this; cases this
def Full (L : List It) : Prop := ∀ p ∈ L, p.2 ≠ []
theorem layL_app : ∀ (l A : List It), RiseL (A ++ l) → Full l → layL A l = A ++ l
  | [], A, _, _ => by simp [layL]
  | p :: l, A, hr, hf => by
    have h1 := (rise_app.1 hr).2.2
    have hs : setL A p.1 p.2 = A ++ [p] := by
      have := setL_mid p.1 p.2 [] A (fun x hx => h1 x hx p (by simp))
      rw [List.append_nil, setL_nil, if_neg (hf p (by simp))] at this
      exact this
    have e : layL A (p :: l) = layL (setL A p.1 p.2) l := rfl
    rw [e, hs, layL_app l (A ++ [p]) (by simpa using hr) (fun x hx => hf x (by simp [hx]))]
    simp
theorem layL_self {L : List It} (hr : RiseL L) (hf : Full L) : layL [] L = L := by
  have := layL_app L [] (by simpa using hr) hf
  simpa using this
theorem setL_full {L : List It} (hf : Full L) (q : Bs) (v : List Ver) : Full (setL L q v) := by
  induction L with
  | nil => rw [setL_nil]; split <;> simp_all [Full]
  | cons p L ih =>
    have h1 : p.2 ≠ [] := hf p (by simp)
    have h2 : Full L := fun x hx => hf x (by simp [hx])
    have h3 := ih h2
    rw [setL_cons]
    intro x hx
    split at hx
    · rcases List.mem_cons.1 hx with rfl | hx
      · exact h1
      · exact h3 x hx
    · split at hx <;> split at hx
      · exact h2 x hx
      · rename_i hv
        rcases List.mem_cons.1 hx with rfl | hx
        · exact hv
        · exact h2 x hx
      · exact hf x hx
      · rename_i hv
        rcases List.mem_cons.1 hx with rfl | hx
        · exact hv
        · exact hf x hx
theorem mget_app_ne {A B : List It} {q : Bs} (h : ∀ x ∈ A, x.1 ≠ q) : mget (A ++ B) q = mget B q := by
  rw [mget_app, if_neg]
  intro hm
  obtain ⟨p, hp, e⟩ := List.mem_map.1 hm
  exact h p hp e
def vacR (mark : Int) (L : List It) : List It := L.filterMap fun p => if vacB p.2 mark = [] then none else some (p.1, vacB p.2 mark)
theorem vacR_keys {mark : Int} {L : List It} {x : It} (h : x ∈ vacR mark L) : ∃ p ∈ L, p.1 = x.1 := by
  obtain ⟨p, hp, e⟩ := List.mem_filterMap.1 h
  split at e
  · cases e
  · cases e; exact ⟨p, hp, rfl⟩
theorem vacS_go (mark : Int) (a b : Int) : ∀ (B A : List It), RiseL (A ++ B) → vacS mark ⟨vacR mark A ++ B, a, b⟩ (keysOf B) = ⟨vacR mark (A ++ B), a, b⟩
  | [], A, _ => by simp [vacS, keysOf]
  | p :: B, A, hr => by
    have h1 := (rise_app.1 hr).2.2
    have hlt : ∀ x ∈ vacR mark A, Op.bytesLess x.1 p.1 = true := fun x hx => by
      obtain ⟨y, hy, e⟩ := vacR_keys hx
      rw [← e]; exact h1 y hy p (by simp)
    have hg : mget (vacR mark A ++ p :: B) p.1 = p.2 := by
      rw [mget_app_ne (fun x hx => less_ne (hlt x hx))]; simp [mget]
    have e1 : vacS mark ⟨vacR mark A ++ p :: B, a, b⟩ (keysOf (p :: B)) = vacS mark (vacStep mark ⟨vacR mark A ++ p :: B, a, b⟩ p.1) (keysOf B) := rfl
    have e2 : vacStep mark ⟨vacR mark A ++ p :: B, a, b⟩ p.1 = ⟨vacR mark (A ++ [p]) ++ B, a, b⟩ := by
      simp only [vacStep, setS, hg, setL_mid _ _ _ _ hlt, setL_cons, less_irrefl, Bool.false_eq_true, if_false, if_true]
      by_cases hv : vacB p.2 mark = []
      · simp [vacR, hv]
      · simp [vacR, hv]
    rw [e1, e2, vacS_go mark a b B (A ++ [p]) (by simpa using hr)]
    simp
theorem vacS_eq {S : Spc} (hr : RiseL S.L) (mark : Int) : vacS mark S (keysOf S.L) = { S with L := vacR mark S.L } := by
  have := vacS_go mark S.last S.mark S.L [] (by simpa using hr)
  simpa [vacR] using this
theorem vacR_full (mark : Int) (L : List It) : Full (vacR mark L) := by
  intro x hx
  obtain ⟨p, hp, e⟩ := List.mem_filterMap.1 hx
  split at e
  · cases e
  · cases e; assumption
def inB (k a b : Bs) : Bool := !Op.bytesLess k a && selP b k
end Go.Proofs.Ytpehfflehebmbaa.Space
end
section
set_option linter.unusedSimpArgs false
set_option linter.unusedVariables false
set_option maxRecDepth 10000
namespace Go.Proofs.Ytpehfflehebmbaa.Space
open Go Go.Av Go.Proofs Go.Proofs.Ytpehfflehebmbaa.C Go.Proofs.Ytpehfflehebmbaa.Batch
theorem within_p (k a b : Bs) (lk : Ls k) (la : Ls a) (lb : Ls b) : PCalls Try.prog 113 [.str k, .str a, .str b] (.bool (inB k a b)) := by
  refine f113.pcalls0 (by simp) (by simp [allPure, isPure]) rfl ?_
  unfold c113
  have b1 := below_p k a lk la
  have b2 := below_p k b lk lb
  cases h1 : Op.bytesLess k a with
  | true =>
    rw [h1] at b1
    repeat (first
      | ((first | apply Wp.seqItemsR | apply Wp.itemsR | ((first
          | (refine WpItems.pcall ?_ ?_ (b1) ?_; (· simp only [go_sem, reduceIte, Nat.reduceEqDiff, Nat.reduceAdd, bx]); (· simp only [go_sem, reduceIte, Nat.reduceEqDiff, Nat.reduceAdd, bx, List.map]; first | exact VSubs.refl _ | (repeat (first | exact VSubs.nil | refine VSubs.cons (by first | exact VSub.refl _ | assumption | exact VSub.cap | exact VSub.any _) ?_))))); apply WpItems.evR)); (· simp only [go_sem, reduceIte, Nat.reduceEqDiff, Nat.reduceAdd, bx, ax, if_true, if_false, Nat.reduceMul, Nat.reduceLeDiff, h1]; exact rfl))
      | (refine WpItems.nil ⟨?_, ?_⟩; (· first | trivial | simp [pairsQ, pairsOk, apart, ent0]))
      | (apply Wp.cond_lit; (· simp only [go_sem, reduceIte, Nat.reduceEqDiff, Nat.reduceAdd, bx, ax, if_true, if_false, Nat.reduceMul, Nat.reduceLeDiff, h1]; exact rfl); (· rfl))
      | refine Wp.skip ?_
      | refine Wp.label ?_
      | refine Wp.block ?_
      | refine Wp.exit ?_
      | refine Wp.seq ?_)
    refine Wp.ret ⟨trivial, _, rfl, ?_⟩
    simp only [go_sem, reduceIte, Nat.reduceEqDiff, Nat.reduceAdd, bx]
    rw [inB, h1]; exact VSub.refl _
  | false =>
    rw [h1] at b1
    by_cases h2 : b = []
    · have d2 := decide_eq_true h2
      repeat (first
        | ((first | apply Wp.seqItemsR | apply Wp.itemsR | ((first
            | (refine WpItems.pcall ?_ ?_ (b1) ?_; (· simp only [go_sem, reduceIte, Nat.reduceEqDiff, Nat.reduceAdd, bx]); (· simp only [go_sem, reduceIte, Nat.reduceEqDiff, Nat.reduceAdd, bx, List.map]; first | exact VSubs.refl _ | (repeat (first | exact VSubs.nil | refine VSubs.cons (by first | exact VSub.refl _ | assumption | exact VSub.cap | exact VSub.any _) ?_))))); apply WpItems.evR)); (· simp only [go_sem, reduceIte, Nat.reduceEqDiff, Nat.reduceAdd, bx, ax, if_true, if_false, Nat.reduceMul, Nat.reduceLeDiff, d2]; exact rfl))
        | (refine WpItems.nil ⟨?_, ?_⟩; (· first | trivial | simp [pairsQ, pairsOk, apart, ent0]))
        | (apply Wp.cond_lit; (· simp only [go_sem, reduceIte, Nat.reduceEqDiff, Nat.reduceAdd, bx, ax, if_true, if_false, Nat.reduceMul, Nat.reduceLeDiff, d2]; exact rfl); (· rfl))
        | refine Wp.skip ?_
        | refine Wp.label ?_
        | refine Wp.block ?_
        | refine Wp.exit ?_
        | refine Wp.seq ?_)
      refine Wp.ret ⟨trivial, _, rfl, ?_⟩
      simp only [go_sem, reduceIte, Nat.reduceEqDiff, Nat.reduceAdd, bx]
      rw [inB, selP, h1, d2]; exact VSub.refl _
    · have d2 := decide_eq_false h2
      repeat (first
        | ((first | apply Wp.seqItemsR | apply Wp.itemsR | ((first
            | (refine WpItems.pcall ?_ ?_ (b1) ?_; (· simp only [go_sem, reduceIte, Nat.reduceEqDiff, Nat.reduceAdd, bx]); (· simp only [go_sem, reduceIte, Nat.reduceEqDiff, Nat.reduceAdd, bx, List.map]; first | exact VSubs.refl _ | (repeat (first | exact VSubs.nil | refine VSubs.cons (by first | exact VSub.refl _ | assumption | exact VSub.cap | exact VSub.any _) ?_))))
            | (refine WpItems.pcall ?_ ?_ (b2) ?_; (· simp only [go_sem, reduceIte, Nat.reduceEqDiff, Nat.reduceAdd, bx]); (· simp only [go_sem, reduceIte, Nat.reduceEqDiff, Nat.reduceAdd, bx, List.map]; first | exact VSubs.refl _ | (repeat (first | exact VSubs.nil | refine VSubs.cons (by first | exact VSub.refl _ | assumption | exact VSub.cap | exact VSub.any _) ?_))))); apply WpItems.evR)); (· simp only [go_sem, reduceIte, Nat.reduceEqDiff, Nat.reduceAdd, bx, ax, if_true, if_false, Nat.reduceMul, Nat.reduceLeDiff, d2]; exact rfl))
        | (refine WpItems.nil ⟨?_, ?_⟩; (· first | trivial | simp [pairsQ, pairsOk, apart, ent0]))
        | (apply Wp.cond_lit; (· simp only [go_sem, reduceIte, Nat.reduceEqDiff, Nat.reduceAdd, bx, ax, if_true, if_false, Nat.reduceMul, Nat.reduceLeDiff, d2]; exact rfl); (· rfl))
        | refine Wp.skip ?_
        | refine Wp.label ?_
        | refine Wp.block ?_
        | refine Wp.exit ?_
        | refine Wp.seq ?_)
      refine Wp.ret ⟨trivial, _, rfl, ?_⟩
      simp only [go_sem, reduceIte, Nat.reduceEqDiff, Nat.reduceAdd, bx]
      rw [inB, selP, h1, d2]; exact VSub.refl _
end Go.Proofs.Ytpehfflehebmbaa.Space
end
section
set_option linter.unusedSimpArgs false
set_option linter.unusedVariables false
set_option maxRecDepth 10000
namespace Go.Proofs.Ytpehfflehebmbaa.Space
open Go Go.Av Go.Proofs Go.Proofs.Ytpehfflehebmbaa.C Go.Proofs.Ytpehfflehebmbaa.Batch
theorem samePr_p (a b : List Pr) (ha : a.length ≤ 1000000) : PCalls Try.prog 18 [.sl 2 (prs a) .any, .sl 2 (prs b) .any] (.bool (decide (a = b))) := by
  refine f18.pcalls0 (by simp) (by simp [allPure, isPure, capPure, prs_pure]) rfl ?_
  unfold c18
  by_cases hab : a.length = b.length
  · have g0 : decide ((a.length : Int) = (b.length : Int)) = true := decide_eq_true (by omega)
    repeat (first
      | ((first | apply Wp.seqItemsR | apply Wp.itemsR); (· simp only [go_sem, reduceIte, Nat.reduceEqDiff, Nat.reduceAdd, bx, ax, if_true, if_false, Nat.reduceMul, Nat.reduceLeDiff, g0, prs_length]; exact rfl))
      | (refine WpItems.nil ⟨?_, ?_⟩; (· first | trivial | simp [pairsQ, pairsOk, apart, ent0]))
      | (apply Wp.cond_lit; (· simp only [go_sem, reduceIte, Nat.reduceEqDiff, Nat.reduceAdd, bx, ax, if_true, if_false, Nat.reduceMul, Nat.reduceLeDiff, g0, prs_length]; exact rfl); (· rfl))
      | refine Wp.skip ?_
      | refine Wp.label ?_
      | refine Wp.block ?_
      | refine Wp.exit ?_
      | refine Wp.seq ?_)
    refine Wp.loopK [0, 1] (by simp only [go_sem, reduceIte, Nat.reduceEqDiff, Nat.reduceAdd, bx, List.map]; exact rfl) (fun j : Nat => [(5, .int .i64 (j : Nat))]) (fun j => j ≤ a.length ∧ ∀ i, i < j → a.getD i default = b.getD i default) (fun j => a.length - j) 0 ⟨Nat.zero_le _, fun i h => absurd h (by omega)⟩ ?_ ?_
    · simp only [AllSub, go_sem, reduceIte, Nat.reduceEqDiff, Nat.reduceAdd, bx]; and_intros <;> first | exact trivial | exact VSub.refl _ | exact VSub.any _ | (refine VSub.int ?_; omega)
    rintro j ⟨hj, hs⟩
    by_cases hc : j < a.length
    · have g1 : decide (((j : Nat) : Int) < ((a.length : Nat) : Int)) = true := decide_eq_true (by omega)
      have h2 : (0 : Int) ≤ ((j : Nat) : Int) := by omega
      have h3 : ((j : Nat) : Int) < ((a.length : Nat) : Int) := by omega
      have e1 : IntKind.i64.wrap (((j : Nat) : Int) + 1) = ((j + 1 : Nat) : Int) := by rw [IntWalk.i64_in _ (by omega)]; omega
      have h3' : (j : Int) < (b.length : Int) := by omega
      have he : ∀ (x y : Pr), (decide (x.k = y.k) && decide (x.v = y.v)) = decide (x = y) := by
        rintro ⟨x1, x2⟩ ⟨y1, y2⟩
        rw [Bool.eq_iff_iff]; simp
      cases hp : decide (a.getD j default = b.getD j default) with
      | true =>
        have hp' := (he _ _).trans hp
        repeat (first
          | ((first | apply Wp.seqItemsR | apply Wp.itemsR); (· simp only [go_sem, reduceIte, Nat.reduceEqDiff, Nat.reduceAdd, bx, ax, if_true, if_false, Nat.reduceMul, Nat.reduceLeDiff, g1, h2, h3, h3', e1, hp', prs_length, prs_getD _ _ _ hc, prs_getD b j _ (show j < b.length by omega), encPr]; exact rfl))
          | (refine WpItems.nil ⟨?_, ?_⟩; (· first | trivial | simp [pairsQ, pairsOk, apart, ent0]))
          | (apply Wp.cond_lit; (· simp only [go_sem, reduceIte, Nat.reduceEqDiff, Nat.reduceAdd, bx, ax, if_true, if_false, Nat.reduceMul, Nat.reduceLeDiff, g1, h2, h3, h3', e1, hp', prs_length, prs_getD _ _ _ hc, prs_getD b j _ (show j < b.length by omega), encPr]; exact rfl); (· rfl))
          | refine Wp.skip ?_
          | refine Wp.label ?_
          | refine Wp.block ?_
          | refine Wp.exit ?_
          | refine Wp.seq ?_)
        refine ⟨j + 1, ⟨by omega, fun i hi => ?_⟩, by omega, ?_⟩
        · by_cases e : i = j
          · subst e; exact of_decide_eq_true hp
          · exact hs i (by omega)
        · refine StLe.tm (by simp only [AllSub, go_sem, reduceIte, Nat.reduceEqDiff, Nat.reduceAdd, bx]; and_intros <;> first | exact trivial | exact VSub.refl _ | exact VSub.any _ | (refine VSub.int ?_; omega))
      | false =>
        have hp' := (he _ _).trans hp
        repeat (first
          | ((first | apply Wp.seqItemsR | apply Wp.itemsR); (· simp only [go_sem, reduceIte, Nat.reduceEqDiff, Nat.reduceAdd, bx, ax, if_true, if_false, Nat.reduceMul, Nat.reduceLeDiff, g1, h2, h3, h3', e1, hp', prs_length, prs_getD _ _ _ hc, prs_getD b j _ (show j < b.length by omega), encPr]; exact rfl))
          | (refine WpItems.nil ⟨?_, ?_⟩; (· first | trivial | simp [pairsQ, pairsOk, apart, ent0]))
          | (apply Wp.cond_lit; (· simp only [go_sem, reduceIte, Nat.reduceEqDiff, Nat.reduceAdd, bx, ax, if_true, if_false, Nat.reduceMul, Nat.reduceLeDiff, g1, h2, h3, h3', e1, hp', prs_length, prs_getD _ _ _ hc, prs_getD b j _ (show j < b.length by omega), encPr]; exact rfl); (· rfl))
          | refine Wp.skip ?_
          | refine Wp.label ?_
          | refine Wp.block ?_
          | refine Wp.exit ?_
          | refine Wp.seq ?_)
        refine Wp.ret ⟨trivial, _, rfl, ?_⟩
        simp only [go_sem, reduceIte, Nat.reduceEqDiff, Nat.reduceAdd, bx]
        rw [decide_eq_false (fun e => of_decide_eq_false hp (by rw [e]))]; exact VSub.refl _
    · obtain rfl : j = a.length := by omega
      have g1 : decide (((a.length : Nat) : Int) < ((a.length : Nat) : Int)) = false := decide_eq_false (by omega)
      repeat (first
        | ((first | apply Wp.seqItemsR | apply Wp.itemsR); (· simp only [go_sem, reduceIte, Nat.reduceEqDiff, Nat.reduceAdd, bx, ax, if_true, if_false, Nat.reduceMul, Nat.reduceLeDiff, g1, prs_length]; exact rfl))
        | (refine WpItems.nil ⟨?_, ?_⟩; (· first | trivial | simp [pairsQ, pairsOk, apart, ent0]))
        | (apply Wp.cond_lit; (· simp only [go_sem, reduceIte, Nat.reduceEqDiff, Nat.reduceAdd, bx, ax, if_true, if_false, Nat.reduceMul, Nat.reduceLeDiff, g1, prs_length]; exact rfl); (· rfl))
        | refine Wp.skip ?_
        | refine Wp.label ?_
        | refine Wp.block ?_
        | refine Wp.exit ?_
        | refine Wp.seq ?_)
      refine Wp.ret ⟨trivial, _, rfl, ?_⟩
      simp only [go_sem, reduceIte, Nat.reduceEqDiff, Nat.reduceAdd, bx]
      have : a = b := by
        refine List.ext_getElem hab fun i h1 h2 => ?_
        have := hs i h1
        rwa [getD_el h1, getD_el h2] at this
      rw [decide_eq_true this]; exact VSub.refl _
  · have g0 : decide ((a.length : Int) = (b.length : Int)) = false := decide_eq_false (by omega)
    repeat (first
      | ((first | apply Wp.seqItemsR | apply Wp.itemsR); (· simp only [go_sem, reduceIte, Nat.reduceEqDiff, Nat.reduceAdd, bx, ax, if_true, if_false, Nat.reduceMul, Nat.reduceLeDiff, g0, prs_length]; exact rfl))
      | (refine WpItems.nil ⟨?_, ?_⟩; (· first | trivial | simp [pairsQ, pairsOk, apart, ent0]))
      | (apply Wp.cond_lit; (· simp only [go_sem, reduceIte, Nat.reduceEqDiff, Nat.reduceAdd, bx, ax, if_true, if_false, Nat.reduceMul, Nat.reduceLeDiff, g0, prs_length]; exact rfl); (· rfl))
      | refine Wp.skip ?_
      | refine Wp.label ?_
      | refine Wp.block ?_
      | refine Wp.exit ?_
      | refine Wp.seq ?_)
    refine Wp.ret ⟨trivial, _, rfl, ?_⟩
    simp only [go_sem, reduceIte, Nat.reduceEqDiff, Nat.reduceAdd, bx]
    rw [decide_eq_false (fun e => hab (by rw [e]))]; exact VSub.refl _
end Go.Proofs.Ytpehfflehebmbaa.Space
end
section
set_option linter.unusedSimpArgs false
set_option linter.unusedVariables false
set_option maxRecDepth 10000
namespace Go.Proofs.Ytpehfflehebmbaa.Space
open Go Go.Av Go.Proofs Go.Proofs.Ytpehfflehebmbaa.C Go.Proofs.Ytpehfflehebmbaa.Batch
end Go.Proofs.Ytpehfflehebmbaa.Space
end
section
set_option linter.unusedSimpArgs false
set_option linter.unusedVariables false
set_option maxRecDepth 10000
namespace Go.Proofs.Ytpehfflehebmbaa.Space
open Go Go.Av Go.Proofs Go.Proofs.Ytpehfflehebmbaa.C Go.Proofs.Ytpehfflehebmbaa.Batch
end Go.Proofs.Ytpehfflehebmbaa.Space
end
section
set_option linter.unusedSimpArgs false
set_option linter.unusedVariables false
set_option maxRecDepth 10000
namespace Go.Proofs.Ytpehfflehebmbaa.Space
open Go Go.Av Go.Proofs Go.Proofs.Ytpehfflehebmbaa.C Go.Proofs.Ytpehfflehebmbaa.Batch
theorem setL_mem {L : List It} {q : Bs} {v : List Ver} {x : It} (h : x ∈ setL L q v) : x = (q, v) ∨ x ∈ L := by
  unfold setL at h
  split at h <;> split at h
  · rcases List.mem_append.1 h with h | h
    · exact .inr (List.mem_of_mem_take h)
    · exact .inr (List.mem_of_mem_drop h)
  · exact .inr h
  · rcases List.mem_append.1 h with h | h
    · exact .inr (List.mem_of_mem_take h)
    · rcases List.mem_cons.1 h with h | h
      · exact .inl h
      · exact .inr (List.mem_of_mem_drop h)
  · rcases List.mem_append.1 h with h | h
    · exact .inr (List.mem_of_mem_take h)
    · rcases List.mem_cons.1 h with h | h
      · exact .inl h
      · exact .inr (List.mem_of_mem_drop h)
theorem setL_ls {L : List It} (lk : ∀ p ∈ L, Ls p.1) {q : Bs} (hq : Ls q) (v : List Ver) : ∀ p ∈ setL L q v, Ls p.1 := fun p hp => by
  rcases setL_mem hp with rfl | hp
  · exact hq
  · exact lk p hp
end Go.Proofs.Ytpehfflehebmbaa.Space
end
section
set_option linter.unusedSimpArgs false
set_option linter.unusedVariables false
set_option maxRecDepth 10000
namespace Go.Proofs.Ytpehfflehebmbaa.Space
open Go Go.Av Go.Proofs Go.Proofs.Ytpehfflehebmbaa.C Go.Proofs.Ytpehfflehebmbaa.Batch
theorem ld_key {l : List It} {last : Int} {j : Nat} (h : ldAt l last j = true) : (l.getD j default).1.length ≤ 128 := by
  simp only [ldAt, mayB, Bool.and_eq_true, decide_eq_true_eq] at h
  omega
theorem ld_next {l : List It} {last : Int} {j : Nat} (h : ldAt l last (j + 1) = true) : Op.bytesLess (l.getD j default).1 (l.getD (j + 1) default).1 = true := by
  simp only [ldAt, mayB, aheadAt, Bool.and_eq_true, Bool.or_eq_true, decide_eq_true_eq, Nat.add_one_ne_zero, false_or, if_false, Nat.add_sub_cancel] at h
  exact h.1.1.1.2
theorem ld_full {l : List It} {last : Int} {j : Nat} (h : ldAt l last j = true) : (l.getD j default).2 ≠ [] := by
  simp only [ldAt, mayB, Bool.and_eq_true, decide_eq_true_eq] at h
  exact List.length_pos_iff.1 h.1.1.2
theorem ld_all {l : List It} {last mark : Int} (h : ldB l last mark = true) {j : Nat} (hj : j < l.length) : ldAt l last j = true := by
  simp only [ldB, Bool.and_eq_true] at h
  exact List.all_eq_true.1 h.2 j (List.mem_range.2 hj)
theorem ld_rise {l : List It} {last mark : Int} (h : ldB l last mark = true) : RiseL l ∧ Full l := by
  have up : ∀ i j, i < j → j < l.length → Op.bytesLess (l.getD i default).1 (l.getD j default).1 = true := by
    intro i j hij
    induction j with
    | zero => omega
    | succ j ih =>
      intro hj
      have h1 := ld_next (ld_all h hj)
      by_cases e : i = j
      · rw [e]; exact h1
      · exact less_trans (ih (by omega) (by omega)) h1
  refine ⟨List.pairwise_iff_getElem.2 fun i j hi hj hij => ?_, fun p hp => ?_⟩
  · simp only [keysOf, List.length_map] at hi hj
    have := up i j hij hj
    rw [getD_el hi, getD_el hj] at this
    simpa [keysOf] using this
  · obtain ⟨i, hi, rfl⟩ := List.mem_iff_getElem.1 hp
    have := ld_full (ld_all h hi)
    rwa [getD_el hi] at this
end Go.Proofs.Ytpehfflehebmbaa.Space
end
section
set_option linter.unusedVariables false
set_option linter.unusedSimpArgs false
namespace Go.Av
section
variable {P : Program} {N : Nat}
theorem touch_swapI {A G G' B : List Fr} {n n' m m' : Nat} {T : List Nat} (ok : Ok (A ++ G ++ B) n T m) (ok' : Ok G' n' (ks G') m') (hn : n ≤ n') (hm : m ≤ m') (hw : ∀ j, n ≤ j ∨ (lay G j).isSome = true ∨ lay G' j = none) :
    ∃ ids, Touch ⟨lay (A ++ G ++ B), n, T, m⟩ ⟨lay G, n, ks G, m⟩ ⟨lay G', n', ks G', m'⟩ ⟨lay (A ++ G' ++ B), n', ks G' ++ T.filter (fun t => !(ks G).contains t), m'⟩ ⟨[], ids, ks G ++ ks G'⟩ ∧ ∀ id ∈ ids, (lay G id).isSome = true ∨ (n ≤ id ∧ id < n') := by
  have bG : ∀ j, n ≤ j → lay G j = none := fun j hj => lay_none.2 fun F hF => ok.bd F (by simp [hF]) j hj
  obtain ⟨ids, hi⟩ := ids_of bG
  refine ⟨ids ++ (List.range (n' - n)).map (n + ·), ?_, ?_⟩
  · have d1 := List.pairwise_append.1 (List.pairwise_append.1 ok.dj).1
    have tc := touch_gen (h := ⟨lay (A ++ G ++ B), n, T, m⟩) (h1 := ⟨lay G, n, ks G, m⟩) (h1' := ⟨lay G', n', ks G', m'⟩) (ids := ids) ⟨fun j o hj => ?_, fun t ht => ok.tk t ?_⟩ rfl rfl (fun id h => (hi id).1 h) hn hm
    · have e : (⟨lay (A ++ G' ++ B), n', ks G' ++ T.filter (fun t => !(ks G).contains t), m'⟩ : H) = H.patch ⟨lay (A ++ G ++ B), n, T, m⟩ ⟨lay G, n, ks G, m⟩ ⟨lay G', n', ks G', m'⟩ :=
        H.ext (fun j => (lay_patch ok ok' hn hw j).symm) rfl rfl rfl
      rw [e]; exact tc
    · show lay (A ++ G ++ B) j = some o
      have hj' : lay G j = some o := hj
      rw [lay_append, lay_append]
      have : lay A j = none := by
        cases hA : lay A j with
        | none => rfl
        | some o' =>
          obtain ⟨F, a, b⟩ := lay_some hA
          obtain ⟨F', a', b'⟩ := lay_some hj'
          rcases d1.2.2 F a F' a' j with e | e
          · rw [e] at b; cases b
          · rw [e] at b'; cases b'
      rw [this, hj']; rfl
    · have ht' : t ∈ ks G := ht
      rw [ks_append, ks_append]; simp [ht']
  · intro id hid
    rcases List.mem_append.1 hid with h | h
    · exact .inl ((hi id).2 h)
    · obtain ⟨k, hk, rfl⟩ := List.mem_map.1 h
      have := List.mem_range.1 hk
      exact .inr (by omega)
theorem WpItems.gkeepI {dst : Option Nat} {g : Option (Nat × Bool)} {f : FuncId} {l : List Opd} {its : List AItem} {t : Tm} {log : List Ent} {K : Tm → H → List Ent → Prop} {vals : List AV} {r : AV} {F : Fr} (A B : List Fr) {n m : Nat} {T : List Nat}
    (hg : guardOf t g = some true) (hs : VSubs (l.map (ev t)) vals) (hc : GCalls P f vals [F] fun r' l' => r' = r ∧ l' = [F]) (hk : F.k = []) (ok : Ok (A ++ F :: B) n T m)
    (rest : ∀ n' m' ids, n ≤ n' → m ≤ m' → (∀ id ∈ ids, (F.o id).isSome = true ∨ (n ≤ id ∧ id < n')) → Ok (A ++ F :: B) n' T m' → WpItems P N its (putT t dst r) ⟨lay (A ++ F :: B), n', T, m'⟩ (⟨[], ids, []⟩ :: log) K) :
    WpItems P N (⟨dst, g, .call f l⟩ :: its) t ⟨lay (A ++ F :: B), n, T, m⟩ log K := by
  have e : A ++ F :: B = A ++ [F] ++ B := by simp
  rw [e] at ok ⊢
  have okG : Ok [F] n (ks [F]) m := by
    have d1 := List.pairwise_append.1 (List.pairwise_append.1 ok.dj).1
    have t1 := List.pairwise_append.1 (List.pairwise_append.1 ok.td).1
    exact ⟨fun F hF => ok.bd F (by simp [List.mem_singleton.1 hF]), d1.2.1, fun t ht => ht, t1.2.1, fun t ht => ok.tb t (ok.tk t (by rw [ks_append, ks_append]; simp [ht]))⟩
  obtain ⟨r', G', n', m', h1, h2, h3, h4, h5, h6, rfl, rfl⟩ := hc n m okG
  obtain ⟨ids, tc, hi⟩ := touch_swapI ok h4 h2 h3 h5
  have k0 : ks [F] = [] := by simp [ks, hk]
  have f0 : T.filter (fun _ : Nat => true) = T := by simp
  have ok2 := ok.swap h4 h2 h3 h5 h6
  simp only [k0, List.nil_append, List.contains_nil, Bool.not_false, f0] at ok2 tc h1 ⊢
  have hi' : ∀ id ∈ ids, (F.o id).isSome = true ∨ (n ≤ id ∧ id < n') := fun id h => by
    have := hi id h
    rwa [lay_cons, show lay ([] : List Fr) id = none from rfl, Option.or_none] at this
  refine WpItems.acall hg hs h1 tc ?_
  rw [← e] at ok2 ⊢
  exact rest n' m' ids h2 h3 hi' ok2
theorem WpItems.gkeep0 {dst : Option Nat} {g : Option (Nat × Bool)} {f : FuncId} {l : List Opd} {its : List AItem} {t : Tm} {log : List Ent} {K : Tm → H → List Ent → Prop} {vals : List AV} {r : AV} {F : Fr} {n m : Nat} {T : List Nat}
    (hg : guardOf t g = some true) (hs : VSubs (l.map (ev t)) vals) (hc : GCalls P f vals [F] fun r' l' => r' = r ∧ l' = [F]) (hk : F.k = []) (ok : Ok [F] n T m)
    (rest : ∀ n' m' ids, On [F] n m [F] n' T m' → (∀ id ∈ ids, (F.o id).isSome = true ∨ (n ≤ id ∧ id < n')) → WpItems P N its (putT t dst r) ⟨lay [F], n', T, m'⟩ (⟨[], ids, []⟩ :: log) K) :
    WpItems P N (⟨dst, g, .call f l⟩ :: its) t ⟨lay [F], n, T, m⟩ log K :=
  WpItems.gkeepI [] [] hg hs hc hk ok fun n' m' ids a b c d => rest n' m' ids ⟨a, b, d, .refl, .refl⟩ c
end
end Go.Av
end
section
set_option linter.unusedSimpArgs false
set_option linter.unusedVariables false
set_option maxRecDepth 10000
namespace Go.Proofs.Ytpehfflehebmbaa.Space
open Go Go.Av Go.Proofs Go.Proofs.Ytpehfflehebmbaa.C Go.Proofs.Ytpehfflehebmbaa.Batch
structure Fit (S : Spc) (k : Nat) : Prop where
  ri : RiseL S.L
  fu : Full S.L
  ln : S.L.length ≤ k
  vs : ∀ p ∈ S.L, p.2.length ≤ k
  ls : ∀ p ∈ S.L, Ls p.1
theorem Fit.mono {S : Spc} {k j : Nat} (h : Fit S k) (hk : k ≤ j) : Fit S j := ⟨h.ri, h.fu, Nat.le_trans h.ln hk, fun p hp => Nat.le_trans (h.vs p hp) hk, h.ls⟩
theorem mget_len {L : List It} {k : Nat} (h : ∀ p ∈ L, p.2.length ≤ k) (q : Bs) : (mget L q).length ≤ k := by
  induction L with
  | nil => simp [mget]
  | cons p L ih =>
    rw [mget]
    split
    · exact h p (by simp)
    · exact ih (fun x hx => h x (by simp [hx]))
theorem Fit.room {S : Spc} {k j : Nat} (h : Fit S k) (hk : k + j ≤ 500000) : Room S j := ⟨by have := h.ln; omega, fun q => by have := mget_len h.vs q; omega⟩
theorem Fit.small {S : Spc} {k : Nat} (h : Fit S k) (hk : k ≤ 500000) : Small S := ⟨by have := h.ln; omega, fun q => by have := mget_len h.vs q; omega⟩
theorem Fit.zero : Fit ⟨[], 0, 0⟩ 0 := ⟨by simp [RiseL, Rise, keysOf], fun p hp => by simp at hp, Nat.le_refl _, fun p hp => by simp at hp, fun p hp => by simp at hp⟩
theorem Fit.lay {S : Spc} {k : Nat} (h : Fit S k) : layL [] S.L = S.L := layL_self h.ri h.fu
theorem Fit.times {S : Spc} {k : Nat} (h : Fit S k) (a b : Int) : Fit { S with last := a, mark := b } k := ⟨h.ri, h.fu, h.ln, h.vs, h.ls⟩
theorem Fit.step {S : Spc} {k : Nat} (h : Fit S k) (t : Int) (c : Ch) (hc : Ls c.k) : Fit (stepS t S c) (k + 1) := by
  refine ⟨setL_rise h.ri _ _, setL_full h.fu _ _, ?_, fun p hp => ?_, setL_ls h.ls hc _⟩
  · have := setL_len S.L c.k (addB (mget S.L c.k) ⟨t, c.v, c.d⟩).1
    have := h.ln
    simp only [stepS, setS]; omega
  · simp only [stepS, setS] at hp
    rcases setL_mem hp with rfl | hp
    · have h1 := add_len (mget S.L c.k) ⟨t, c.v, c.d⟩
      have h2 := mget_len h.vs c.k
      simp only; omega
    · have := h.vs p hp; omega
theorem Fit.dos : ∀ (l : List Ch) {S : Spc} {k : Nat} (h : Fit S k) (t : Int) (hc : ∀ c ∈ l, Ls c.k), Fit (doS t S l) (k + l.length)
  | [], S, k, h, t, hc => h
  | c :: l, S, k, h, t, hc => by
    have := Fit.dos l (h.step t c (hc c (by simp))) t (fun x hx => hc x (by simp [hx]))
    exact this.mono (by simp only [List.length_cons]; omega)
theorem Fit.apply {S : Spc} {k : Nat} (h : Fit S k) (t : Int) (l : List Ch) (hc : ∀ c ∈ l, Ls c.k) : Fit (applyB S t l).1 (k + l.length) := by
  unfold applyB
  split
  · exact h.mono (by omega)
  · split
    · exact h.mono (by omega)
    · have := Fit.dos l h t hc
      exact ⟨this.ri, this.fu, this.ln, this.vs, this.ls⟩
theorem vacR_mem {mark : Int} {L : List It} {x : It} (h : x ∈ vacR mark L) : ∃ p ∈ L, p.1 = x.1 ∧ x.2 = vacB p.2 mark := by
  obtain ⟨p, hp, e⟩ := List.mem_filterMap.1 h
  split at e
  · cases e
  · cases e; exact ⟨p, hp, rfl, rfl⟩
theorem vacR_rise (mark : Int) : ∀ L : List It, RiseL L → RiseL (vacR mark L)
  | [], _ => by simp [vacR, RiseL, Rise, keysOf]
  | p :: L, h => by
    obtain ⟨h1, h2⟩ := rise_cons.1 h
    have ih := vacR_rise mark L h2
    by_cases hv : vacB p.2 mark = []
    · have e : vacR mark (p :: L) = vacR mark L := by simp [vacR, hv]
      rw [e]; exact ih
    · have e : vacR mark (p :: L) = (p.1, vacB p.2 mark) :: vacR mark L := by simp [vacR, hv]
      rw [e]
      refine rise_cons.2 ⟨fun x hx => ?_, ih⟩
      obtain ⟨y, hy, e2, -⟩ := vacR_mem hx
      rw [← e2]; exact h1 y hy
theorem Fit.vac {S : Spc} {k : Nat} (h : Fit S k) (mark : Int) : Fit (vacuumB S mark).1 k := by
  unfold vacuumB
  split
  · exact h
  · rw [vacS_eq h.ri]
    refine ⟨vacR_rise mark S.L h.ri, vacR_full mark S.L, ?_, fun p hp => ?_, fun p hp => ?_⟩
    · have := List.length_filterMap_le (fun p : It => if vacB p.2 mark = [] then none else some (p.1, vacB p.2 mark)) S.L
      exact Nat.le_trans this h.ln
    · obtain ⟨y, hy, -, e⟩ := vacR_mem hp
      rw [e]
      exact Nat.le_trans (vac_len _ _) (h.vs y hy)
    · obtain ⟨y, hy, e, -⟩ := vacR_mem hp
      rw [← e]; exact h.ls y hy
theorem ld_ls {l : List It} {last mark : Int} (h : ldB l last mark = true) : ∀ p ∈ l, Ls p.1 := fun p hp => by
  obtain ⟨i, hi, rfl⟩ := List.mem_iff_getElem.1 hp
  have := ld_key (ld_all h hi)
  rw [getD_el hi] at this
  unfold Ls; omega
theorem Fit.load {l : List It} {last mark : Int} {k : Nat} (h : ldB l last mark = true) (hl : l.length ≤ k) (hv : ∀ p ∈ l, p.2.length ≤ k) : Fit ⟨l, last, mark⟩ k := ⟨(ld_rise h).1, (ld_rise h).2, hl, hv, ld_ls h⟩
end Go.Proofs.Ytpehfflehebmbaa.Space
end
section
set_option linter.unusedSimpArgs false
set_option linter.unusedVariables false
set_option maxRecDepth 10000
namespace Go.Proofs.Ytpehfflehebmbaa.Space
open Go Go.Av Go.Proofs Go.Proofs.Ytpehfflehebmbaa.C Go.Proofs.Ytpehfflehebmbaa.Batch
def exA : List Ch := [⟨[97], [120], false⟩, ⟨[98], [121], false⟩]
def exB : List Ch := [⟨[97], [], true⟩]
def exS1 : Spc := (applyB ⟨[], 0, 0⟩ 1 exA).1
def exS2 : Spc := (applyB exS1 3 exB).1
def exS3 : Spc := (vacuumB exS2 3).1
theorem ex1 : (applyB ⟨[], 0, 0⟩ 1 exA).2 = 0 := by kernel_rfl
theorem ex2 : (applyB exS1 3 exB).2 = 0 := by kernel_rfl
theorem ex3 : getB exS2 [97] 2 = ([120], 0) := by kernel_rfl
theorem ex4 : getB exS2 [97] 3 = ([], 7) := by kernel_rfl
theorem ex5 : scanB exS2 [] [] 3 (-1) = ([⟨[98], [121]⟩], 0) := by kernel_rfl
theorem ex6 : sinceS exS2 [97] [98] 1 = true := by kernel_rfl
theorem ex7 : (vacuumB exS2 3).2 = 0 := by kernel_rfl
theorem ex8 : getB exS3 [97] 2 = ([], 12) := by kernel_rfl
theorem ex9 : exS3.L = [([98], [⟨1, [121], false⟩])] := by kernel_rfl
theorem exF1 : Fit exS1 2 := Fit.zero.apply 1 exA (by intro c hc; simp [exA] at hc; rcases hc with rfl | rfl <;> simp [Ls])
theorem exF2 : Fit exS2 3 := exF1.apply 3 exB (by intro c hc; simp [exB] at hc; subst hc; simp [Ls])
theorem exF3 : Fit exS3 3 := exF2.vac 3
set_option maxHeartbeats 2000000 in
theorem lives_p : PCalls Try.prog 14 [] (.bool true) := by
  refine f14.pcalls0 (by simp) (by simp [allPure]) rfl ?_
  unfold c14
  have ok0 : Ok [] 0 [] 0 := Ok.nil
  repeat (first
    | ((first | apply Wp.seqItemsR | apply Wp.itemsR); (· simp only [go_sem, reduceIte, Nat.reduceEqDiff, Nat.reduceAdd, bx, ax, if_true, if_false, Nat.reduceMul, Nat.reduceLeDiff]; exact rfl))
    | (refine WpItems.nil ⟨?_, ?_⟩; (· first | trivial | simp [pairsQ, pairsOk, apart, ent0]))
    | (apply Wp.cond_lit; (· simp only [go_sem, reduceIte, Nat.reduceEqDiff, Nat.reduceAdd, bx, ax, if_true, if_false, Nat.reduceMul, Nat.reduceLeDiff]; exact rfl); (· rfl))
    | refine Wp.skip ?_
    | refine Wp.label ?_
    | refine Wp.block ?_
    | refine Wp.exit ?_
    | refine Wp.seq ?_)
  show WpItems _ _ _ _ ⟨lay [], 0, [], 0⟩ _ _
  refine WpItems.gcall1 (by simp only [go_sem, reduceIte, Nat.reduceEqDiff, Nat.reduceAdd, bx]) (by simp only [go_sem, reduceIte, Nat.reduceEqDiff, Nat.reduceAdd, bx, List.map]; first | exact VSubs.refl _ | (repeat (first | exact VSubs.nil | refine VSubs.cons (by first | exact VSub.refl _ | assumption | exact VSub.cap | exact VSub.any _) ?_))) (new_g) (ok0) fun r1 G1 n1 T1 m1 ids1 hq1 on1 => ?_
  obtain ⟨s, F0, rfl, rfl, hF0⟩ := hq1
  refine WpItems.evR (by simp only [go_sem, reduceIte, Nat.reduceEqDiff, Nat.reduceAdd, bx]; exact rfl) ?_
  repeat (first
    | ((first | apply Wp.seqItemsR | apply Wp.itemsR); (· simp only [go_sem, reduceIte, Nat.reduceEqDiff, Nat.reduceAdd, bx, ax, if_true, if_false, Nat.reduceMul, Nat.reduceLeDiff]; exact rfl))
    | (refine WpItems.nil ⟨?_, ?_⟩; (· first | trivial | simp [pairsQ, pairsOk, apart, ent0]))
    | (apply Wp.cond_lit; (· simp only [go_sem, reduceIte, Nat.reduceEqDiff, Nat.reduceAdd, bx, ax, if_true, if_false, Nat.reduceMul, Nat.reduceLeDiff]; exact rfl); (· rfl))
    | refine Wp.skip ?_
    | refine Wp.label ?_
    | refine Wp.block ?_
    | refine Wp.exit ?_
    | refine Wp.seq ?_)
  have ap1 := apply_g hF0 Fit.zero.ri 1 exA (by decide) (Fit.zero.room (by decide))
  rw [ex1] at ap1
  refine WpItems.gcall1 (by simp only [go_sem, reduceIte, Nat.reduceEqDiff, Nat.reduceAdd, bx]) (by simp only [go_sem, reduceIte, Nat.reduceEqDiff, Nat.reduceAdd, bx, List.map]; first | exact VSubs.refl _ | (repeat (first | exact VSubs.nil | refine VSubs.cons (by first | exact VSub.refl _ | assumption | exact VSub.cap | exact VSub.any _) ?_))) (ap1) (on1.ok) fun r2 G2 n2 T2 m2 ids2 hq2 on2 => ?_
  obtain ⟨rfl, F1, rfl, hF1⟩ := hq2
  refine WpItems.evR (by simp only [go_sem, reduceIte, Nat.reduceEqDiff, Nat.reduceAdd, bx]; exact rfl) ?_
  repeat (first
    | ((first | apply Wp.seqItemsR | apply Wp.itemsR); (· simp only [go_sem, reduceIte, Nat.reduceEqDiff, Nat.reduceAdd, bx, ax, if_true, if_false, Nat.reduceMul, Nat.reduceLeDiff]; exact rfl))
    | (refine WpItems.nil ⟨?_, ?_⟩; (· first | trivial | simp [pairsQ, pairsOk, apart, ent0]))
    | (apply Wp.cond_lit; (· simp only [go_sem, reduceIte, Nat.reduceEqDiff, Nat.reduceAdd, bx, ax, if_true, if_false, Nat.reduceMul, Nat.reduceLeDiff]; exact rfl); (· rfl))
    | refine Wp.skip ?_
    | refine Wp.label ?_
    | refine Wp.block ?_
    | refine Wp.exit ?_
    | refine Wp.seq ?_)
  have ap2 := apply_g (S := exS1) hF1 exF1.ri 3 exB (by decide) (exF1.room (by decide))
  rw [ex2] at ap2
  refine WpItems.gcall1 (by simp only [go_sem, reduceIte, Nat.reduceEqDiff, Nat.reduceAdd, bx]) (by simp only [go_sem, reduceIte, Nat.reduceEqDiff, Nat.reduceAdd, bx, List.map]; first | exact VSubs.refl _ | (repeat (first | exact VSubs.nil | refine VSubs.cons (by first | exact VSub.refl _ | assumption | exact VSub.cap | exact VSub.any _) ?_))) (ap2) (on2.ok) fun r3 G3 n3 T3 m3 ids3 hq3 on3 => ?_
  obtain ⟨rfl, F2, rfl, hF2⟩ := hq3
  refine WpItems.evR (by simp only [go_sem, reduceIte, Nat.reduceEqDiff, Nat.reduceAdd, bx]; exact rfl) ?_
  have ok := on3.ok
  have sm2 := exF2.small (by decide)
  have g1 := get_r (S := exS2) hF2 sm2 [97] 2
  have g2 := get_r (S := exS2) hF2 sm2 [97] 3
  rw [ex3] at g1
  rw [ex4] at g2
  repeat (first
    | ((first | apply Wp.seqItemsR | apply Wp.itemsR | ((first
        | (refine WpItems.glook ?_ ?_ (g1) (by first | exact fun j o h => h | exact ok.sub (by simp) | assumption) (fun ids => ?_); (· simp only [go_sem, reduceIte, Nat.reduceEqDiff, Nat.reduceAdd, bx]); (· simp only [go_sem, reduceIte, Nat.reduceEqDiff, Nat.reduceAdd, bx, List.map]; first | exact VSubs.refl _ | (repeat (first | exact VSubs.nil | refine VSubs.cons (by first | exact VSub.refl _ | assumption | exact VSub.cap | exact VSub.any _) ?_))))
        | (refine WpItems.glook ?_ ?_ (g2) (by first | exact fun j o h => h | exact ok.sub (by simp) | assumption) (fun ids => ?_); (· simp only [go_sem, reduceIte, Nat.reduceEqDiff, Nat.reduceAdd, bx]); (· simp only [go_sem, reduceIte, Nat.reduceEqDiff, Nat.reduceAdd, bx, List.map]; first | exact VSubs.refl _ | (repeat (first | exact VSubs.nil | refine VSubs.cons (by first | exact VSub.refl _ | assumption | exact VSub.cap | exact VSub.any _) ?_))))); apply WpItems.evR)); (· simp only [go_sem, reduceIte, Nat.reduceEqDiff, Nat.reduceAdd, bx, ax, if_true, if_false, Nat.reduceMul, Nat.reduceLeDiff, ok]; exact rfl))
    | (refine WpItems.nil ⟨?_, ?_⟩; (· first | trivial | simp [pairsQ, pairsOk, apart, ent0]))
    | (apply Wp.cond_lit; (· simp only [go_sem, reduceIte, Nat.reduceEqDiff, Nat.reduceAdd, bx, ax, if_true, if_false, Nat.reduceMul, Nat.reduceLeDiff, ok]; exact rfl); (· rfl))
    | refine Wp.skip ?_
    | refine Wp.label ?_
    | refine Wp.block ?_
    | refine Wp.exit ?_
    | refine Wp.seq ?_)
  have sc := scan_g (S := exS2) hF2 exF2.ri sm2 [] [] 3 (-1)
  rw [ex5] at sc
  refine WpItems.gkeep0 (by simp only [go_sem, reduceIte, Nat.reduceEqDiff, Nat.reduceAdd, bx]) (by simp only [go_sem, reduceIte, Nat.reduceEqDiff, Nat.reduceAdd, bx, List.map]; first | exact VSubs.refl _ | (repeat (first | exact VSubs.nil | refine VSubs.cons (by first | exact VSub.refl _ | assumption | exact VSub.cap | exact VSub.any _) ?_))) (sc) (hF2.k) (on3.ok) fun n4 m4 ids4 on4 hids4 => ?_
  refine WpItems.evR (by simp only [go_sem, reduceIte, Nat.reduceEqDiff, Nat.reduceAdd, bx]; exact rfl) ?_
  repeat (first
    | ((first | apply Wp.seqItemsR | apply Wp.itemsR); (· simp only [go_sem, reduceIte, Nat.reduceEqDiff, Nat.reduceAdd, bx, ax, if_true, if_false, Nat.reduceMul, Nat.reduceLeDiff]; exact rfl))
    | (refine WpItems.nil ⟨?_, ?_⟩; (· first | trivial | simp [pairsQ, pairsOk, apart, ent0]))
    | (apply Wp.cond_lit; (· simp only [go_sem, reduceIte, Nat.reduceEqDiff, Nat.reduceAdd, bx, ax, if_true, if_false, Nat.reduceMul, Nat.reduceLeDiff]; exact rfl); (· rfl))
    | refine Wp.skip ?_
    | refine Wp.label ?_
    | refine Wp.block ?_
    | refine Wp.exit ?_
    | refine Wp.seq ?_)
  have si := since_g (S := exS2) hF2 exF2.ri sm2 [97] [98] 1
  rw [ex6] at si
  refine WpItems.gkeep0 (by simp only [go_sem, reduceIte, Nat.reduceEqDiff, Nat.reduceAdd, bx]) (by simp only [go_sem, reduceIte, Nat.reduceEqDiff, Nat.reduceAdd, bx, List.map]; first | exact VSubs.refl _ | (repeat (first | exact VSubs.nil | refine VSubs.cons (by first | exact VSub.refl _ | assumption | exact VSub.cap | exact VSub.any _) ?_))) (si) (hF2.k) (on4.ok) fun n5 m5 ids5 on5 hids5 => ?_
  refine WpItems.evR (by simp only [go_sem, reduceIte, Nat.reduceEqDiff, Nat.reduceAdd, bx]; exact rfl) ?_
  repeat (first
    | ((first | apply Wp.seqItemsR | apply Wp.itemsR); (· simp only [go_sem, reduceIte, Nat.reduceEqDiff, Nat.reduceAdd, bx, ax, if_true, if_false, Nat.reduceMul, Nat.reduceLeDiff]; exact rfl))
    | (refine WpItems.nil ⟨?_, ?_⟩; (· first | trivial | simp [pairsQ, pairsOk, apart, ent0]))
    | (apply Wp.cond_lit; (· simp only [go_sem, reduceIte, Nat.reduceEqDiff, Nat.reduceAdd, bx, ax, if_true, if_false, Nat.reduceMul, Nat.reduceLeDiff]; exact rfl); (· rfl))
    | refine Wp.skip ?_
    | refine Wp.label ?_
    | refine Wp.block ?_
    | refine Wp.exit ?_
    | refine Wp.seq ?_)
  have va := vacuum_g (S := exS2) hF2 exF2.ri sm2 3
  rw [ex7] at va
  refine WpItems.gcall1 (by simp only [go_sem, reduceIte, Nat.reduceEqDiff, Nat.reduceAdd, bx]) (by simp only [go_sem, reduceIte, Nat.reduceEqDiff, Nat.reduceAdd, bx, List.map]; first | exact VSubs.refl _ | (repeat (first | exact VSubs.nil | refine VSubs.cons (by first | exact VSub.refl _ | assumption | exact VSub.cap | exact VSub.any _) ?_))) (va) (on5.ok) fun r6 G6 n6 T6 m6 ids6 hq6 on6 => ?_
  obtain ⟨rfl, F3, rfl, hF3⟩ := hq6
  refine WpItems.evR (by simp only [go_sem, reduceIte, Nat.reduceEqDiff, Nat.reduceAdd, bx]; exact rfl) ?_
  have ok := on6.ok
  have sm3 := exF3.small (by decide)
  have g3 := get_r (S := exS3) hF3 sm3 [97] 2
  rw [ex8] at g3
  repeat (first
    | ((first | apply Wp.seqItemsR | apply Wp.itemsR | ((first
        | (refine WpItems.glook ?_ ?_ (g3) (by first | exact fun j o h => h | exact ok.sub (by simp) | assumption) (fun ids => ?_); (· simp only [go_sem, reduceIte, Nat.reduceEqDiff, Nat.reduceAdd, bx]); (· simp only [go_sem, reduceIte, Nat.reduceEqDiff, Nat.reduceAdd, bx, List.map]; first | exact VSubs.refl _ | (repeat (first | exact VSubs.nil | refine VSubs.cons (by first | exact VSub.refl _ | assumption | exact VSub.cap | exact VSub.any _) ?_))))); apply WpItems.evR)); (· simp only [go_sem, reduceIte, Nat.reduceEqDiff, Nat.reduceAdd, bx, ax, if_true, if_false, Nat.reduceMul, Nat.reduceLeDiff, ok]; exact rfl))
    | (refine WpItems.nil ⟨?_, ?_⟩; (· first | trivial | simp [pairsQ, pairsOk, apart, ent0]))
    | (apply Wp.cond_lit; (· simp only [go_sem, reduceIte, Nat.reduceEqDiff, Nat.reduceAdd, bx, ax, if_true, if_false, Nat.reduceMul, Nat.reduceLeDiff, ok]; exact rfl); (· rfl))
    | refine Wp.skip ?_
    | refine Wp.label ?_
    | refine Wp.block ?_
    | refine Wp.exit ?_
    | refine Wp.seq ?_)
  have it := items_g (S := exS3) hF3 exF3.ri sm3
  rw [ex9] at it
  refine WpItems.gkeep0 (by simp only [go_sem, reduceIte, Nat.reduceEqDiff, Nat.reduceAdd, bx]) (by simp only [go_sem, reduceIte, Nat.reduceEqDiff, Nat.reduceAdd, bx, List.map]; first | exact VSubs.refl _ | (repeat (first | exact VSubs.nil | refine VSubs.cons (by first | exact VSub.refl _ | assumption | exact VSub.cap | exact VSub.any _) ?_))) (it) (hF3.k) (on6.ok) fun n7 m7 ids7 on7 hids7 => ?_
  refine WpItems.evR (by simp only [go_sem, reduceIte, Nat.reduceEqDiff, Nat.reduceAdd, bx]; exact rfl) ?_
  have sp := samePr_p [⟨[98], [121]⟩] [⟨[98], [121]⟩] (by decide)
  rw [decide_eq_true rfl] at sp
  have i1 : (0 : Int) ≤ 0 ∧ (0 : Int) < ((1 : Nat) : Int) := by decide
  have t0 : Int.toNat 0 = 0 := rfl
  have d0 : decide ((0 : Int) = 0) = true := rfl
  have d1 : decide (([120] : List UInt8) = [120]) = true := rfl
  have d2 : decide (([98] : List UInt8) = [98]) = true := rfl
  have d3 : decide ((12 : Int) = 12) = true := rfl
  have d4 : decide ((7 : Int) = 7) = true := rfl
  have d5 : decide (((1 : Nat) : Int) = 1) = true := rfl
  repeat (first
    | ((first | apply Wp.seqItemsR | apply Wp.itemsR | ((first
        | (refine WpItems.pcall ?_ ?_ (sp) ?_; (· simp only [go_sem, reduceIte, Nat.reduceEqDiff, Nat.reduceAdd, bx]); (· simp only [go_sem, reduceIte, Nat.reduceEqDiff, Nat.reduceAdd, bx, List.map]; first | exact VSubs.refl _ | (repeat (first | exact VSubs.nil | refine VSubs.cons (by first | exact VSub.refl _ | assumption | exact VSub.cap | exact VSub.any _) ?_))))); apply WpItems.evR)); (· simp only [go_sem, reduceIte, Nat.reduceEqDiff, Nat.reduceAdd, bx, ax, if_true, if_false, Nat.reduceMul, Nat.reduceLeDiff, List.map_cons, List.map_nil, List.length_cons, List.length_nil, Nat.zero_add, encI, vAV, d0, d1, d2, d3, d4, d5, i1, t0, List.getD_cons_zero]; exact rfl))
    | (refine WpItems.nil ⟨?_, ?_⟩; (· first | trivial | simp [pairsQ, pairsOk, apart, ent0]))
    | (apply Wp.cond_lit; (· simp only [go_sem, reduceIte, Nat.reduceEqDiff, Nat.reduceAdd, bx, ax, if_true, if_false, Nat.reduceMul, Nat.reduceLeDiff, List.map_cons, List.map_nil, List.length_cons, List.length_nil, Nat.zero_add, encI, vAV, d0, d1, d2, d3, d4, d5, i1, t0, List.getD_cons_zero]; exact rfl); (· rfl))
    | refine Wp.skip ?_
    | refine Wp.label ?_
    | refine Wp.block ?_
    | refine Wp.exit ?_
    | refine Wp.seq ?_)
  refine Wp.ret ⟨trivial, _, rfl, ?_⟩
  simp only [go_sem, reduceIte, Nat.reduceEqDiff, Nat.reduceAdd, bx]
  exact VSub.refl _
end Go.Proofs.Ytpehfflehebmbaa.Space
end
section
set_option linter.unusedVariables false
set_option linter.unusedSimpArgs false
namespace Go.Av
open Go.ChangeShapes Go.WideShapes Go.ChangeAt Go.RowKit
section
variable {H : Type} {enc : TypeId × Value → H} {P : Program} {w : World}
def G0 : Ghost := ⟨fun _ => False, fun _ => 0, fun _ => False, fun _ => none, fun _ => False, fun _ => none⟩
def wrapE (P : Program) (e : TypeId) (cs : List AV) : AV := if isAggT P e then .agg cs else cs.headD .any
/- how many values and letters stand in a value -/
mutual
def bulkA : AV → Nat
  | .int _ _ => 1
  | .bool _ => 1
  | .str l => l.length + 1
  | .sl _ xs _ => bulkAs xs + 1
  | .agg cs => bulkAs cs
  | _ => 0
def bulkAs : List AV → Nat
  | [] => 0
  | x :: xs => bulkA x + bulkAs xs
end
theorem bulkAs_append : ∀ l m : List AV, bulkAs (l ++ m) = bulkAs l + bulkAs m
  | [], m => by simp [bulkAs]
  | x :: l, m => by simp [bulkAs, bulkAs_append l m]; omega
theorem bulk_wrap (P : Program) (e : TypeId) (cs : List AV) : bulkA (wrapE P e cs) ≤ bulkAs cs := by
  unfold wrapE
  split
  · simp [bulkA]
  · cases cs with
    | nil => simp [bulkA, bulkAs]
    | cons x cs => simp [bulkAs]
structure Bulk (B : DataW H → Nat) (BL : List (DataW H) → Nat) : Prop where
  str : ∀ l, B (.lit (.string l)) = l.length + 1
  int : ∀ k n, B (.lit (.int k n)) = 1
  bool : ∀ b, B (.lit (.bool b)) = 1
  nil : B .nil = 1
  slice : ∀ a b, B (.slice a b) = BL a + BL b + 1
  agg : ∀ a, B (.agg a) = BL a + 1
  nils : BL [] = 0
  cons : ∀ d l, BL (d :: l) = B d + BL l
theorem Bulk.snoc {B : DataW H → Nat} {BL : List (DataW H) → Nat} (hB : Bulk B BL) : ∀ (l : List (DataW H)) (d : DataW H), BL (l ++ [d]) = BL l + B d
  | [], d => by simp [hB.cons, hB.nils]
  | x :: l, d => by simp [hB.cons, Bulk.snoc hB l d]; omega
theorem Bulk.take {B : DataW H → Nat} {BL : List (DataW H) → Nat} (hB : Bulk B BL) : ∀ (l : List (DataW H)) (m : Nat), BL (l.take m) ≤ BL l
  | [], m => by simp
  | x :: l, 0 => by simp [hB.nils]
  | x :: l, m + 1 => by simp [hB.cons, Bulk.take hB l m]
theorem weights_mem_all {P : Program} {e : TypeId} {n : Nat} : ∀ {l : List (DataW H)} {d : DataW H}, d ∈ l → n ∈ d.weights P e → n ∈ DataW.weightsAll P e l
  | x :: l, d, h, hn => by
    simp only [DataW.weightsAll, List.mem_append]
    rcases List.mem_cons.1 h with rfl | h
    · exact .inl hn
    · exact .inr (weights_mem_all h hn)
inductive All2 {α β : Type} (R : α → β → Prop) : List α → List β → Prop
  | nil : All2 R [] []
  | cons {a b l m} : R a b → All2 R l m → All2 R (a :: l) (b :: m)
def Fits (P : Program) : Nat → TypeId → List AV → Prop
  | 0, _, _ => False
  | k + 1, t, xs => match P.underlying t with
    | some .bool => ∃ b, xs = [.bool b]
    | some (.int q) => ∃ n, xs = [.int q n] ∧ (Lit.int q n).wf = true
    | some .string => ∃ l, xs = [.str l] ∧ l.length ≤ reachBytes
    | some (.slice e) => ∃ ys, xs = [.sl (P.cellsOf e) ys .any] ∧ ys.length * P.bytesOf e ≤ reachBytes ∧ ∀ y ∈ ys, ∃ cs, Fits P k e cs ∧ y = wrapE P e cs
    | some (.struct fs) => ∃ xss, xs = xss.flatten ∧ All2 (fun (f : Field) cs => Fits P k f.type cs) fs.toList xss
    | _ => False
def plainT (P : Program) : Nat → TypeId → Bool
  | 0, _ => false
  | k + 1, t => match P.underlying t with
    | some .bool | some (.int _) | some .string => true
    | some (.slice e) => decide (e < P.types.size) && decide (0 < P.cellsOf e) && (isAggT P e || decide (P.cellsOf e = 1)) && plainT P k e
    | some (.struct fs) => decide (t < P.types.size) && fs.all fun f => plainT P k f.type
    | _ => false
theorem cell_spot {a : Addr} {v : Value} (h : w.cell? a = some v) : a.spot = none := by
  unfold World.cell? at h
  split at h
  · split at h
    · cases h
    · rename_i hs; cases hh : a.spot with
      | none => rfl
      | some x => simp [hh] at hs
  · cases h
theorem one_of_bool (b : Bool) : One (.bool b) := ⟨fun _ => by simp, fun _ => by simp⟩
theorem one_of_int (k : IntKind) (n : Int) : One (.int k n) := ⟨fun _ => by simp, fun _ => by simp⟩
theorem one_of_str (s : ByteArray) : One (.string s) := ⟨fun _ => by simp, fun _ => by simp⟩
theorem one_of_sl (a : Option Addr) (l c : Nat) : One (.slice a l c) := ⟨fun _ => by simp, fun _ => by simp⟩
theorem fields_split {R : Field → List AV → Prop} {G : Ghost} {B : DataW H → Nat} {BL : List (DataW H) → Nat} (hB : Bulk B BL) (full : List Value) (rd : Field → List Value → DataW H → Prop)
    (hrd : ∀ f cs d, rd f cs d → ∃ xs, R f xs ∧ VRels G w xs cs ∧ (∀ v ∈ cs, One v) ∧ bulkAs xs ≤ B d) : ∀ (fs : List Field) (ds : List (DataW H)) (off : Nat), ds.length = fs.length →
    (∀ (j : Nat) f, fs[j]? = some f → f.offset = off + ((fs.take j).map fun f => P.cellsOf f.type).sum) → full.length = off + (fs.map fun f => P.cellsOf f.type).sum →
    (∀ (j : Nat) f d, fs[j]? = some f → ds[j]? = some d → rd f ((full.drop f.offset).take (P.cellsOf f.type)) d) → ∃ xss, All2 R fs xss ∧ VRels G w xss.flatten (full.drop off) ∧ (∀ v ∈ full.drop off, One v) ∧ bulkAs xss.flatten ≤ BL ds
  | [], ds, off, hl, h1, h2, h3 => by
    have e : full.drop off = [] := List.drop_eq_nil_of_le (by simp at h2; omega)
    exact ⟨[], .nil, by rw [e]; exact .nil, by rw [e]; simp, by simp [bulkAs]⟩
  | f :: fs, [], off, hl, h1, h2, h3 => by cases hl
  | f :: fs, d :: ds, off, hl, h1, h2, h3 => by
    have o0 : f.offset = off := by simpa using h1 0 f rfl
    have hf := h3 0 f d rfl rfl
    rw [o0] at hf
    obtain ⟨xs, r1, r2, r3, r4⟩ := hrd f _ d hf
    obtain ⟨xss, q1, q2, q3, q4⟩ := fields_split hB full rd hrd fs ds (off + P.cellsOf f.type) (by simpa using hl) (fun j g hj => by
      have := h1 (j + 1) g (by simpa using hj)
      simp only [List.take_succ_cons, List.map_cons, List.sum_cons] at this; omega) (by simp only [List.map_cons, List.sum_cons] at h2; omega) (fun j g d' hg hd => h3 (j + 1) g d' (by simpa using hg) (by simpa using hd))
    have e : full.drop off = (full.drop off).take (P.cellsOf f.type) ++ full.drop (off + P.cellsOf f.type) := by
      rw [← List.drop_drop, List.take_append_drop]
    refine ⟨xs :: xss, .cons r1 q1, ?_, ?_, ?_⟩
    · rw [e, List.flatten_cons]; exact r2.append q2
    · rw [e]; intro v hv
      rcases List.mem_append.1 hv with hv | hv
      · exact r3 v hv
      · exact q3 v hv
    · rw [List.flatten_cons, bulkAs_append, hB.cons]; omega
theorem wrapE_rel {e : TypeId} {cs : List AV} {vs : List Value} (hs : vs.length = P.cellsOf e) (hr : VRels G0 w cs vs) (ho : ∀ v ∈ vs, One v) (hc : isAggT P e = false → P.cellsOf e = 1) :
    ∃ v : Value, v.cells.toList = vs ∧ VRel G0 w (wrapE P e cs) v := by
  unfold wrapE
  cases ha : isAggT P e with
  | true => exact ⟨.agg vs.toArray, by simp [Value.cells], by simp only [if_true, VRel]; exact ⟨vs, rfl, hr⟩⟩
  | false =>
    rw [hc ha] at hs
    obtain ⟨v, rfl⟩ := List.length_eq_one_iff.1 hs
    have hl := hr.length
    obtain ⟨x, rfl⟩ := List.length_eq_one_iff.1 (show cs.length = 1 by simpa using hl.symm)
    simp only [VRels] at hr
    obtain ⟨v', us, e1, hv, e2⟩ := hr
    cases e1
    refine ⟨v, ?_, by simpa using hv⟩
    have := ho v (by simp)
    cases v <;> first | rfl | exact absurd rfl (this.1 _) | exact absurd rfl (this.2 _)
theorem Fits.slice {k : Nat} {t e : TypeId} {ys : List AV} (ht : P.underlying t = some (.slice e)) (h1 : ys.length * P.bytesOf e ≤ reachBytes) (h2 : ∀ y ∈ ys, ∃ cs, Fits P k e cs ∧ y = wrapE P e cs) : Fits P (k + 1) t [.sl (P.cellsOf e) ys .any] := by
  unfold Fits; rw [ht]; exact ⟨ys, rfl, h1, h2⟩
theorem trod_fits (hl : laidOutB P = true) {B : DataW H → Nat} {BL : List (DataW H) → Nat} (hB : Bulk B BL) : ∀ (k : Nat) (t : TypeId), plainT P k t = true → ∀ (fuel : Nat) (cs : List Value) (x : DataW H × List MemPlace),
    DataW.trod enc P w 0 (fun _ => true) true fuel t cs = some x → (∀ n ∈ x.1.weights P t, n ≤ reachBytes) → ∃ xs, Fits P k t xs ∧ VRels G0 w xs cs ∧ (∀ v ∈ cs, One v) ∧ bulkAs xs ≤ B x.1 := by
  intro k
  induction k with
  | zero => intro t h; cases h
  | succ k ih =>
    intro t hp fuel cs x hx hwt
    simp only [plainT] at hp
    split at hp
    · rename_i ht
      obtain ⟨b, rfl, rfl⟩ := DataW.trod_bool ht hx
      exact ⟨[.bool b], by simp only [Fits, ht]; exact ⟨b, rfl⟩, .cons (by simp [VRel]) .nil, by simp [one_of_bool], by simp [hB.bool, bulkAs, bulkA]⟩
    · rename_i q ht
      obtain ⟨n, rfl, rfl, hw⟩ := DataW.trod_int ht hx
      exact ⟨[.int q n], by simp only [Fits, ht]; exact ⟨n, rfl, hw⟩, .cons (by simp [VRel]) .nil, by simp [one_of_int], by simp [hB.int, bulkAs, bulkA]⟩
    · rename_i ht
      obtain ⟨s, rfl, rfl, -⟩ := DataW.trod_string ht hx
      refine ⟨[.str s.data.toList], by simp only [Fits, ht]; exact ⟨_, rfl, hwt _ (by simp [DataW.weights])⟩, .cons (by simp [VRel]) .nil, by simp [one_of_str], by simp [hB.str, bulkAs, bulkA]⟩
    · rename_i e ht
      simp only [Bool.and_eq_true, decide_eq_true_eq] at hp
      obtain ⟨⟨⟨-, hsz⟩, hag⟩, hpe⟩ := hp
      rcases DataW.trod_slice ht hx with ⟨rfl, rfl⟩ | ⟨a, len, cap, elems, rest, n, rfl, rfl, rfl, hb, hlc, hcm, hel, hread, hrest, -⟩
      · refine ⟨[.sl (P.cellsOf e) [] .any], Fits.slice ht (by simp) (fun y hy => by cases hy), .cons ?_ .nil, by simp [one_of_sl], by simp [hB.nil, bulkAs, bulkA]⟩
        unfold VRel; exact .inl ⟨rfl, ⟨none, rfl⟩, trivial⟩
      · have hone : isAggT P e = false → P.cellsOf e = 1 := by
          intro ha
          simpa [ha] using hag
        -- the cells of each element
        have each : ∀ i, i < len → ∃ vs xs, w.cells? 0 (a.add (i * P.cellsOf e)) (P.cellsOf e) = some vs ∧ Fits P k e xs ∧ VRels G0 w xs vs ∧ (∀ v ∈ vs, One v) ∧ ∀ y, elems[i]? = some y → bulkAs xs ≤ B y.1 := by
          intro i hi
          have h := hread i hi
          rw [List.getElem?_eq_getElem (by omega)] at h
          obtain ⟨vs, h1, h2⟩ := Option.bind_eq_some_iff.1 h
          obtain ⟨xs, h3, h4, h5, h6⟩ := ih e hpe n vs _ h2 (fun m hm => hwt m (by
            simp only [DataW.weights, ht, List.mem_cons, List.mem_append]
            exact .inr (.inl (weights_mem_all (List.mem_map.2 ⟨_, List.getElem_mem (by omega), rfl⟩) hm))))
          exact ⟨vs, xs, h1, h3, h4, h5, fun y hy => by rw [List.getElem?_eq_getElem (by omega)] at hy; cases hy; exact h6⟩
        have build : ∀ m, m ≤ len → ∃ ys vs, ys.length = m ∧ vs.length = m * P.cellsOf e ∧ (∀ y ∈ ys, ∃ cs, Fits P k e cs ∧ y = wrapE P e cs) ∧ VElems G0 w (P.cellsOf e) ys vs ∧ (∀ (i : Nat) v, vs[i]? = some v → w.cell? (a.add i) = some v ∧ One v) ∧ bulkAs ys ≤ BL ((elems.map (·.1)).take m) := by
          intro m
          induction m with
          | zero => intro _; exact ⟨[], [], rfl, by simp, by simp, by simp [VElems], by simp, by simp [bulkAs]⟩
          | succ m ihm =>
            intro hm
            obtain ⟨ys, vs, k1, k2, k3, k4, k5, k6⟩ := ihm (by omega)
            obtain ⟨us, xs, e1, e2, e3, e4, eb⟩ := each m (by omega)
            obtain ⟨-, e5, e6⟩ := World.cells?_some e1
            obtain ⟨v, hv1, hv2⟩ := wrapE_rel e5 e3 e4 hone
            refine ⟨ys ++ [wrapE P e xs], vs ++ us, by simp [k1], by simp [k2, e5, Nat.add_mul], ?_, ?_, ?_, ?_⟩
            · intro y hy
              rcases List.mem_append.1 hy with hy | hy
              · exact k3 y hy
              · simp at hy; exact ⟨xs, e2, hy⟩
            · refine k4.append ?_
              simp only [VElems]
              exact ⟨v, [], by simp [hv1], by rw [← Array.length_toList, hv1, e5], hv2, rfl⟩
            · intro i z hz
              rcases Nat.lt_or_ge i vs.length with hi | hi
              · rw [List.getElem?_append_left hi] at hz; exact k5 i z hz
              · rw [List.getElem?_append_right hi] at hz
                have hlt : i - vs.length < us.length := (List.getElem?_eq_some_iff.1 hz).1
                have := e6 (i - vs.length) (by omega)
                rw [hz] at this
                have ea : (a.add (m * P.cellsOf e)).add (i - vs.length) = a.add i := by
                  rw [← k2]
                  unfold Addr.add
                  by_cases h0 : vs.length = 0
                  · simp [h0]
                  · by_cases h1 : i - vs.length = 0
                    · have : i = vs.length := by omega
                      subst this; simp
                    · have : i ≠ 0 := by omega
                      simp [h0, h1, this]; omega
                rw [ea] at this
                exact ⟨this, e4 z (List.mem_of_getElem? hz)⟩
            · have hlt : m < (elems.map (·.1)).length := by simp; omega
              rw [List.take_succ_eq_append_getElem hlt, hB.snoc, bulkAs_append]
              have h1 := eb _ (List.getElem?_eq_getElem (by omega))
              have h2 := bulk_wrap P e xs
              simp only [List.getElem_map, bulkAs]
              omega
        obtain ⟨ys, vs, k1, k2, k3, k4, k5, k6⟩ := build len (Nat.le_refl _)
        refine ⟨[.sl (P.cellsOf e) ys .any], Fits.slice ht ?_ k3, .cons ?_ .nil, by simp [one_of_sl], ?_⟩
        · have := hwt ((elems.length + rest.length) * P.bytesOf e) (by simp [DataW.weights, ht])
          exact Nat.le_trans (Nat.mul_le_mul_right _ (by omega)) this
        rotate_left
        · have := hB.take (elems.map (·.1)) len
          simp only [hB.slice, bulkAs, bulkA]
          omega
        unfold VRel
        by_cases hcap : cap = 0
        · have : ys = [] := List.length_eq_zero_iff.1 (by omega)
          exact .inl ⟨this, ⟨some a, by simp; omega⟩, by simp [CapNil]⟩
        · have hspot : a.spot = none := by
            by_cases hl0 : len = 0
            · obtain ⟨hr1, hr2⟩ := hrest rfl
              have h := hr2 0 (by omega)
              rw [List.getElem?_eq_getElem (by omega)] at h
              obtain ⟨vs', h1, h2⟩ := Option.bind_eq_some_iff.1 h
              obtain ⟨-, g1, g2⟩ := World.cells?_some h1
              have := g2 0 hsz
              rw [List.getElem?_eq_getElem (by omega)] at this
              have := cell_spot this
              simpa [hl0, Addr.add] using this
            · obtain ⟨us, xs, e1, e2, e3, e4, -⟩ := each 0 (by omega)
              obtain ⟨-, g1, g2⟩ := World.cells?_some e1
              have := g2 0 hsz
              rw [List.getElem?_eq_getElem (by omega)] at this
              have := cell_spot this
              simpa [Addr.add] using this
          obtain ⟨B, off, sp⟩ := a
          simp only at hspot
          subst hspot
          refine .inr ⟨B, off, cap, vs, by simp [k1], by omega, by rw [k2, k1], k4, fun i v hv => ?_, by simp [CapOk]⟩
          obtain ⟨c1, c2⟩ := k5 i v hv
          rw [add_plain] at c1
          exact ⟨c1, c2, by simp [G0], by simp [G0]⟩
    · rename_i fs ht
      simp only [Bool.and_eq_true, decide_eq_true_eq] at hp
      obtain ⟨hlt, hp⟩ := hp
      rw [Array.all_eq_true_iff_forall_mem] at hp
      obtain ⟨xs, n, rfl, rfl, hlen, hxl, hread⟩ := DataW.trod_struct ht hx
      obtain ⟨-, hsum, hoff⟩ := kid_struct hl hlt ht
      obtain ⟨xss, q1, q2, q3, q4⟩ := fields_split (P := P) (R := fun (f : Field) cs => Fits P k f.type cs) (G := G0) (w := w) hB cs
        (fun f us d => plainT P k f.type = true ∧ ∃ y, DataW.trod enc P w 0 (fun _ => true) true n f.type us = some y ∧ y.1 = d ∧ ∀ m ∈ d.weights P f.type, m ≤ reachBytes)
        (fun f us d ⟨h1, y, h2, h3, h4⟩ => by subst h3; exact ih f.type h1 n us y h2 h4) fs.toList (xs.map (·.1)) 0 (by simp [hxl]) (fun j f hj => by rw [hoff j f hj]; omega) (by rw [hlen, hsum]; omega)
        (fun i f d hi hd => by
          refine ⟨hp f (by have := List.mem_of_getElem? hi; simpa using this), ?_⟩
          have h := hread i f (by simpa using hi)
          rw [List.getElem?_map] at hd
          cases hxi : xs[i]? with
          | none => rw [hxi] at hd; cases hd
          | some y =>
            rw [hxi] at h hd
            refine ⟨y, h, by simpa using hd, fun m hm => hwt m ?_⟩
            simp only [DataW.weights, ht]
            exact DataW.weights_mem_each (j := i) (t := f.type) (d := d) (by rw [List.getElem?_map, hi]; rfl) (by rw [List.getElem?_map, hxi]; exact hd) m hm)
      refine ⟨xss.flatten, by simp only [Fits, ht]; exact ⟨xss, rfl, q1⟩, by simpa using q2, by simpa using q3, ?_⟩
      rw [hB.agg]; omega
    · cases hp
def ArgFits (P : Program) (k : Nat) (t : TypeId) (a : AV) : Prop := ∃ cs, Fits P k t cs ∧ a = wrapE P t cs
theorem arg_rel {k : Nat} {t : TypeId} {v : Value} {xs : List AV} {base : Nat} (hp : plainT P k t = true) (hok : Value.okWide P w .any base t v) (hr : VRels G0 w xs v.cells.toList) (ho : ∀ u ∈ v.cells.toList, One u) : VRel G0 w (wrapE P t xs) v := by
  unfold wrapE
  cases ha : isAggT P t with
  | true =>
    have : ∃ cs, v = .agg cs := by
      unfold isAggT at ha
      unfold Value.okWide at hok
      split at ha
      · rename_i h; rw [h] at hok; obtain ⟨cs, h, -⟩ := hok; exact ⟨cs, h⟩
      · rename_i h; rw [h] at hok; obtain ⟨cs, h, -⟩ := hok; exact ⟨cs, h⟩
      · cases ha
    obtain ⟨cs, rfl⟩ := this
    simp only [if_true, VRel]
    exact ⟨cs.toList, by simp, by simpa [Value.cells] using hr⟩
  | false =>
    have hv : v.cells = #[v] := by
      cases v <;> try rfl
      exfalso
      cases k with
      | zero => cases hp
      | succ k =>
        unfold plainT at hp
        unfold isAggT at ha
        unfold Value.okWide Cell.okWide Cell.ok at hok
        split at hp
        all_goals (try (rename_i h; rw [h] at hok ha; simp at hok ha; done))
        all_goals (try (rename_i h; rw [h] at hok ha; simp at hok; done))
        all_goals simp_all
    rw [hv] at hr
    have hl := hr.length
    obtain ⟨x, rfl⟩ := List.length_eq_one_iff.1 (show xs.length = 1 by simpa using hl.symm)
    simp only [VRels] at hr
    obtain ⟨v', us, e1, hx, e2⟩ := hr
    cases e1
    simpa using hx
theorem args_fit (hl : laidOutB P = true) {B : DataW H → Nat} {BL : List (DataW H) → Nat} (hB : Bulk B BL) {k : Nat} {base : Nat} : ∀ {ts us : List TypeId} {vs : List Value} {ds : List (DataW H)} {ps : List MemPlace}, (∀ t ∈ ts, plainT P k t = true) →
    (∀ (j : Nat) t v, ts[j]? = some t → vs[j]? = some v → Value.okWide P w .any base t v) → (∀ n ∈ DataW.weightsEach P (ts ++ us) ds, n ≤ reachBytes) → DataW.TrodAll enc P w 0 (fun _ => true) true ts vs ds ps → ∃ avs, All2 (ArgFits P k) ts avs ∧ VRels G0 w avs vs ∧ bulkAs avs ≤ BL ds
  | [], us, [], [], _, _, _, _, _ => ⟨[], .nil, .nil, by simp [bulkAs]⟩
  | t :: ts, us, v :: vs, d :: ds, _, hp, hok, hwt, ⟨p, q, ⟨fuel, h1⟩, h2, _⟩ => by
    obtain ⟨xs, f1, f2, f3, f4⟩ := trod_fits hl hB k t (hp t (by simp)) fuel _ _ h1 (fun n hn => hwt n (by simp only [List.cons_append, DataW.weightsEach, List.mem_append]; exact .inl hn))
    obtain ⟨avs, g1, g2, g3⟩ := args_fit hl hB (us := us) (fun t ht => hp t (by simp [ht])) (fun j t v a b => hok (j + 1) t v (by simpa using a) (by simpa using b)) (fun n hn => hwt n (by simp only [List.cons_append, DataW.weightsEach, List.mem_append]; exact .inr hn)) h2
    refine ⟨wrapE P t xs :: avs, .cons ⟨xs, f1, rfl⟩ g1, .cons (arg_rel (hp t (by simp)) (hok 0 t v rfl rfl) f2 f3) g2, ?_⟩
    have := bulk_wrap P t xs
    simp only [bulkAs, hB.cons] at f4 ⊢
    omega
theorem trodAll_len {sp : Nat → Bool} : ∀ {ts : List TypeId} {vs : List Value} {ds : List (DataW H)} {ps : List MemPlace}, DataW.TrodAll enc P w 0 sp true ts vs ds ps → ds.length = ts.length
  | [], [], [], _, h => rfl
  | t :: ts, v :: vs, d :: ds, _, ⟨p, q, h1, h2, e⟩ => by simp [trodAll_len h2]
theorem trodAll_carry {w' : World} {sp : Nat → Bool} : ∀ {ts : List TypeId} {vs : List Value} {ds : List (DataW H)} {ps : List MemPlace}, DataW.TrodAll enc P w 0 sp true ts vs ds ps → (∀ p ∈ ps, w.sameAt w' p) → DataW.TrodAll enc P w' 0 sp true ts vs ds ps
  | [], [], [], _, h, _ => h
  | t :: ts, v :: vs, d :: ds, _, ⟨p, q, ⟨fuel, h1⟩, h2, e⟩, hs => by
    subst e
    exact ⟨p, q, ⟨fuel, DataW.trod_carry fuel _ _ _ h1 (fun x hx => hs x (List.mem_append_left _ hx))⟩, trodAll_carry h2 (fun x hx => hs x (List.mem_append_right _ hx)), rfl⟩
theorem calls_row (hl : laidOutB P = true) {B : DataW H → Nat} {BL : List (DataW H) → Nat} (hB : Bulk B BL) (hm : mapsRowed P = true) (hz : ∀ t e, t < P.types.size → P.underlying t = some (.slice e) → 0 < P.cellsOf e) {f : FuncId} {fn : Func} {s : ChangeSpec} {k base : Nat} {W : World} {args : Array Value} {ds gs : List (DataW H)} {before : List MemPlace} {tb : TypeId}
    (hvars : s.vars = []) (hfn : ∀ l : List (DataW H), l.length = fn.params.size → s.fn H l = { results := [.lit (.bool true)], args := l }) (hrt : fn.resultTypes = #[tb]) (htb : P.underlying tb = some .bool)
    (hpl' : fn.params.toList.all (plainT P k) = true) (hlt' : fn.params.toList.all (fun t => decide (t < P.types.size)) = true)
    (hval : ∀ (j : Nat) t v, fn.params[j]? = some t → args[j]? = some v → Value.okWide P W .any base t v) (hW : DataW.Whole enc P fn.params.toList s.vars false W args.toList ds gs before)
    {us : List TypeId} (hwt : (DataW.weightsEach P (fn.params.toList ++ us) (ds ++ gs)).all (· ≤ reachBytes) = true)
    (law : ∀ avs, All2 (ArgFits P k) fn.params.toList avs → bulkAs avs ≤ BL (ds ++ gs) → PCalls P f avs (.bool true)) :
    Calls P f args W fun e W' => ∃ v, e = .returned v ∧ s.post enc P fn false true false false W args v W' := by
  have hpl : ∀ t ∈ fn.params.toList, plainT P k t = true := List.all_eq_true.1 hpl'
  have hlt : ∀ t ∈ fn.params.toList, t < P.types.size := fun t ht => of_decide_eq_true (List.all_eq_true.1 hlt' t ht)
  have hW' := hW
  obtain ⟨p, q, hA, hV, rfl, -, -⟩ := hW
  rw [hvars] at hV
  obtain ⟨rfl, rfl⟩ := trodVars_none hV
  rw [List.append_nil] at hwt law
  obtain ⟨avs, g1, g2, g3⟩ := args_fit hl hB hpl (fun j t v a b => hval j t v (by simpa using a) (by simpa using b)) (fun n hn => of_decide_eq_true (List.all_eq_true.1 hwt n hn)) hA
  have hlaw := law avs g1 g3 0 0 G0 W args.toList g2 only_rep ⟨fun _ _ _ h => h, fun _ _ _ h => h⟩
  rw [show args.toList.toArray = args from Array.toArray_toList] at hlaw
  refine hlaw.mono ?_
  rintro e W' ⟨v, G', he, T, -, hv⟩
  subst he
  simp only [VRel] at hv
  subst hv
  have keep : ∀ B, B < W.heap.size → W'.heap[B]? = W.heap[B]? := fun B hB => T.keep B hB (fun x => only_O B x) (fun ⟨t, ht, _⟩ => by simp [H0, Av.H.only] at ht)
  have hlt' : ∀ x ∈ p, x.block < W.heap.size := DataW.TrodAll.lt hA
  have hlen := trodAll_len hA
  refine ⟨_, rfl, ds, [], p ++ [], [], p, [], hW', ?_, ?_, ?_, ?_, fun h => by cases h⟩
  · rw [hfn _ (by simpa using hlen), hrt]
    exact trodAll_mk1 (shut_bool htb _)
  · rw [hfn _ (by simpa using hlen)]
    have := DataW.TrodAll.respare (kids_rows hl hm) hz (spare' := fun b => decide (b < W.heap.size)) hlt hA (fun x hx => by simpa using hlt' x hx)
    simp only [List.append_nil]
    refine trodAll_carry this fun x hx => ?_
    have hb := hlt' x hx
    cases x with
    | cell b off => unfold World.sameAt World.cell?; simp only; rw [keep b hb]
    | map b => exact keep b hb
  · rw [hvars, hfn _ (by simpa using hlen)]
    rfl
  · refine ⟨T.os, T.output, fun i hi => ?_⟩
    rw [keep i hi]
    generalize W.heap[i]? = o
    cases o with
    | none => rfl
    | some o => cases o <;> simp
end
end Go.Av
end
section
set_option linter.unusedSimpArgs false
set_option linter.unusedVariables false
set_option maxRecDepth 100000
namespace Go.Proofs.Ytpehfflehebmbaa.Space
open Go Go.Av Go.Proofs Go.Proofs.Ytpehfflehebmbaa.C Go.Proofs.Ytpehfflehebmbaa.Batch
theorem laid : laidOutB Try.prog = true := by kernel_rfl
theorem rowed : mapsRowed Try.prog = true := by kernel_rfl
theorem full : ∀ t e, t < Try.prog.types.size → Try.prog.underlying t = some (.slice e) → 0 < Try.prog.cellsOf e := slices_full_of Try.prog (by kernel_rfl)
theorem own : ownKnob Try.prog.godebug = none := by kernel_rfl
theorem bulk {H : Type} : Bulk (H := H) Rows.uptoBulk Rows.uptoBulkAll :=
  ⟨fun l => by simp [Rows.uptoBulk], fun k n => by simp [Rows.uptoBulk], fun b => by simp [Rows.uptoBulk], by simp [Rows.uptoBulk], fun a b => by simp [Rows.uptoBulk], fun a => by simp [Rows.uptoBulk], by simp [Rows.uptoBulkAll], fun d l => by simp [Rows.uptoBulkAll]⟩
theorem open_str {a : AV} (h : ArgFits Try.prog 5 9 a) : ∃ l, a = .str l ∧ l.length ≤ reachBytes := by
  obtain ⟨cs, h, rfl⟩ := h
  unfold Fits at h
  rw [Try.underlying9] at h
  obtain ⟨l, rfl, hl⟩ := h
  refine ⟨l, ?_, hl⟩
  unfold wrapE; rw [if_neg (by rw [show isAggT Try.prog 9 = false by kernel_rfl]; simp)]; rfl
theorem open_i {a : AV} (h : ArgFits Try.prog 5 3 a) : ∃ n, a = .int .i64 n ∧ (Lit.int .i64 n).wf = true := by
  obtain ⟨cs, h, rfl⟩ := h
  unfold Fits at h
  rw [Try.underlying3] at h
  obtain ⟨l, rfl, hl⟩ := h
  refine ⟨l, ?_, hl⟩
  unfold wrapE; rw [if_neg (by rw [show isAggT Try.prog 3 = false by kernel_rfl]; simp)]; rfl
theorem open_b {a : AV} (h : ArgFits Try.prog 5 4 a) : ∃ b, a = .bool b := by
  obtain ⟨cs, h, rfl⟩ := h
  unfold Fits at h
  rw [Try.underlying4] at h
  obtain ⟨l, rfl⟩ := h
  refine ⟨l, ?_⟩
  unfold wrapE; rw [if_neg (by rw [show isAggT Try.prog 4 = false by kernel_rfl]; simp)]; rfl
theorem all_of {α : Type} {t : TypeId} {k : Nat} {enc : α → AV} {Q : α → Prop} (h1 : ∀ cs, Fits Try.prog k t cs → ∃ x, wrapE Try.prog t cs = enc x ∧ Q x) : ∀ {ys : List AV}, (∀ y ∈ ys, ∃ cs, Fits Try.prog k t cs ∧ y = wrapE Try.prog t cs) → ∃ l : List α, ys = l.map enc ∧ ∀ x ∈ l, Q x
  | [], _ => ⟨[], rfl, by simp⟩
  | y :: ys, h => by
    obtain ⟨l, rfl, hl⟩ := all_of h1 (ys := ys) (fun z hz => h z (by simp [hz]))
    obtain ⟨cs, g1, g2⟩ := h y (by simp)
    obtain ⟨x, e, q⟩ := h1 cs g1
    refine ⟨x :: l, by simp [g2, e], fun z hz => ?_⟩
    rcases List.mem_cons.1 hz with rfl | hz
    · exact q
    · exact hl z hz
theorem row_len {n b : Nat} (hb : 8 ≤ b) (h : n * b ≤ reachBytes) : n ≤ 35184372088832 := by
  have : n * 8 ≤ n * b := Nat.mul_le_mul_left n hb
  have e : reachBytes = 140737488351232 := rfl
  omega
def ChOk (c : Ch) : Prop := c.k.length ≤ reachBytes ∧ c.v.length ≤ reachBytes
theorem change_fits {k : Nat} {cs : List AV} (h : Fits Try.prog (k + 2) 103 cs) : ∃ p : Ch, wrapE Try.prog 103 cs = encCh p ∧ ChOk p := by
  have hw : ∀ cs, wrapE Try.prog 103 cs = .agg cs := fun cs => by
    unfold wrapE; rw [if_pos (by kernel_rfl)]
  rw [hw]
  unfold Fits at h
  rw [Try.underlying103] at h
  obtain ⟨xss, rfl, h⟩ := h
  cases h with | cons h0 h => cases h with | cons h1 h => cases h with | cons h2 h =>
  cases h
  unfold Fits at h0 h1 h2
  simp only at h0 h1 h2
  rw [Try.underlying9] at h0 h1
  rw [Try.underlying4] at h2
  obtain ⟨n, rfl, hn⟩ := h0
  obtain ⟨v, rfl, hv⟩ := h1
  obtain ⟨d, rfl⟩ := h2
  exact ⟨⟨n, v, d⟩, rfl, hn, hv⟩
theorem changes_fits {k : Nat} {cs : List AV} (h : Fits Try.prog (k + 3) 27 cs) : ∃ l : List Ch, wrapE Try.prog 27 cs = .sl 3 (chs l) .any ∧ cs = [.sl 3 (chs l) .any] ∧ l.length ≤ 35184372088832 ∧ ∀ c ∈ l, ChOk c := by
  unfold Fits at h
  rw [Try.underlying27] at h
  obtain ⟨xs, rfl, hlx, hx⟩ := h
  obtain ⟨l, rfl, hl⟩ := all_of (fun cs h => change_fits h) hx
  have c1 : Try.prog.cellsOf 103 = 3 := by kernel_rfl
  have c2 : Try.prog.bytesOf 103 = 40 := by kernel_rfl
  rw [List.length_map, c2] at hlx
  refine ⟨l, ?_, by rw [c1]; rfl, row_len (by decide) hlx, hl⟩
  unfold wrapE; rw [if_neg (by rw [show isAggT Try.prog 27 = false by kernel_rfl]; simp), c1]; rfl
theorem open_changes {a : AV} (h : ArgFits Try.prog 5 27 a) : ∃ l : List Ch, a = .sl 3 (chs l) .any ∧ l.length ≤ 35184372088832 ∧ ∀ c ∈ l, ChOk c := by
  obtain ⟨cs, h, rfl⟩ := h
  obtain ⟨l, e, -, h1, h2⟩ := changes_fits h
  exact ⟨l, e, h1, h2⟩
structure Act where
  k : Int
  t : Int
  l : List Ch
instance : Inhabited Act := ⟨⟨0, 0, []⟩⟩
end Go.Proofs.Ytpehfflehebmbaa.Space
end
section
set_option linter.unusedSimpArgs false
set_option linter.unusedVariables false
set_option maxRecDepth 10000
namespace Go.Proofs.Ytpehfflehebmbaa.Space
open Go Go.Av Go.Proofs Go.Proofs.Ytpehfflehebmbaa.C Go.Proofs.Ytpehfflehebmbaa.Batch
theorem fin0 : fr0.Fin := ⟨[], fun id h => by simp [fr0, none'] at h⟩
def unO : Av.Obj := .cells [.sl 1 [] (.exact 0), .sc (.map none), .int .i64 0, .int .i64 0]
theorem finU (s : Nat) : (ob s unO).Fin := ⟨[s], fun id h => by
  rw [ob_o] at h
  split at h
  · rename_i e; simp [e]
  · cases h⟩
structure NoSp (x : AV) (F : Fr) : Prop where
  fin : F.Fin
  k : F.k = []
  is : x = .sc (.pointer none) ∨ ∃ s, x = .ptr s 0
  made : Looks Try.prog 52 [x] F (.bool false)
theorem no_nil : NoSp (.sc (.pointer none)) fr0 := by
  refine ⟨fin0, rfl, .inl rfl, ?_⟩
  refine f52.looks fin0 (by simp) fun n m => ?_
  unfold c52
  repeat (first
    | ((first | apply Wp.seqItemsR | apply Wp.itemsR); (· simp only [go_sem, reduceIte, Nat.reduceEqDiff, Nat.reduceAdd, bx, ax, if_true, if_false, Nat.reduceMul, Nat.reduceLeDiff]; exact rfl))
    | (refine WpItems.nil ⟨?_, ?_⟩; (· first | trivial | simp [pairsQ, pairsOk, apart, ent0]))
    | (apply Wp.cond_lit; (· simp only [go_sem, reduceIte, Nat.reduceEqDiff, Nat.reduceAdd, bx, ax, if_true, if_false, Nat.reduceMul, Nat.reduceLeDiff]; exact rfl); (· rfl))
    | refine Wp.skip ?_
    | refine Wp.label ?_
    | refine Wp.block ?_
    | refine Wp.exit ?_
    | refine Wp.seq ?_)
  exact Wp.ret ⟨trivial, _, rfl, VSub.refl _, rfl⟩
theorem no_un (s : Nat) : NoSp (.ptr s 0) (ob s unO) := by
  refine ⟨finU s, rfl, .inr ⟨s, rfl⟩, ?_⟩
  refine f52.looks (finU s) (by simp) fun n m => ?_
  unfold c52
  have h0 : (ob s unO).o s = some (.cells [.sl 1 [] (.exact 0), .sc (.map none), .int .i64 0, .int .i64 0]) := by rw [ob_o, if_pos rfl]; rfl
  repeat (first
    | ((first | apply Wp.seqItemsR | apply Wp.itemsR); (· simp only [go_sem, reduceIte, Nat.reduceEqDiff, Nat.reduceAdd, bx, ax, if_true, if_false, Nat.reduceMul, Nat.reduceLeDiff, h0]; exact rfl))
    | (refine WpItems.nil ⟨?_, ?_⟩; (· first | trivial | simp [pairsQ, pairsOk, apart, ent0]))
    | (apply Wp.cond_lit; (· simp only [go_sem, reduceIte, Nat.reduceEqDiff, Nat.reduceAdd, bx, ax, if_true, if_false, Nat.reduceMul, Nat.reduceLeDiff, h0]; exact rfl); (· rfl))
    | refine Wp.skip ?_
    | refine Wp.label ?_
    | refine Wp.block ?_
    | refine Wp.exit ?_
    | refine Wp.seq ?_)
  exact Wp.ret ⟨trivial, _, rfl, VSub.refl _, rfl⟩
variable {x : AV} {F : Fr}
theorem no_kept (h : NoSp x F) (t : Int) : Looks Try.prog 58 [x, .int .i64 t] F (.int .i64 1) := by
  refine f58.looks h.fin (by simp) fun n m => ?_
  unfold c58
  repeat (first
    | ((first | apply Wp.seqItemsR | apply Wp.itemsR | ((first
        | (refine WpItems.glook ?_ ?_ (h.made) (by first | exact fun j o h => h | exact ok.sub (by simp) | assumption) (fun ids => ?_); (· simp only [go_sem, reduceIte, Nat.reduceEqDiff, Nat.reduceAdd, bx]); (· simp only [go_sem, reduceIte, Nat.reduceEqDiff, Nat.reduceAdd, bx, List.map]; first | exact VSubs.refl _ | (repeat (first | exact VSubs.nil | refine VSubs.cons (by first | exact VSub.refl _ | assumption | exact VSub.cap | exact VSub.any _) ?_))))); apply WpItems.evR)); (· simp only [go_sem, reduceIte, Nat.reduceEqDiff, Nat.reduceAdd, bx, ax, if_true, if_false, Nat.reduceMul, Nat.reduceLeDiff, ax]; exact rfl))
    | (refine WpItems.nil ⟨?_, ?_⟩; (· first | trivial | simp [pairsQ, pairsOk, apart, ent0]))
    | (apply Wp.cond_lit; (· simp only [go_sem, reduceIte, Nat.reduceEqDiff, Nat.reduceAdd, bx, ax, if_true, if_false, Nat.reduceMul, Nat.reduceLeDiff, ax]; exact rfl); (· rfl))
    | refine Wp.skip ?_
    | refine Wp.label ?_
    | refine Wp.block ?_
    | refine Wp.exit ?_
    | refine Wp.seq ?_)
  exact Wp.ret ⟨trivial, _, rfl, VSub.refl _, rfl⟩
theorem no_get (h : NoSp x F) (q : Bs) (t : Int) : Looks Try.prog 20 [x, .str q, .int .i64 t] F (.tup [.str [], .int .i64 1]) := by
  refine f20.looks h.fin (by simp) fun n m => ?_
  unfold c20
  have d1 : decide ((1 : Int) = 0) = false := rfl
  repeat (first
    | ((first | apply Wp.seqItemsR | apply Wp.itemsR | ((first
        | (refine WpItems.glook ?_ ?_ (no_kept h t) (by first | exact fun j o h => h | exact ok.sub (by simp) | assumption) (fun ids => ?_); (· simp only [go_sem, reduceIte, Nat.reduceEqDiff, Nat.reduceAdd, bx]); (· simp only [go_sem, reduceIte, Nat.reduceEqDiff, Nat.reduceAdd, bx, List.map]; first | exact VSubs.refl _ | (repeat (first | exact VSubs.nil | refine VSubs.cons (by first | exact VSub.refl _ | assumption | exact VSub.cap | exact VSub.any _) ?_))))); apply WpItems.evR)); (· simp only [go_sem, reduceIte, Nat.reduceEqDiff, Nat.reduceAdd, bx, ax, if_true, if_false, Nat.reduceMul, Nat.reduceLeDiff, d1]; exact rfl))
    | (refine WpItems.nil ⟨?_, ?_⟩; (· first | trivial | simp [pairsQ, pairsOk, apart, ent0]))
    | (apply Wp.cond_lit; (· simp only [go_sem, reduceIte, Nat.reduceEqDiff, Nat.reduceAdd, bx, ax, if_true, if_false, Nat.reduceMul, Nat.reduceLeDiff, d1]; exact rfl); (· rfl))
    | refine Wp.skip ?_
    | refine Wp.label ?_
    | refine Wp.block ?_
    | refine Wp.exit ?_
    | refine Wp.seq ?_)
  exact Wp.ret ⟨trivial, _, rfl, VSub.refl _, rfl⟩
theorem no_scan (h : NoSp x F) (a b : Bs) (t most : Int) : GCalls Try.prog 17 [x, .str a, .str b, .int .i64 t, .int .i64 most] [F] (fun r l => r = .tup [.sl 2 [] (.exact 0), .int .i64 1] ∧ l = [F]) := by
  refine f17.gsameF (by simp) fun n m ok1 => ?_
  unfold c17
  have d1 : decide ((1 : Int) = 0) = false := rfl
  have ok := ((ok1.more (.cells [x])).more (.cells [.int .i64 t])).more (.cells [.int .i64 most])
  have g0 : ∀ u v L, lay (ob (n + 1 + 1) u :: ob (n + 1) v :: ob n (.cells [x]) :: L) n = some (.cells [x]) := fun u v L => by
    rw [lay_ob_ne _ _ (by omega), lay_ob_ne _ _ (by omega), lay_ob_at]
  have g1 : ∀ u L, lay (ob (n + 1 + 1) u :: ob (n + 1) (.cells [.int .i64 t]) :: L) (n + 1) = some (.cells [.int .i64 t]) := fun u L => by
    rw [lay_ob_ne _ _ (by omega), lay_ob_at]
  have hk := no_kept h t
  have h4 := h.k
  rcases h.is with e | ⟨s, e⟩
  all_goals
    clear h
    subst e
    refine Wp.seqReg (by simp only [go_sem, reduceIte, Nat.reduceEqDiff, Nat.reduceAdd, bx]; exact rfl) (by trivial) ?_
    rw [upd_new, upd_new, upd_new]
    repeat (first
      | ((first | apply Wp.seqItemsR | apply Wp.itemsR | ((first
          | (refine WpItems.glook ?_ ?_ (hk) (by first | exact fun j o h => h | exact ok.sub (by simp) | assumption) (fun ids => ?_); (· simp only [go_sem, reduceIte, Nat.reduceEqDiff, Nat.reduceAdd, bx]); (· simp only [go_sem, reduceIte, Nat.reduceEqDiff, Nat.reduceAdd, bx, List.map]; first | exact VSubs.refl _ | (repeat (first | exact VSubs.nil | refine VSubs.cons (by first | exact VSub.refl _ | assumption | exact VSub.cap | exact VSub.any _) ?_))))); apply WpItems.evR)); (· simp only [go_sem, reduceIte, Nat.reduceEqDiff, Nat.reduceAdd, bx, ax, if_true, if_false, Nat.reduceMul, Nat.reduceLeDiff, d1, g0, g1]; exact rfl))
      | (refine WpItems.nil ⟨?_, ?_⟩; (· first | trivial | simp [pairsQ, pairsOk, apart, ent0]))
      | (apply Wp.cond_lit; (· simp only [go_sem, reduceIte, Nat.reduceEqDiff, Nat.reduceAdd, bx, ax, if_true, if_false, Nat.reduceMul, Nat.reduceLeDiff, d1, g0, g1]; exact rfl); (· rfl))
      | refine Wp.skip ?_
      | refine Wp.label ?_
      | refine Wp.block ?_
      | refine Wp.exit ?_
      | refine Wp.seq ?_)
    refine Wp.ret ⟨trivial, _, rfl, VSub.refl _, fun j hj => ?_, fun t ht => by simp [ks, h4] at ht⟩
    simp only
    rw [lay_ob_ne _ _ (by omega), lay_ob_ne _ _ (by omega), lay_ob_ne _ _ (by omega)]
theorem no_apply (h : NoSp x F) (t : Int) (l : List Ch) : Looks Try.prog 15 [x, .int .i64 t, .sl 3 (chs l) .any] F (.int .i64 1) := by
  refine f15.looks h.fin (by simp) fun n m => ?_
  unfold c15
  repeat (first
    | ((first | apply Wp.seqItemsR | apply Wp.itemsR | ((first
        | (refine WpItems.glook ?_ ?_ (h.made) (by first | exact fun j o h => h | exact ok.sub (by simp) | assumption) (fun ids => ?_); (· simp only [go_sem, reduceIte, Nat.reduceEqDiff, Nat.reduceAdd, bx]); (· simp only [go_sem, reduceIte, Nat.reduceEqDiff, Nat.reduceAdd, bx, List.map]; first | exact VSubs.refl _ | (repeat (first | exact VSubs.nil | refine VSubs.cons (by first | exact VSub.refl _ | assumption | exact VSub.cap | exact VSub.any _) ?_))))); apply WpItems.evR)); (· simp only [go_sem, reduceIte, Nat.reduceEqDiff, Nat.reduceAdd, bx, ax, if_true, if_false, Nat.reduceMul, Nat.reduceLeDiff, ax]; exact rfl))
    | (refine WpItems.nil ⟨?_, ?_⟩; (· first | trivial | simp [pairsQ, pairsOk, apart, ent0]))
    | (apply Wp.cond_lit; (· simp only [go_sem, reduceIte, Nat.reduceEqDiff, Nat.reduceAdd, bx, ax, if_true, if_false, Nat.reduceMul, Nat.reduceLeDiff, ax]; exact rfl); (· rfl))
    | refine Wp.skip ?_
    | refine Wp.label ?_
    | refine Wp.block ?_
    | refine Wp.exit ?_
    | refine Wp.seq ?_)
  exact Wp.ret ⟨trivial, _, rfl, VSub.refl _, rfl⟩
theorem no_vac (h : NoSp x F) (t : Int) : Looks Try.prog 21 [x, .int .i64 t] F (.int .i64 1) := by
  refine f21.looks h.fin (by simp) fun n m => ?_
  unfold c21
  repeat (first
    | ((first | apply Wp.seqItemsR | apply Wp.itemsR | ((first
        | (refine WpItems.glook ?_ ?_ (h.made) (by first | exact fun j o h => h | exact ok.sub (by simp) | assumption) (fun ids => ?_); (· simp only [go_sem, reduceIte, Nat.reduceEqDiff, Nat.reduceAdd, bx]); (· simp only [go_sem, reduceIte, Nat.reduceEqDiff, Nat.reduceAdd, bx, List.map]; first | exact VSubs.refl _ | (repeat (first | exact VSubs.nil | refine VSubs.cons (by first | exact VSub.refl _ | assumption | exact VSub.cap | exact VSub.any _) ?_))))); apply WpItems.evR)); (· simp only [go_sem, reduceIte, Nat.reduceEqDiff, Nat.reduceAdd, bx, ax, if_true, if_false, Nat.reduceMul, Nat.reduceLeDiff, ax]; exact rfl))
    | (refine WpItems.nil ⟨?_, ?_⟩; (· first | trivial | simp [pairsQ, pairsOk, apart, ent0]))
    | (apply Wp.cond_lit; (· simp only [go_sem, reduceIte, Nat.reduceEqDiff, Nat.reduceAdd, bx, ax, if_true, if_false, Nat.reduceMul, Nat.reduceLeDiff, ax]; exact rfl); (· rfl))
    | refine Wp.skip ?_
    | refine Wp.label ?_
    | refine Wp.block ?_
    | refine Wp.exit ?_
    | refine Wp.seq ?_)
  exact Wp.ret ⟨trivial, _, rfl, VSub.refl _, rfl⟩
theorem no_since (h : NoSp x F) (a b : Bs) (t : Int) : GCalls Try.prog 22 [x, .str a, .str b, .int .i64 t] [F] (fun r l => r = .bool false ∧ l = [F]) := by
  refine f22.gsameF (by simp) fun n m ok1 => ?_
  unfold c22
  have ok := ((ok1.more (.cells [x])).more (.cells [.int .i64 t])).more (.cells [.bool false])
  have g0 : ∀ u v L, lay (ob (n + 1 + 1) u :: ob (n + 1) v :: ob n (.cells [x]) :: L) n = some (.cells [x]) := fun u v L => by
    rw [lay_ob_ne _ _ (by omega), lay_ob_ne _ _ (by omega), lay_ob_at]
  have g2 : ∀ u L, lay (ob (n + 1 + 1) (.cells [u]) :: L) (n + 1 + 1) = some (.cells [u]) := fun u L => lay_ob_at _ _ _
  have hm := h.made
  have h4 := h.k
  rcases h.is with e | ⟨s, e⟩
  all_goals
    clear h
    subst e
    refine Wp.seqReg (by simp only [go_sem, reduceIte, Nat.reduceEqDiff, Nat.reduceAdd, bx]; exact rfl) (by trivial) ?_
    rw [upd_new, upd_new, upd_new]
    repeat (first
      | ((first | apply Wp.seqItemsR | apply Wp.itemsR | ((first
          | (refine WpItems.glook ?_ ?_ (hm) (by first | exact fun j o h => h | exact ok.sub (by simp) | assumption) (fun ids => ?_); (· simp only [go_sem, reduceIte, Nat.reduceEqDiff, Nat.reduceAdd, bx]); (· simp only [go_sem, reduceIte, Nat.reduceEqDiff, Nat.reduceAdd, bx, List.map]; first | exact VSubs.refl _ | (repeat (first | exact VSubs.nil | refine VSubs.cons (by first | exact VSub.refl _ | assumption | exact VSub.cap | exact VSub.any _) ?_))))); apply WpItems.evR)); (· simp only [go_sem, reduceIte, Nat.reduceEqDiff, Nat.reduceAdd, bx, ax, if_true, if_false, Nat.reduceMul, Nat.reduceLeDiff, g0, g2]; exact rfl))
      | (refine WpItems.nil ⟨?_, ?_⟩; (· first | trivial | simp [pairsQ, pairsOk, apart, ent0]))
      | (apply Wp.cond_lit; (· simp only [go_sem, reduceIte, Nat.reduceEqDiff, Nat.reduceAdd, bx, ax, if_true, if_false, Nat.reduceMul, Nat.reduceLeDiff, g0, g2]; exact rfl); (· rfl))
      | refine Wp.skip ?_
      | refine Wp.label ?_
      | refine Wp.block ?_
      | refine Wp.exit ?_
      | refine Wp.seq ?_)
    rw [upd_ob]
    refine Wp.ret ⟨trivial, .bool false, ?_, VSub.refl _, fun j hj => ?_, fun t ht => by simp [ks, h4] at ht⟩
    · simp only [resOf, rvs, rv, go_sem, reduceIte, Nat.reduceEqDiff, lay_ob_at]
    · simp only
      rw [lay_ob_ne _ _ (by omega), lay_ob_ne _ _ (by omega), lay_ob_ne _ _ (by omega)]
theorem no_last (h : NoSp x F) : Looks Try.prog 19 [x] F (.int .i64 0) := by
  refine f19.looks h.fin (by simp) fun n m => ?_
  unfold c19
  repeat (first
    | ((first | apply Wp.seqItemsR | apply Wp.itemsR | ((first
        | (refine WpItems.glook ?_ ?_ (h.made) (by first | exact fun j o h => h | exact ok.sub (by simp) | assumption) (fun ids => ?_); (· simp only [go_sem, reduceIte, Nat.reduceEqDiff, Nat.reduceAdd, bx]); (· simp only [go_sem, reduceIte, Nat.reduceEqDiff, Nat.reduceAdd, bx, List.map]; first | exact VSubs.refl _ | (repeat (first | exact VSubs.nil | refine VSubs.cons (by first | exact VSub.refl _ | assumption | exact VSub.cap | exact VSub.any _) ?_))))); apply WpItems.evR)); (· simp only [go_sem, reduceIte, Nat.reduceEqDiff, Nat.reduceAdd, bx, ax, if_true, if_false, Nat.reduceMul, Nat.reduceLeDiff, ax]; exact rfl))
    | (refine WpItems.nil ⟨?_, ?_⟩; (· first | trivial | simp [pairsQ, pairsOk, apart, ent0]))
    | (apply Wp.cond_lit; (· simp only [go_sem, reduceIte, Nat.reduceEqDiff, Nat.reduceAdd, bx, ax, if_true, if_false, Nat.reduceMul, Nat.reduceLeDiff, ax]; exact rfl); (· rfl))
    | refine Wp.skip ?_
    | refine Wp.label ?_
    | refine Wp.block ?_
    | refine Wp.exit ?_
    | refine Wp.seq ?_)
  exact Wp.ret ⟨trivial, _, rfl, VSub.refl _, rfl⟩
theorem no_mark (h : NoSp x F) : Looks Try.prog 23 [x] F (.int .i64 0) := by
  refine f23.looks h.fin (by simp) fun n m => ?_
  unfold c23
  repeat (first
    | ((first | apply Wp.seqItemsR | apply Wp.itemsR | ((first
        | (refine WpItems.glook ?_ ?_ (h.made) (by first | exact fun j o h => h | exact ok.sub (by simp) | assumption) (fun ids => ?_); (· simp only [go_sem, reduceIte, Nat.reduceEqDiff, Nat.reduceAdd, bx]); (· simp only [go_sem, reduceIte, Nat.reduceEqDiff, Nat.reduceAdd, bx, List.map]; first | exact VSubs.refl _ | (repeat (first | exact VSubs.nil | refine VSubs.cons (by first | exact VSub.refl _ | assumption | exact VSub.cap | exact VSub.any _) ?_))))); apply WpItems.evR)); (· simp only [go_sem, reduceIte, Nat.reduceEqDiff, Nat.reduceAdd, bx, ax, if_true, if_false, Nat.reduceMul, Nat.reduceLeDiff, ax]; exact rfl))
    | (refine WpItems.nil ⟨?_, ?_⟩; (· first | trivial | simp [pairsQ, pairsOk, apart, ent0]))
    | (apply Wp.cond_lit; (· simp only [go_sem, reduceIte, Nat.reduceEqDiff, Nat.reduceAdd, bx, ax, if_true, if_false, Nat.reduceMul, Nat.reduceLeDiff, ax]; exact rfl); (· rfl))
    | refine Wp.skip ?_
    | refine Wp.label ?_
    | refine Wp.block ?_
    | refine Wp.exit ?_
    | refine Wp.seq ?_)
  exact Wp.ret ⟨trivial, _, rfl, VSub.refl _, rfl⟩
theorem no_items (h : NoSp x F) : Looks Try.prog 24 [x] F (.sl 2 [] (.exact 0)) := by
  refine f24.looks h.fin (by simp) fun n m => ?_
  unfold c24
  repeat (first
    | ((first | apply Wp.seqItemsR | apply Wp.itemsR | ((first
        | (refine WpItems.glook ?_ ?_ (h.made) (by first | exact fun j o h => h | exact ok.sub (by simp) | assumption) (fun ids => ?_); (· simp only [go_sem, reduceIte, Nat.reduceEqDiff, Nat.reduceAdd, bx]); (· simp only [go_sem, reduceIte, Nat.reduceEqDiff, Nat.reduceAdd, bx, List.map]; first | exact VSubs.refl _ | (repeat (first | exact VSubs.nil | refine VSubs.cons (by first | exact VSub.refl _ | assumption | exact VSub.cap | exact VSub.any _) ?_))))); apply WpItems.evR)); (· simp only [go_sem, reduceIte, Nat.reduceEqDiff, Nat.reduceAdd, bx, ax, if_true, if_false, Nat.reduceMul, Nat.reduceLeDiff, ax]; exact rfl))
    | (refine WpItems.nil ⟨?_, ?_⟩; (· first | trivial | simp [pairsQ, pairsOk, apart, ent0]))
    | (apply Wp.cond_lit; (· simp only [go_sem, reduceIte, Nat.reduceEqDiff, Nat.reduceAdd, bx, ax, if_true, if_false, Nat.reduceMul, Nat.reduceLeDiff, ax]; exact rfl); (· rfl))
    | refine Wp.skip ?_
    | refine Wp.label ?_
    | refine Wp.block ?_
    | refine Wp.exit ?_
    | refine Wp.seq ?_)
  exact Wp.ret ⟨trivial, _, rfl, VSub.refl _, rfl⟩
theorem no_copy (h : NoSp x F) : Looks Try.prog 25 [x] F (.sc (.pointer none)) := by
  refine f25.looks h.fin (by simp) fun n m => ?_
  unfold c25
  repeat (first
    | ((first | apply Wp.seqItemsR | apply Wp.itemsR | ((first
        | (refine WpItems.glook ?_ ?_ (h.made) (by first | exact fun j o h => h | exact ok.sub (by simp) | assumption) (fun ids => ?_); (· simp only [go_sem, reduceIte, Nat.reduceEqDiff, Nat.reduceAdd, bx]); (· simp only [go_sem, reduceIte, Nat.reduceEqDiff, Nat.reduceAdd, bx, List.map]; first | exact VSubs.refl _ | (repeat (first | exact VSubs.nil | refine VSubs.cons (by first | exact VSub.refl _ | assumption | exact VSub.cap | exact VSub.any _) ?_))))); apply WpItems.evR)); (· simp only [go_sem, reduceIte, Nat.reduceEqDiff, Nat.reduceAdd, bx, ax, if_true, if_false, Nat.reduceMul, Nat.reduceLeDiff, ax]; exact rfl))
    | (refine WpItems.nil ⟨?_, ?_⟩; (· first | trivial | simp [pairsQ, pairsOk, apart, ent0]))
    | (apply Wp.cond_lit; (· simp only [go_sem, reduceIte, Nat.reduceEqDiff, Nat.reduceAdd, bx, ax, if_true, if_false, Nat.reduceMul, Nat.reduceLeDiff, ax]; exact rfl); (· rfl))
    | refine Wp.skip ?_
    | refine Wp.label ?_
    | refine Wp.block ?_
    | refine Wp.exit ?_
    | refine Wp.seq ?_)
  exact Wp.ret ⟨trivial, _, rfl, VSub.refl _, rfl⟩
set_option maxHeartbeats 4000000 in
theorem nil_p (q : Bs) (t : Int) (l : List Ch) (made : Bool) : PCalls Try.prog 4 [.str q, .int .i64 t, .sl 3 (chs l) .any, .bool made] (.bool true) := by
  refine f4.pcalls0 (by simp) (by simp [allPure, isPure, capPure, chs_pure]) rfl ?_
  unfold c4
  have hL := lives_p
  have d1 : decide ((1 : Int) = 1) = true := rfl
  have d0 : decide ((0 : Int) = 0) = true := rfl
  have e0 : decide (([] : List UInt8) = []) = true := rfl
  have z0 : decide (((0 : Nat) : Int) = 0) = true := rfl
  cases made with
  | false =>
    have h := no_nil
    have ok : Ok [fr0] 0 [] 0 := Ok.nil.start
    repeat (first
      | ((first | apply Wp.seqItemsR | apply Wp.itemsR | ((first
          | (refine WpItems.glook ?_ ?_ (no_get h q t) (by first | exact fun j o h => h | exact ok.sub (by simp) | assumption) (fun ids => ?_); (· simp only [go_sem, reduceIte, Nat.reduceEqDiff, Nat.reduceAdd, bx]); (· simp only [go_sem, reduceIte, Nat.reduceEqDiff, Nat.reduceAdd, bx, List.map]; first | exact VSubs.refl _ | (repeat (first | exact VSubs.nil | refine VSubs.cons (by first | exact VSub.refl _ | assumption | exact VSub.cap | exact VSub.any _) ?_))))); apply WpItems.evR)); (· simp only [go_sem, reduceIte, Nat.reduceEqDiff, Nat.reduceAdd, bx, ax, if_true, if_false, Nat.reduceMul, Nat.reduceLeDiff, d1, d0, e0, z0]; exact rfl))
      | (refine WpItems.nil ⟨?_, ?_⟩; (· first | trivial | simp [pairsQ, pairsOk, apart, ent0]))
      | (apply Wp.cond_lit; (· simp only [go_sem, reduceIte, Nat.reduceEqDiff, Nat.reduceAdd, bx, ax, if_true, if_false, Nat.reduceMul, Nat.reduceLeDiff, d1, d0, e0, z0]; exact rfl); (· rfl))
      | refine Wp.skip ?_
      | refine Wp.label ?_
      | refine Wp.block ?_
      | refine Wp.exit ?_
      | refine Wp.seq ?_)
    show WpItems _ _ _ _ ⟨lay [fr0], 0, [], 0⟩ _ _
    refine WpItems.gkeep0 (by simp only [go_sem, reduceIte, Nat.reduceEqDiff, Nat.reduceAdd, bx]) (by simp only [go_sem, reduceIte, Nat.reduceEqDiff, Nat.reduceAdd, bx, List.map]; first | exact VSubs.refl _ | (repeat (first | exact VSubs.nil | refine VSubs.cons (by first | exact VSub.refl _ | assumption | exact VSub.cap | exact VSub.any _) ?_))) (no_scan h q q t t) (h.k) (ok) fun n3 m3 ids3 on3 hids3 => ?_
    have ok := on3.ok
    refine WpItems.evR (by simp only [go_sem, reduceIte, Nat.reduceEqDiff, Nat.reduceAdd, bx]; exact rfl) ?_
    repeat (first
      | ((first | apply Wp.seqItemsR | apply Wp.itemsR | ((first
          | (refine WpItems.glook ?_ ?_ (no_apply h t l) (by first | exact fun j o h => h | exact ok.sub (by simp) | assumption) (fun ids => ?_); (· simp only [go_sem, reduceIte, Nat.reduceEqDiff, Nat.reduceAdd, bx]); (· simp only [go_sem, reduceIte, Nat.reduceEqDiff, Nat.reduceAdd, bx, List.map]; first | exact VSubs.refl _ | (repeat (first | exact VSubs.nil | refine VSubs.cons (by first | exact VSub.refl _ | assumption | exact VSub.cap | exact VSub.any _) ?_))))
          | (refine WpItems.glook ?_ ?_ (no_vac h t) (by first | exact fun j o h => h | exact ok.sub (by simp) | assumption) (fun ids => ?_); (· simp only [go_sem, reduceIte, Nat.reduceEqDiff, Nat.reduceAdd, bx]); (· simp only [go_sem, reduceIte, Nat.reduceEqDiff, Nat.reduceAdd, bx, List.map]; first | exact VSubs.refl _ | (repeat (first | exact VSubs.nil | refine VSubs.cons (by first | exact VSub.refl _ | assumption | exact VSub.cap | exact VSub.any _) ?_))))); apply WpItems.evR)); (· simp only [go_sem, reduceIte, Nat.reduceEqDiff, Nat.reduceAdd, bx, ax, if_true, if_false, Nat.reduceMul, Nat.reduceLeDiff, d1, d0, e0, z0, List.length_nil]; exact rfl))
      | (refine WpItems.nil ⟨?_, ?_⟩; (· first | trivial | simp [pairsQ, pairsOk, apart, ent0]))
      | (apply Wp.cond_lit; (· simp only [go_sem, reduceIte, Nat.reduceEqDiff, Nat.reduceAdd, bx, ax, if_true, if_false, Nat.reduceMul, Nat.reduceLeDiff, d1, d0, e0, z0, List.length_nil]; exact rfl); (· rfl))
      | refine Wp.skip ?_
      | refine Wp.label ?_
      | refine Wp.block ?_
      | refine Wp.exit ?_
      | refine Wp.seq ?_)
    refine WpItems.gkeep0 (by simp only [go_sem, reduceIte, Nat.reduceEqDiff, Nat.reduceAdd, bx]) (by simp only [go_sem, reduceIte, Nat.reduceEqDiff, Nat.reduceAdd, bx, List.map]; first | exact VSubs.refl _ | (repeat (first | exact VSubs.nil | refine VSubs.cons (by first | exact VSub.refl _ | assumption | exact VSub.cap | exact VSub.any _) ?_))) (no_since h q [] t) (h.k) (ok) fun n4 m4 ids4 on4 hids4 => ?_
    have ok := on4.ok
    refine WpItems.evR (by simp only [go_sem, reduceIte, Nat.reduceEqDiff, Nat.reduceAdd, bx]; exact rfl) ?_
    repeat (first
      | ((first | apply Wp.seqItemsR | apply Wp.itemsR | ((first
          | (refine WpItems.glook ?_ ?_ (no_last h) (by first | exact fun j o h => h | exact ok.sub (by simp) | assumption) (fun ids => ?_); (· simp only [go_sem, reduceIte, Nat.reduceEqDiff, Nat.reduceAdd, bx]); (· simp only [go_sem, reduceIte, Nat.reduceEqDiff, Nat.reduceAdd, bx, List.map]; first | exact VSubs.refl _ | (repeat (first | exact VSubs.nil | refine VSubs.cons (by first | exact VSub.refl _ | assumption | exact VSub.cap | exact VSub.any _) ?_))))
          | (refine WpItems.glook ?_ ?_ (no_mark h) (by first | exact fun j o h => h | exact ok.sub (by simp) | assumption) (fun ids => ?_); (· simp only [go_sem, reduceIte, Nat.reduceEqDiff, Nat.reduceAdd, bx]); (· simp only [go_sem, reduceIte, Nat.reduceEqDiff, Nat.reduceAdd, bx, List.map]; first | exact VSubs.refl _ | (repeat (first | exact VSubs.nil | refine VSubs.cons (by first | exact VSub.refl _ | assumption | exact VSub.cap | exact VSub.any _) ?_))))
          | (refine WpItems.glook ?_ ?_ (no_items h) (by first | exact fun j o h => h | exact ok.sub (by simp) | assumption) (fun ids => ?_); (· simp only [go_sem, reduceIte, Nat.reduceEqDiff, Nat.reduceAdd, bx]); (· simp only [go_sem, reduceIte, Nat.reduceEqDiff, Nat.reduceAdd, bx, List.map]; first | exact VSubs.refl _ | (repeat (first | exact VSubs.nil | refine VSubs.cons (by first | exact VSub.refl _ | assumption | exact VSub.cap | exact VSub.any _) ?_))))
          | (refine WpItems.glook ?_ ?_ (no_copy h) (by first | exact fun j o h => h | exact ok.sub (by simp) | assumption) (fun ids => ?_); (· simp only [go_sem, reduceIte, Nat.reduceEqDiff, Nat.reduceAdd, bx]); (· simp only [go_sem, reduceIte, Nat.reduceEqDiff, Nat.reduceAdd, bx, List.map]; first | exact VSubs.refl _ | (repeat (first | exact VSubs.nil | refine VSubs.cons (by first | exact VSub.refl _ | assumption | exact VSub.cap | exact VSub.any _) ?_))))
          | (refine WpItems.pcall ?_ ?_ (hL) ?_; (· simp only [go_sem, reduceIte, Nat.reduceEqDiff, Nat.reduceAdd, bx]); (· simp only [go_sem, reduceIte, Nat.reduceEqDiff, Nat.reduceAdd, bx, List.map]; first | exact VSubs.refl _ | (repeat (first | exact VSubs.nil | refine VSubs.cons (by first | exact VSub.refl _ | assumption | exact VSub.cap | exact VSub.any _) ?_))))); apply WpItems.evR)); (· simp only [go_sem, reduceIte, Nat.reduceEqDiff, Nat.reduceAdd, bx, ax, if_true, if_false, Nat.reduceMul, Nat.reduceLeDiff, d1, d0, e0, z0, List.length_nil]; exact rfl))
      | (refine WpItems.nil ⟨?_, ?_⟩; (· first | trivial | simp [pairsQ, pairsOk, apart, ent0]))
      | (apply Wp.cond_lit; (· simp only [go_sem, reduceIte, Nat.reduceEqDiff, Nat.reduceAdd, bx, ax, if_true, if_false, Nat.reduceMul, Nat.reduceLeDiff, d1, d0, e0, z0, List.length_nil]; exact rfl); (· rfl))
      | refine Wp.skip ?_
      | refine Wp.label ?_
      | refine Wp.block ?_
      | refine Wp.exit ?_
      | refine Wp.seq ?_)
    refine Wp.ret ⟨trivial, _, rfl, ?_⟩
    simp only [go_sem, reduceIte, Nat.reduceEqDiff, Nat.reduceAdd, bx]
    exact VSub.refl _
  | true =>
    have h := no_un 0
    have ok : Ok [ob 0 unO] 1 [] 0 := Ok.nil.more unO
    repeat (first
      | ((first | apply Wp.seqItemsR | apply Wp.itemsR | ((first
          | (refine WpItems.glook ?_ ?_ (no_get h q t) (by first | exact fun j o h => h | exact ok.sub (by simp) | assumption) (fun ids => ?_); (· simp only [go_sem, reduceIte, Nat.reduceEqDiff, Nat.reduceAdd, bx]); (· simp only [go_sem, reduceIte, Nat.reduceEqDiff, Nat.reduceAdd, bx, List.map]; first | exact VSubs.refl _ | (repeat (first | exact VSubs.nil | refine VSubs.cons (by first | exact VSub.refl _ | assumption | exact VSub.cap | exact VSub.any _) ?_))))); apply WpItems.evR)); (· simp only [go_sem, reduceIte, Nat.reduceEqDiff, Nat.reduceAdd, bx, ax, if_true, if_false, Nat.reduceMul, Nat.reduceLeDiff, d1, d0, e0, z0]; exact rfl))
      | (refine WpItems.nil ⟨?_, ?_⟩; (· first | trivial | simp [pairsQ, pairsOk, apart, ent0]))
      | (apply Wp.cond_lit; (· simp only [go_sem, reduceIte, Nat.reduceEqDiff, Nat.reduceAdd, bx, ax, if_true, if_false, Nat.reduceMul, Nat.reduceLeDiff, d1, d0, e0, z0]; exact rfl); (· rfl))
      | refine Wp.skip ?_
      | refine Wp.label ?_
      | refine Wp.block ?_
      | refine Wp.exit ?_
      | refine Wp.seq ?_)
    have e : (upd none' 0 (some (Av.Obj.cells [.sl 1 [] (.exact 0), .sc (.map none), .int .i64 0, .int .i64 0])) : Objs) = lay [ob 0 unO] := upd_new (l := [])
    rw [e]
    refine WpItems.gkeep0 (by simp only [go_sem, reduceIte, Nat.reduceEqDiff, Nat.reduceAdd, bx]) (by simp only [go_sem, reduceIte, Nat.reduceEqDiff, Nat.reduceAdd, bx, List.map]; first | exact VSubs.refl _ | (repeat (first | exact VSubs.nil | refine VSubs.cons (by first | exact VSub.refl _ | assumption | exact VSub.cap | exact VSub.any _) ?_))) (no_scan h q q t t) (h.k) (ok) fun n3 m3 ids3 on3 hids3 => ?_
    have ok := on3.ok
    refine WpItems.evR (by simp only [go_sem, reduceIte, Nat.reduceEqDiff, Nat.reduceAdd, bx]; exact rfl) ?_
    repeat (first
      | ((first | apply Wp.seqItemsR | apply Wp.itemsR | ((first
          | (refine WpItems.glook ?_ ?_ (no_apply h t l) (by first | exact fun j o h => h | exact ok.sub (by simp) | assumption) (fun ids => ?_); (· simp only [go_sem, reduceIte, Nat.reduceEqDiff, Nat.reduceAdd, bx]); (· simp only [go_sem, reduceIte, Nat.reduceEqDiff, Nat.reduceAdd, bx, List.map]; first | exact VSubs.refl _ | (repeat (first | exact VSubs.nil | refine VSubs.cons (by first | exact VSub.refl _ | assumption | exact VSub.cap | exact VSub.any _) ?_))))
          | (refine WpItems.glook ?_ ?_ (no_vac h t) (by first | exact fun j o h => h | exact ok.sub (by simp) | assumption) (fun ids => ?_); (· simp only [go_sem, reduceIte, Nat.reduceEqDiff, Nat.reduceAdd, bx]); (· simp only [go_sem, reduceIte, Nat.reduceEqDiff, Nat.reduceAdd, bx, List.map]; first | exact VSubs.refl _ | (repeat (first | exact VSubs.nil | refine VSubs.cons (by first | exact VSub.refl _ | assumption | exact VSub.cap | exact VSub.any _) ?_))))); apply WpItems.evR)); (· simp only [go_sem, reduceIte, Nat.reduceEqDiff, Nat.reduceAdd, bx, ax, if_true, if_false, Nat.reduceMul, Nat.reduceLeDiff, d1, d0, e0, z0, List.length_nil]; exact rfl))
      | (refine WpItems.nil ⟨?_, ?_⟩; (· first | trivial | simp [pairsQ, pairsOk, apart, ent0]))
      | (apply Wp.cond_lit; (· simp only [go_sem, reduceIte, Nat.reduceEqDiff, Nat.reduceAdd, bx, ax, if_true, if_false, Nat.reduceMul, Nat.reduceLeDiff, d1, d0, e0, z0, List.length_nil]; exact rfl); (· rfl))
      | refine Wp.skip ?_
      | refine Wp.label ?_
      | refine Wp.block ?_
      | refine Wp.exit ?_
      | refine Wp.seq ?_)
    refine WpItems.gkeep0 (by simp only [go_sem, reduceIte, Nat.reduceEqDiff, Nat.reduceAdd, bx]) (by simp only [go_sem, reduceIte, Nat.reduceEqDiff, Nat.reduceAdd, bx, List.map]; first | exact VSubs.refl _ | (repeat (first | exact VSubs.nil | refine VSubs.cons (by first | exact VSub.refl _ | assumption | exact VSub.cap | exact VSub.any _) ?_))) (no_since h q [] t) (h.k) (ok) fun n4 m4 ids4 on4 hids4 => ?_
    have ok := on4.ok
    refine WpItems.evR (by simp only [go_sem, reduceIte, Nat.reduceEqDiff, Nat.reduceAdd, bx]; exact rfl) ?_
    repeat (first
      | ((first | apply Wp.seqItemsR | apply Wp.itemsR | ((first
          | (refine WpItems.glook ?_ ?_ (no_last h) (by first | exact fun j o h => h | exact ok.sub (by simp) | assumption) (fun ids => ?_); (· simp only [go_sem, reduceIte, Nat.reduceEqDiff, Nat.reduceAdd, bx]); (· simp only [go_sem, reduceIte, Nat.reduceEqDiff, Nat.reduceAdd, bx, List.map]; first | exact VSubs.refl _ | (repeat (first | exact VSubs.nil | refine VSubs.cons (by first | exact VSub.refl _ | assumption | exact VSub.cap | exact VSub.any _) ?_))))
          | (refine WpItems.glook ?_ ?_ (no_mark h) (by first | exact fun j o h => h | exact ok.sub (by simp) | assumption) (fun ids => ?_); (· simp only [go_sem, reduceIte, Nat.reduceEqDiff, Nat.reduceAdd, bx]); (· simp only [go_sem, reduceIte, Nat.reduceEqDiff, Nat.reduceAdd, bx, List.map]; first | exact VSubs.refl _ | (repeat (first | exact VSubs.nil | refine VSubs.cons (by first | exact VSub.refl _ | assumption | exact VSub.cap | exact VSub.any _) ?_))))
          | (refine WpItems.glook ?_ ?_ (no_items h) (by first | exact fun j o h => h | exact ok.sub (by simp) | assumption) (fun ids => ?_); (· simp only [go_sem, reduceIte, Nat.reduceEqDiff, Nat.reduceAdd, bx]); (· simp only [go_sem, reduceIte, Nat.reduceEqDiff, Nat.reduceAdd, bx, List.map]; first | exact VSubs.refl _ | (repeat (first | exact VSubs.nil | refine VSubs.cons (by first | exact VSub.refl _ | assumption | exact VSub.cap | exact VSub.any _) ?_))))
          | (refine WpItems.glook ?_ ?_ (no_copy h) (by first | exact fun j o h => h | exact ok.sub (by simp) | assumption) (fun ids => ?_); (· simp only [go_sem, reduceIte, Nat.reduceEqDiff, Nat.reduceAdd, bx]); (· simp only [go_sem, reduceIte, Nat.reduceEqDiff, Nat.reduceAdd, bx, List.map]; first | exact VSubs.refl _ | (repeat (first | exact VSubs.nil | refine VSubs.cons (by first | exact VSub.refl _ | assumption | exact VSub.cap | exact VSub.any _) ?_))))
          | (refine WpItems.pcall ?_ ?_ (hL) ?_; (· simp only [go_sem, reduceIte, Nat.reduceEqDiff, Nat.reduceAdd, bx]); (· simp only [go_sem, reduceIte, Nat.reduceEqDiff, Nat.reduceAdd, bx, List.map]; first | exact VSubs.refl _ | (repeat (first | exact VSubs.nil | refine VSubs.cons (by first | exact VSub.refl _ | assumption | exact VSub.cap | exact VSub.any _) ?_))))); apply WpItems.evR)); (· simp only [go_sem, reduceIte, Nat.reduceEqDiff, Nat.reduceAdd, bx, ax, if_true, if_false, Nat.reduceMul, Nat.reduceLeDiff, d1, d0, e0, z0, List.length_nil]; exact rfl))
      | (refine WpItems.nil ⟨?_, ?_⟩; (· first | trivial | simp [pairsQ, pairsOk, apart, ent0]))
      | (apply Wp.cond_lit; (· simp only [go_sem, reduceIte, Nat.reduceEqDiff, Nat.reduceAdd, bx, ax, if_true, if_false, Nat.reduceMul, Nat.reduceLeDiff, d1, d0, e0, z0, List.length_nil]; exact rfl); (· rfl))
      | refine Wp.skip ?_
      | refine Wp.label ?_
      | refine Wp.block ?_
      | refine Wp.exit ?_
      | refine Wp.seq ?_)
    refine Wp.ret ⟨trivial, _, rfl, ?_⟩
    simp only [go_sem, reduceIte, Nat.reduceEqDiff, Nat.reduceAdd, bx]
    exact VSub.refl _
theorem law_SpaceNil {b : Nat} (avs : List AV) (h : All2 (ArgFits Try.prog 5) Try.f4.params.toList avs) (_ : bulkAs avs ≤ b) : PCalls Try.prog 4 avs (.bool true) := by
  rw [Try.params4] at h
  cases h with | cons h0 h => cases h with | cons h1 h => cases h with | cons h2 h => cases h with | cons h3 h =>
  cases h
  obtain ⟨q, rfl, -⟩ := open_str h0
  obtain ⟨t, rfl, -⟩ := open_i h1
  obtain ⟨l, rfl, -⟩ := open_changes h2
  obtain ⟨m, rfl⟩ := open_b h3
  exact nil_p q t l m
end Go.Proofs.Ytpehfflehebmbaa.Space
end
section
set_option linter.unusedSimpArgs false
set_option linter.unusedVariables false
namespace Go.Proofs.Ytpehfflehebmbaa.Space
open Go Go.Av Go.Proofs Go.Proofs.Ytpehfflehebmbaa.C
open Go.ChangeShapes Go.WideShapes Go.ChangeAt Go.RowKit
set_option maxRecDepth 100000 in
theorem lifted_SpaceNil (os : Os) (started : os.Started) (H : Type) (enc : TypeId × Value → H) :
    ReturnsInHanded {} Try.checked os 4 .any (Rows.spaceNilSpec.pre6 enc Try.prog Try.f4 Rows.spaceNilRow.domain false) (Rows.spaceNilSpec.post enc Try.prog Try.f4 false true false false) := by
  refine returnsInHanded_of_change_sized (C := Try.checked) own started (by kernel_rfl) Try.func4
    (ChangeSpec.witness6 (enc := enc) (C := Try.checked) false ⟨#[], #[.string ⟨#[]⟩, .int .i64 0, .slice none 0 0, .bool false], []⟩ 8 (by kernel_rfl) (by kernel_rfl) (by kernel_rfl) (by kernel_rfl)) ?_
  intro W base args ds gs before hval hW _ hwt _
  exact calls_row laid bulk rowed full rfl (fun l hl => by match l, hl with | [_, _, _, _], _ => rfl) rfl Try.underlying4 (by kernel_rfl) (by kernel_rfl) hval hW hwt (fun avs h hb => law_SpaceNil avs h hb)
theorem said_SpaceNil : Rows.SpaceNilSaid :=
  OpenClaim.holds_of_wide 4 Try.f4 rfl rfl rfl rfl rfl rfl rfl ⟨rfl, rfl, rfl, rfl, rfl⟩ rfl rfl rfl rfl rfl (by kernel_rfl) Try.func4 (by kernel_rfl)
    (of_decide_eq_true (by kernel_rfl)) (by unfold Func.isWrapper; first | (rw [if_pos (by decide +kernel)]; kernel_rfl) | (rw [if_neg (by decide +kernel)]; exact ⟨rfl, rfl⟩))
    (fun os started H enc _ => lifted_SpaceNil os started H enc)
#print axioms said_SpaceNil
end Go.Proofs.Ytpehfflehebmbaa.Space
end
