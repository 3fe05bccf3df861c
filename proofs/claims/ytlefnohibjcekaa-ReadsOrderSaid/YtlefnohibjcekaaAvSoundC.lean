/- The operations that make memory, write it, or append: over just the objects and tokens that they touch. -/
import Derived.Test.YtlefnohibjcekaaAvSoundB
import Derived.Laws.Append
import Derived.IntWalk
set_option linter.unusedVariables false
set_option linter.unusedSimpArgs false
namespace Go.Av
section
variable {P : Program} {G : Ghost} {w : World}

/-- a heap of these objects and tokens alone -/
def H.only (objs : Nat → Option Obj) (toks : List Nat) (n m : Nat) : H := ⟨objs, n, toks, m⟩
def none' : Nat → Option Obj := fun _ => none

/-- the world behind a new block and some draws -/
def Pushed (w w' : World) (o : Go.Obj) : Prop := w'.heap = w.heap.push o ∧ w'.os = w.os ∧ w'.output = w.output

theorem Pushed.old {w' : World} {o : Go.Obj} (h : Pushed w w' o) {B : Nat} (hB : B < w.heap.size) : w'.heap[B]? = w.heap[B]? := by
  rw [h.1, Array.getElem?_push]; split
  · omega
  · rfl
theorem Pushed.new {w' : World} {o : Go.Obj} (h : Pushed w w' o) : w'.heap[w.heap.size]? = some o := by
  rw [h.1]; simp
theorem Pushed.size {w' : World} {o : Go.Obj} (h : Pushed w w' o) : w'.heap.size = w.heap.size + 1 := by
  rw [h.1]; simp

/-- a new block, whatever becomes of it: nothing of what was there turns -/
theorem trans_push {w' : World} {o : Go.Obj} (hp : Pushed w w' o) {h h' : H} {G' : Ghost} (hO : ∀ B, ¬ h.O G B) (hT : ∀ B, h.T G B → G.lim B = G'.lim B)
    (d1 : ∀ id, G.dom id → G'.dom id) (d2 : ∀ id, G'.dom id → G.dom id ∨ (h.n ≤ id ∧ id < h'.n)) (d3 : ∀ id, G.dom id → G'.ι id = G.ι id)
    (t1 : ∀ id, G.tdom id → G'.tdom id) (t2 : ∀ id, G'.tdom id → G.tdom id ∨ (h.m ≤ id ∧ id < h'.m)) (t3 : ∀ id, G.tdom id → G'.τ id = G.τ id)
    (hn : h.n ≤ h'.n) (hm : h.m ≤ h'.m) (ho : ∀ B, B < w.heap.size → (G'.own B ↔ G.own B)) (hl : ∀ B, B < w.heap.size → G'.lim B = G.lim B)
    (hO' : ∀ B, B < w.heap.size → ¬ h'.O G' B) (hT' : ∀ B, B < w.heap.size → h'.T G' B → h.T G B)
    (on : ∀ j o, h'.objs j = some o → (∃ o', h.objs j = some o') ∨ (h.n ≤ j ∧ j < h'.n)) (tn : ∀ t, t ∈ h'.toks → t ∈ h.toks ∨ (h.m ≤ t ∧ t < h'.m)) : Trans G w h G' w' h' where
  dom_le := d1
  dom_new := d2
  ι_eq := d3
  tdom_le := t1
  tdom_new := t2
  τ_eq := t3
  n_le := hn
  m_le := hm
  size_le := by rw [hp.size]; omega
  os := hp.2.1
  output := hp.2.2
  form B hB := by rw [hp.old hB]; exact SameForm.refl _
  keep B hB _ _ := hp.old hB
  own_keep B hB _ := ho B hB
  lim_keep B hB _ _ := hl B hB
  tok_keep B hB ht _ e he := ⟨fun j _ => by unfold World.cell?; simp only [hp.old hB], fun e' he' => by rw [← hT B ht, he] at he'; cases he'; exact Nat.le_refl _⟩
  O_new B hB x := absurd x (hO' B hB)
  T_new B hB x := hT' B hB x
  objs_new := on
  toks_new := tn

/-- a new tracked object -/
theorem new_objR {w' : World} {cs : List AV} {vs rest : List Value} {T : TypeId} {n m : Nat} (hp : Pushed w w' (.cells (vs ++ rest).toArray T (0, 0))) (hr : VRels G w cs vs) (h1 : ∀ v ∈ vs, One v) (hf : ¬ G.dom n) :
    ∃ G', Trans G w (.only none' [] n m) G' w' (.only (upd none' n (some (.cells cs))) [] (n + 1) m) ∧ RepH G' (.only (upd none' n (some (.cells cs))) [] (n + 1) m) w' ∧ VRel G' w' (.ptr n 0) (.pointer (some ⟨w.heap.size, 0, none⟩)) := by
  let G' : Ghost := { G with dom := fun id => G.dom id ∨ id = n, ι := upd G.ι n w.heap.size, own := fun B => if B = w.heap.size then True else G.own B }
  have hi : G'.ι n = w.heap.size := by simp [G', upd]
  have hO : ∀ B, ¬ (H.only none' [] n m).O G B := fun B ⟨id, o, ho, _⟩ => by simp [H.only, none'] at ho
  have hT : ∀ B, ¬ (H.only none' [] n m).T G B := fun B ⟨t, ht, _⟩ => by simp [H.only] at ht
  have hobj : ∀ {id o}, (H.only (upd none' n (some (.cells cs))) [] (n + 1) m).objs id = some o → id = n ∧ o = .cells cs := by
    intro id o ho
    simp only [H.only, upd, none'] at ho
    split at ho
    · cases ho; exact ⟨‹_›, rfl⟩
    · cases ho
  have T : Trans G w (.only none' [] n m) G' w' (.only (upd none' n (some (.cells cs))) [] (n + 1) m) := by
    refine trans_push hp hO (fun B ht => absurd ht (hT B)) (fun _ => .inl) ?_ ?_ (fun _ x => x) (fun _ => .inl) (fun _ _ => rfl) (by simp [H.only]) (by simp [H.only]) ?_ (fun _ _ => rfl) ?_ ?_ ?_ ?_
    · rintro id (x | rfl)
      · exact .inl x
      · exact .inr ⟨by simp [H.only], by simp [H.only]⟩
    · intro id hd
      simp only [G', upd]
      split
      · rename_i e; subst e; exact absurd hd hf
      · rfl
    · intro B hB
      simp only [G']
      rw [if_neg (by omega)]
    · rintro B hB ⟨id, o, ho, e⟩
      obtain ⟨rfl, rfl⟩ := hobj ho
      rw [hi] at e; omega
    · rintro B hB ⟨t, ht, _⟩
      simp [H.only] at ht
    · intro j o ho
      obtain ⟨rfl, rfl⟩ := hobj ho
      exact .inr ⟨by simp [H.only], by simp [H.only]⟩
    · intro t ht; simp [H.only] at ht
  have R0 : RepH G (.only none' [] n m) w := ⟨fun id o ho => by simp [H.only, none'] at ho, fun id _ o _ ho => by simp [H.only, none'] at ho, fun t ht => by simp [H.only] at ht, fun t ht => by simp [H.only] at ht⟩
  refine ⟨G', T, ⟨?_, ?_, ?_, ?_⟩, ?_⟩
  · intro id o ho
    obtain ⟨rfl, rfl⟩ := hobj ho
    refine ⟨.inr rfl, by rw [hi]; simp [G'], by rw [hi, hp.size]; omega, ?_⟩
    rw [hi, hp.new]
    refine ⟨vs, rest, _, (0, 0), rfl, VRels.mono R0 T _ _ hr, fun j => by simp, h1⟩
  · intro id id' o o' ho ho' _
    rw [(hobj ho).1, (hobj ho').1]
  · intro t ht; simp [H.only] at ht
  · intro t ht; simp [H.only] at ht
  · simp only [VRel]
    exact ⟨.inr rfl, by rw [hi]⟩

theorem cell_new {w' : World} {cs : Array Value} {T : TypeId} {fr : Nat × Nat} (hp : Pushed w w' (.cells cs T fr)) (j : Nat) : w'.cell? ⟨w.heap.size, j, none⟩ = cs[j]? := by
  unfold World.cell?
  simp only [hp.new]
  simp

theorem only_O {toks : List Nat} {n m : Nat} (B : Nat) : ¬ (H.only none' toks n m).O G B := fun ⟨id, o, ho, _⟩ => by simp [H.only, none'] at ho

theorem new_obj {w' : World} {cs : List AV} {vs : List Value} {T : TypeId} {n m : Nat} (hp : Pushed w w' (.cells vs.toArray T (0, 0))) (hr : VRels G w cs vs) (h1 : ∀ v ∈ vs, One v) (hf : ¬ G.dom n) :
    ∃ G', Trans G w (.only none' [] n m) G' w' (.only (upd none' n (some (.cells cs))) [] (n + 1) m) ∧ RepH G' (.only (upd none' n (some (.cells cs))) [] (n + 1) m) w' ∧ VRel G' w' (.ptr n 0) (.pointer (some ⟨w.heap.size, 0, none⟩)) :=
  new_objR (rest := []) (by rw [List.append_nil]; exact hp) hr h1 hf

/-- a new row that is tracked -/
theorem new_tsl {w' : World} {cs : List AV} {vs rest : List Value} {T : TypeId} {n m sz len C : Nat} (hp : Pushed w w' (.cells (vs ++ rest).toArray T (0, 0))) (hr : VRels G w cs vs) (h1 : ∀ v ∈ vs, One v) (hf : ¬ G.dom n) (hC : len ≤ C ∧ C ≤ 9223372036854775807) (hroom : C * sz ≤ vs.length + rest.length) :
    ∃ G', Trans G w (.only none' [] n m) G' w' (.only (upd none' n (some (.cells cs))) [] (n + 1) m) ∧ RepH G' (.only (upd none' n (some (.cells cs))) [] (n + 1) m) w' ∧ VRel G' w' (.tsl sz n 0 len none) (.slice (some ⟨w.heap.size, 0, none⟩) len C) := by
  obtain ⟨G', T1, R1, V⟩ := new_objR (n := n) (m := m) hp hr h1 hf
  refine ⟨G', T1, R1, ?_⟩
  simp only [VRel] at V
  obtain ⟨hd, hv⟩ := V
  simp only [Value.pointer.injEq, Option.some.injEq, Addr.mk.injEq, and_true] at hv
  unfold VRel
  refine ⟨hd, .inl ⟨C, (vs ++ rest).toArray, T, (0, 0), by rw [hv], hC, (fun _ h => by cases h), ?_, by simpa using hroom⟩⟩
  rw [← hv]; exact hp.new

/-- a new row of memory that stands still: what a slice literal makes -/
theorem new_imm {w' : World} {xs : List AV} {vs : List Value} {T : TypeId} {sz n m : Nat} (hp : Pushed w w' (.cells vs.toArray T (0, 0))) (he : VElems G w sz xs vs) (hone : ∀ v ∈ vs, One v) :
    ∃ G', Trans G w (.only none' [] n m) G' w' (.only none' [] n m) ∧ RepH G' (.only none' [] n m) w' ∧ VRel G' w' (.sl sz xs (.exact xs.length)) (.slice (some ⟨w.heap.size, 0, none⟩) xs.length xs.length) := by
  let G' : Ghost := { G with own := fun B => if B = w.heap.size then False else G.own B, lim := upd G.lim w.heap.size none }
  have hT : ∀ {G : Ghost} B, ¬ (H.only none' [] n m).T G B := fun B ⟨t, ht, _⟩ => by simp [H.only] at ht
  have T : Trans G w (.only none' [] n m) G' w' (.only none' [] n m) := by
    refine trans_push hp (fun B => only_O B) (fun B ht => absurd ht (hT B)) (fun _ x => x) (fun _ => .inl) (fun _ _ => rfl) (fun _ x => x) (fun _ => .inl) (fun _ _ => rfl) (Nat.le_refl _) (Nat.le_refl _) ?_ ?_ ?_ ?_ ?_ ?_
    · intro B hB; simp only [G']; rw [if_neg (by omega)]
    · intro B hB; simp only [G', upd]; rw [if_neg (by omega)]
    · exact fun B _ x => only_O B x
    · exact fun B _ x => absurd x (hT B)
    · exact fun j o x => .inl ⟨o, x⟩
    · exact fun t x => .inl x
  have R0 : ∀ {G : Ghost} {w : World}, RepH G (.only none' [] n m) w := ⟨fun id o ho => by simp [H.only, none'] at ho, fun id _ o _ ho => by simp [H.only, none'] at ho, fun t ht => by simp [H.only] at ht, fun t ht => by simp [H.only] at ht⟩
  refine ⟨G', T, R0, ?_⟩
  simp only [VRel]
  refine .inr ⟨_, 0, _, vs, rfl, Nat.le_refl _, he.length, VElems.mono R0 T _ _ _ he, fun i v hv => ⟨?_, hone v (List.mem_of_getElem? hv), by simp [G'], fun e h => by simp [G', upd] at h⟩, by simp [CapOk]⟩
  rw [cell_new hp]; simpa using hv

/-- a new row with room behind it -/
theorem new_row {w' : World} {xs : List AV} {vs rest : List Value} {T : TypeId} {fr : Nat × Nat} {sz n m C : Nat} {toks : List Nat} (hp : Pushed w w' (.cells (vs ++ rest).toArray T fr)) (he : VElems G w sz xs vs)
    (R : RepH G (.only none' toks n m) w) (hC : xs.length ≤ C) (hroom : C * sz ≤ vs.length + rest.length) (hfr : ∀ j, j < vs.length + rest.length → ¬ (fr.1 ≤ j ∧ j < fr.2)) (hm : ¬ G.tdom m) (hone : ∀ v ∈ vs, One v) :
    ∃ G', Trans G w (.only none' toks n m) G' w' (.only none' [m] n (m + 1)) ∧ RepH G' (.only none' [m] n (m + 1)) w' ∧ VRel G' w' (.sl sz xs (.own m)) (.slice (some ⟨w.heap.size, 0, none⟩) xs.length C) := by
  have hl := he.length
  let G' : Ghost := { G with tdom := fun t => G.tdom t ∨ t = m, τ := upd G.τ m (some (w.heap.size, xs.length * sz)), own := fun B => if B = w.heap.size then False else G.own B, lim := upd G.lim w.heap.size (some (xs.length * sz)) }
  have hτ : G'.τ m = some (w.heap.size, xs.length * sz) := by simp [G', upd]
  have T : Trans G w (.only none' toks n m) G' w' (.only none' [m] n (m + 1)) := by
    refine trans_push hp (fun B => only_O B) ?_ (fun _ x => x) (fun _ => .inl) (fun _ _ => rfl) (fun _ x => .inl x) ?_ ?_ (Nat.le_refl _) (by simp [H.only]) ?_ ?_ ?_ ?_ ?_ ?_
    · rintro B ⟨t, ht, e, hte⟩
      have := ((R.tok t ht).2 B e hte).2.2
      simp only [G', upd]; rw [if_neg (by omega)]
    · rintro t (x | rfl)
      · exact .inl x
      · exact .inr ⟨by simp [H.only], by simp [H.only]⟩
    · intro t x
      simp only [G', upd]
      split
      · rename_i e; subst e; exact absurd x hm
      · rfl
    · intro B hB; simp only [G']; rw [if_neg (by omega)]
    · intro B hB; simp only [G', upd]; rw [if_neg (by omega)]
    · exact fun B _ x => only_O B x
    · rintro B hB ⟨t, ht, e, hte⟩
      simp only [H.only, List.mem_singleton] at ht
      subst ht
      rw [hτ] at hte; simp at hte; omega
    · exact fun j o x => by simp [H.only, none'] at x
    · intro t ht
      simp only [H.only, List.mem_singleton] at ht
      subst ht
      exact .inr ⟨by simp [H.only], by simp [H.only]⟩
  refine ⟨G', T, ⟨fun id o ho => by simp [H.only, none'] at ho, fun id _ o _ ho => by simp [H.only, none'] at ho, ?_, ?_⟩, ?_⟩
  · intro t ht
    simp only [H.only, List.mem_singleton] at ht
    subst ht
    refine ⟨.inr rfl, fun B e hte => ?_⟩
    rw [hτ] at hte
    cases hte
    exact ⟨by simp [G', upd], by simp [G'], by rw [hp.size]; omega⟩
  · intro t ht t' ht' _ _ _ _ _
    simp only [H.only, List.mem_singleton] at ht ht'
    rw [ht, ht']
  · simp only [VRel]
    refine .inr ⟨_, 0, C, vs, rfl, hC, hl, VElems.mono R T _ _ _ he, fun i v hv => ⟨?_, hone v (List.mem_of_getElem? hv), by simp [G'], fun e h => ?_⟩, ?_⟩
    · rw [cell_new hp]
      have : i < vs.length := by
        rcases Nat.lt_or_ge i vs.length with h | h
        · exact h
        · rw [List.getElem?_eq_none h] at hv; cases hv
      simp [List.getElem?_append_left this, hv]
    · simp only [G', upd, if_true] at h
      cases h
      have : i < vs.length := by
        rcases Nat.lt_or_ge i vs.length with h | h
        · exact h
        · rw [List.getElem?_eq_none h] at hv; cases hv
      omega
    · simp only [CapOk]
      refine .inr ⟨.inr rfl, by rw [hτ]; simp, _, _, fr, hp.new, by simp; omega, ?_⟩
      simpa using hfr

/-- cells of a tracked object -/
theorem obj_cells {h : H} (R : RepH G h w) {id : Nat} {cs : List AV} (ho : h.objs id = some (.cells cs)) :
    ∃ vs rest T fr, w.heap[G.ι id]? = some (.cells (vs ++ rest).toArray T fr) ∧ VRels G w cs vs ∧ (∀ j, ¬ (fr.1 ≤ j ∧ j < fr.2)) ∧ (∀ v ∈ vs, One v) := (R.obj id _ ho).2.2.2

theorem setCells_heap (b : Nat) (T : TypeId) (fr : Nat × Nat) : ∀ (vs : List Value) (o : Nat) (cur : List Value) (w : World), w.heap[b]? = some (.cells cur.toArray T fr) → o + vs.length ≤ cur.length →
    (w.setCells b o vs).heap[b]? = some (.cells (cur.take o ++ vs ++ cur.drop (o + vs.length)).toArray T fr) ∧ (∀ k, k ≠ b → (w.setCells b o vs).heap[k]? = w.heap[k]?) ∧ (w.setCells b o vs).heap.size = w.heap.size ∧ (w.setCells b o vs).os = w.os ∧ (w.setCells b o vs).output = w.output
  | [], o, cur, w, hg, hl => by simp [World.setCells, hg]
  | v :: r, o, cur, w, hg, hl => by
    simp only [List.length_cons] at hl
    have hb : b < w.heap.size := by
      rcases Nat.lt_or_ge b w.heap.size with h | h
      · exact h
      · have : w.heap[b]? = none := by simp; omega
        rw [this] at hg; cases hg
    have h1 : (w.setCell ⟨b, o, none⟩ v).heap[b]? = some (.cells (cur.set o v).toArray T fr) := by
      simp [World.setCell, Array.getElem?_modify, hg]
    have h2 : ∀ k, k ≠ b → (w.setCell ⟨b, o, none⟩ v).heap[k]? = w.heap[k]? := by
      intro k hk
      simp [World.setCell, Array.getElem?_modify, Ne.symm hk]
    obtain ⟨a1, a2, a3, a4, a5⟩ := setCells_heap b T fr r (o + 1) (cur.set o v) (w.setCell ⟨b, o, none⟩ v) h1 (by simp; omega)
    refine ⟨?_, fun k hk => (a2 k hk).trans (h2 k hk), a3.trans (by simp [World.setCell]), a4, a5⟩
    rw [World.setCells, a1]
    congr 3
    have ho : o < cur.length := by omega
    have e1 : (cur.set o v).take (o + 1) = cur.take o ++ [v] := by
      rw [List.take_succ_eq_append_getElem (by simpa using ho), List.take_set_of_le (Nat.le_refl _)]
      simp
    have : o + 1 + r.length = o + (v :: r).length := by simp; omega
    rw [e1, List.drop_set_of_lt (by omega), this]
    simp

/-- a store into a tracked object -/
theorem store_obj {id n m off : Nat} {cs xs : List AV} {us : List Value} (R : RepH G (.only (upd none' id (some (.cells cs))) [] n m) w) (hr : VRels G w xs us) (h1 : ∀ v ∈ us, One v) (hl : off + xs.length ≤ cs.length) :
    ∃ w', (storeCells ⟨G.ι id, off, none⟩ us 0).run P w = .ok () w' ∧ Trans G w (.only (upd none' id (some (.cells cs))) [] n m) G w' (.only (upd none' id (some (.cells (setAt cs off xs)))) [] n m) ∧ RepH G (.only (upd none' id (some (.cells (setAt cs off xs)))) [] n m) w' := by
  have hobj : ∀ {c : List AV} {j o}, (H.only (upd none' id (some (.cells c))) [] n m).objs j = some o → j = id ∧ o = .cells c := by
    intro c j o ho
    simp only [H.only, upd, none'] at ho
    split at ho
    · cases ho; exact ⟨‹_›, rfl⟩
    · cases ho
  have hme : ∀ {c : List AV}, (H.only (upd none' id (some (.cells c))) [] n m).objs id = some (.cells c) := by intro c; simp [H.only, upd]
  obtain ⟨d1, d2, d3, -⟩ := R.obj id _ hme
  obtain ⟨vs, rest, T, fr, hg, hvs, hfr, hone⟩ := obj_cells R hme
  have hlen := hvs.length
  have hul := hr.length
  have hc : ∀ j, j < vs.length → w.cell? ⟨G.ι id, j, none⟩ = vs[j]? := by
    intro j hj; unfold World.cell?; simp only [hg]; simp [List.getElem?_append_left hj]
  have hcell : ∀ j, j < us.length → (w.cell? ⟨G.ι id, off + 0 + j, none⟩).isSome = true := fun j hj => by rw [hc _ (by omega)]; simp; omega
  have hfrz : ∀ j, j < us.length → w.frozen? ⟨G.ι id, off + 0 + j, none⟩ = false := fun j hj => by
    unfold World.frozen?; simp only [hg]
    have := hfr (off + 0 + j)
    simpa using this
  have honec : ∀ v ∈ us, v.oneCell' = true := fun v hv => by
    obtain ⟨k1, k2⟩ := h1 v hv
    cases v with
    | agg a => exact absurd rfl (k1 a)
    | tuple a => exact absurd rfl (k2 a)
    | _ => rfl
  have hrun := run_storeCells_cells (P := P) (G.ι id) off us 0 w hcell hfrz honec
  rw [Nat.add_zero] at hrun
  obtain ⟨a1, a2, a3, a4, a5⟩ := setCells_heap (G.ι id) T fr us off (vs ++ rest) w hg (by simp; omega)
  have ecur : (vs ++ rest).take off ++ us ++ (vs ++ rest).drop (off + us.length) = (vs.take off ++ us ++ vs.drop (off + us.length)) ++ rest := by
    rw [List.take_append_of_le_length (by omega), List.drop_append_of_le_length (by omega)]; simp
  rw [ecur] at a1
  clear hcell hfrz honec
  generalize w.setCells (G.ι id) off us = w1 at *
  refine ⟨w1, hrun, ?_⟩
  have T1 : Trans G w (.only (upd none' id (some (.cells cs))) [] n m) G w1 (.only (upd none' id (some (.cells (setAt cs off xs)))) [] n m) := by
    constructor
    · exact fun _ x => x
    · exact fun _ => .inl
    · exact fun _ _ => rfl
    · exact fun _ x => x
    · exact fun _ => .inl
    · exact fun _ _ => rfl
    · exact Nat.le_refl _
    · exact Nat.le_refl _
    · rw [a3]; exact Nat.le_refl _
    · exact a4
    · exact a5
    · intro B hB
      by_cases hBi : B = G.ι id
      · subst hBi
        rw [a1, hg]
        exact ⟨_, rfl, by simp; omega⟩
      · rw [a2 B hBi]; exact SameForm.refl _
    · intro B hB hO _
      exact a2 B fun e => hO ⟨id, _, hme, e.symm⟩
    · exact fun _ _ _ => Iff.rfl
    · exact fun _ _ _ _ => rfl
    · rintro B hB ⟨t, ht, _⟩; simp [H.only] at ht
    · rintro B hB ⟨j, o, ho, e⟩
      obtain ⟨rfl, rfl⟩ := hobj ho
      exact ⟨_, _, hme, e⟩
    · rintro B hB ⟨t, ht, _⟩; simp [H.only] at ht
    · intro j o ho
      obtain ⟨rfl, rfl⟩ := hobj ho
      exact .inl ⟨_, hme⟩
    · intro t ht; simp [H.only] at ht
  refine ⟨T1, ?_, ?_, ?_, ?_⟩
  · intro j o ho
    obtain ⟨rfl, rfl⟩ := hobj ho
    refine ⟨d1, d2, by rw [a3]; exact d3, ?_⟩
    rw [a1]
    refine ⟨_, rest, T, fr, rfl, ?_, ?_, ?_⟩
    · unfold setAt
      rw [← hul]
      exact ((VRels.mono R T1 _ _ hvs).take off |>.append (VRels.mono R T1 _ _ hr)).append ((VRels.mono R T1 _ _ hvs).drop _)
    · exact hfr
    · intro v hv
      simp only [List.mem_append] at hv
      rcases hv with (hv | hv) | hv
      · exact hone v (List.mem_of_mem_take hv)
      · exact h1 v hv
      · exact hone v (List.mem_of_mem_drop hv)
  · intro j j' o o' ho ho' _
    rw [(hobj ho).1, (hobj ho').1]
  · intro t ht; simp [H.only] at ht
  · intro t ht; simp [H.only] at ht

/-- what is appended: so many elements, these cells -/
def Src (P : Program) (w : World) (sz : Nat) (x : Value) (n : Nat) (news : List Value) : Prop :=
  ((Builtin.lenOf x).run P w = .ok n w) ∧ ∀ w' : World, w'.heap = w.heap → (Builtin.firstCells sz n x).run P w' = .ok news.toArray w'

theorem cell_of_heap {w w' : World} (h : w'.heap = w.heap) (a : Addr) : w'.cell? a = w.cell? a := by unfold World.cell?; rw [h]

theorem src_none {sz : Nat} (a0 : Option Addr) : Src P w sz (.slice a0 0 0) 0 [] := by
  refine ⟨by simp [Builtin.lenOf], fun w' hw => ?_⟩
  cases a0 with
  | none => simp [Builtin.firstCells]
  | some a =>
    have := run_loadCells_list (P := P) w' a [] (fun j u hu => by simp at hu)
    simpa [Builtin.firstCells] using this

theorem src_slice {sz : Nat} {xs : List AV} {v : Value} {s : Nat} {c : Cap} (hs : s = sz ∨ xs = []) (hv : VRel G w (.sl s xs c) v) :
    ∃ news, Src P w sz v xs.length news ∧ VElems G w sz xs news ∧ (∀ u ∈ news, One u) := by
  simp only [VRel] at hv
  rcases hv with ⟨rfl, ⟨a0, rfl⟩, -⟩ | ⟨B, off, C, vs, rfl, hC, hl, he, him, -⟩
  · exact ⟨[], src_none a0, by simp [VElems], by simp⟩
  · rcases hs with rfl | rfl
    · refine ⟨vs, ⟨by simp [Builtin.lenOf], fun w' hw => ?_⟩, he, fun u hu => ?_⟩
      · have := run_loadCells_list (P := P) w' ⟨B, off, none⟩ vs (fun j u hu => by rw [add_plain, cell_of_heap hw]; exact (him j u hu).1)
        simp only [Builtin.firstCells]
        rw [← hl]; exact this
      · obtain ⟨j, hj⟩ := List.getElem?_of_mem hu
        exact (him j u hj).2.1
    · refine ⟨[], ⟨by simp [Builtin.lenOf], fun w' hw => ?_⟩, by simp [VElems], by simp⟩
      have := run_loadCells_list (P := P) w' ⟨B, off, none⟩ [] (fun j u hu => by simp at hu)
      simpa [Builtin.firstCells] using this

theorem bytes_elems (l : List UInt8) : VElems G w 1 (bytesAV l) (l.map fun b => .int .u8 b.toNat) := by
  induction l with
  | nil => simp [bytesAV, VElems]
  | cons b l ih =>
    simp only [bytesAV, List.map_cons, VElems]
    exact ⟨.int .u8 b.toNat, _, rfl, rfl, by simp [byte, VRel], ih⟩

theorem src_str (l : List UInt8) (sz : Nat) : Src P w sz (.string ⟨l.toArray⟩) (bytesAV l).length (l.map fun b => .int .u8 b.toNat) := by
  have hs : (ByteArray.mk l.toArray).size = l.length := by simp [ByteArray.size]
  refine ⟨by simp [Builtin.lenOf, hs, bytesAV], fun w' _ => ?_⟩
  have : (ByteArray.mk l.toArray).extract 0 (bytesAV l).length = ⟨l.toArray⟩ := by
    apply ByteArray.ext; simp [ByteArray.data_extract, bytesAV]
  simp [Builtin.firstCells, this]

theorem run_append_fits {t u ty e : TypeId} {d : TypeDesc} {i : TypeInfo} {x : Value} {n : Nat} {news : List Value} {base : Option Addr} {sLen sCap : Nat} {w' : World}
    (ht : P.underlying t = some (.slice e)) (hu : P.underlying u = some d) (hd : (∃ e', d = .slice e') ∨ d = .string) (hi : P.info? e = some i) (hx : Src P w i.size x n news)
    (hfit : sLen + n ≤ sCap) (hst : (match base with | some a => (storeCells (a.add (sLen * i.size)) news).run P w | none => .ok () w) = .ok () w') :
    (Builtin.append_ #[t, u] ty #[.slice base sLen sCap, x]).run P w = .ok (.slice base (sLen + n) sCap) w' := by
  obtain ⟨h1, h2⟩ := hx
  have h2' := h2 w rfl
  rcases hd with ⟨e', rfl⟩ | rfl <;>
  · simp [Builtin.append_, run_underlying ht, run_underlying hu, sizeOf, typeInfo, hi, h1, hfit, h2']
    cases base with
    | none => simp at hst ⊢; exact hst
    | some a => simp only [] at hst; simp [hst]

theorem run_append_grows {t u ty e : TypeId} {d : TypeDesc} {i : TypeInfo} {z : Value} {x : Value} {n : Nat} {news vs : List Value} {base : Option Addr} {sLen sCap : Nat}
    (ht : P.underlying t = some (.slice e)) (hu : P.underlying u = some d) (hd : (∃ e', d = .slice e') ∨ d = .string) (hi : P.info? e = some i) (hz : i.zero = some z) (hzs : z.cells.size = i.size) (hsz : 0 < i.size) (hx : Src P w i.size x n news)
    (hvs : Src P w i.size (.slice base sLen sCap) sLen vs) (hfit : ¬ sLen + n ≤ sCap) (hle : sLen ≤ sCap) (hb : (sLen + n) * i.bytes ≤ 140737488355328) (hn : sLen + n < 4611686018427387904) :
    ∃ w' C rest, (Builtin.append_ #[t, u] ty #[.slice base sLen sCap, x]).run P w = .ok (.slice (some ⟨w.heap.size, 0, none⟩) (sLen + n) C) w' ∧ Pushed w w' (.cells (vs ++ news ++ rest).toArray e (0, 0)) ∧ (sLen + n ≤ C ∧ C ≤ 9223372036854775807) ∧ C * i.size = (sLen + n) * i.size + rest.length := by
  obtain ⟨h1, h2⟩ := hx
  obtain ⟨-, k2⟩ := hvs
  have hlt : sCap < sLen + n := by omega
  have hg := growslice_fits hlt hb
  have hg' : ¬ (281474976710656 < Builtin.nextslicecap (sLen + n) sCap * i.bytes) := by omega
  have h63 : ¬ ((sLen : Int) + (n : Int) > 9223372036854775807) := by omega
  let w1 : World := w.drew
  let C := (Question.appendCap (sLen + n) sCap e).cut (w.tape w.drawn (.appendCap (sLen + n) sCap e))
  have hC : sLen + n ≤ C := by simp [C, Question.cut]
  have hC63 : C ≤ 9223372036854775807 := by
    have := Nat.mod_lt (w.tape w.drawn (.appendCap (sLen + n) sCap e)) (show 0 < 2 ^ 63 - (sLen + n) by omega)
    simp only [C, Question.cut]
    omega
  have e1 := h2 w1 rfl
  have e2 := k2 w1 rfl
  refine ⟨{ w1 with heap := w1.heap.push (.cells (vs ++ news ++ (Builtin.zeroCells z.cells (C - (sLen + n))).toList).toArray e) }, C, (Builtin.zeroCells z.cells (C - (sLen + n))).toList, ?_, ⟨rfl, rfl, rfl⟩, ⟨hC, hC63⟩, ?_⟩
  · rcases hd with ⟨e', rfl⟩ | rfl <;>
    · simp [Builtin.append_, run_underlying ht, run_underlying hu, sizeOf, typeInfo, hi, h1, hfit, IntKind.max, IntKind.signed, IntKind.bits, h63, hg', Question.forced, zeroValue, hz, newRow]
      rw [e2, Result.andThen_ok, e1, Result.andThen_ok]
      simp [C, w1]
      congr 2
      apply Array.ext'
      simp
  · simp [Builtin.zeroCells, hzs]
    rw [← Nat.add_mul]; congr 1; omega

theorem only_rep {n m : Nat} : RepH G (.only none' [] n m) w := ⟨fun id o ho => by simp [H.only, none'] at ho, fun id _ o _ ho => by simp [H.only, none'] at ho, fun t ht => by simp [H.only] at ht, fun t ht => by simp [H.only] at ht⟩

/-- a token under another name; in place of one, or anew where there is no room -/
theorem retoken {n m : Nat} {toks : List Nat} {q : Option (Nat × Nat)} (R : RepH G (.only none' toks n m) w) (hm : ¬ G.tdom m) (hq : q = none ∨ ∃ tk, toks = [tk] ∧ G.τ tk = q) :
    ∃ G', Trans G w (.only none' toks n m) G' w (.only none' [m] n (m + 1)) ∧ RepH G' (.only none' [m] n (m + 1)) w ∧ G'.tdom m ∧ G'.τ m = q ∧ G'.own = G.own ∧ G'.lim = G.lim := by
  let G' : Ghost := { G with tdom := fun t => G.tdom t ∨ t = m, τ := upd G.τ m q }
  have hτ : G'.τ m = q := by simp [G', upd]
  have hT : ∀ B, (H.only none' [m] n (m + 1)).T G' B → (H.only none' toks n m).T G B := by
    rintro B ⟨t, ht, e, hte⟩
    simp only [H.only, List.mem_singleton] at ht
    subst ht
    rw [hτ] at hte
    rcases hq with rfl | ⟨tk, rfl, hk⟩
    · cases hte
    · exact ⟨tk, by simp [H.only], e, hk.trans hte⟩
  refine ⟨G', ?_, ⟨fun id o ho => by simp [H.only, none'] at ho, fun id _ o _ ho => by simp [H.only, none'] at ho, ?_, ?_⟩, .inr rfl, hτ, rfl, rfl⟩
  · constructor
    · exact fun _ x => x
    · exact fun _ => .inl
    · exact fun _ _ => rfl
    · exact fun _ => .inl
    · rintro t (x | rfl)
      · exact .inl x
      · exact .inr ⟨by simp [H.only], by simp [H.only]⟩
    · intro t x
      simp only [G', upd]
      split
      · rename_i e; subst e; exact absurd x hm
      · rfl
    · exact Nat.le_refl _
    · simp [H.only]
    · exact Nat.le_refl _
    · rfl
    · rfl
    · exact fun B _ => SameForm.refl _
    · exact fun _ _ _ _ => rfl
    · exact fun _ _ _ => Iff.rfl
    · exact fun _ _ _ _ => rfl
    · exact fun B _ _ _ e he => ⟨fun _ _ => rfl, fun e' he' => by
        have : some e = some e' := he.symm.trans he'
        cases this; exact Nat.le_refl _⟩
    · exact fun B _ x => absurd x (only_O B)
    · exact fun B _ x => hT B x
    · exact fun j o x => by simp [H.only, none'] at x
    · intro t ht
      simp only [H.only, List.mem_singleton] at ht
      subst ht
      exact .inr ⟨by simp [H.only], by simp [H.only]⟩
  · intro t ht
    simp only [H.only, List.mem_singleton] at ht
    subst ht
    refine ⟨.inr rfl, fun B e hte => ?_⟩
    rw [hτ] at hte
    rcases hq with rfl | ⟨tk, rfl, hk⟩
    · cases hte
    · exact (R.tok tk (by simp [H.only])).2 B e (hk.trans hte)
  · intro t ht t' ht' _ _ _ _ _
    simp only [H.only, List.mem_singleton] at ht ht'
    rw [ht, ht']

/-- an append in place: behind the slice's end, where the token lets it -/
theorem append_inplace {s n m B off C : Nat} {tk : Nat} {xs ys : List AV} {vs news : List Value} (R : RepH G (.only none' [tk] n m) w) (hm : ¬ G.tdom m)
    (hl : vs.length = xs.length * s) (he : VElems G w s xs vs) (him : Imm G w B off vs) (hk : G.τ tk = some (B, off + xs.length * s)) (hroom : Room w B (off + C * s)) (hfit : xs.length + ys.length ≤ C)
    (hn : VElems G w s ys news) (hone : ∀ u ∈ news, One u) :
    ∃ w' G', (storeCells ((⟨B, off, none⟩ : Addr).add (xs.length * s)) news).run P w = .ok () w' ∧ Trans G w (.only none' [tk] n m) G' w' (.only none' [m] n (m + 1)) ∧ RepH G' (.only none' [m] n (m + 1)) w' ∧
      VRel G' w' (.sl s (xs ++ ys) (.own m)) (.slice (some ⟨B, off, none⟩) (xs.length + ys.length) C) := by
  obtain ⟨cs, T, fr, hg, hu, hfr⟩ := hroom
  obtain ⟨htd, htk⟩ := R.tok tk (by simp [H.only])
  obtain ⟨hlim, hown, hB⟩ := htk B _ hk
  have hnl := hn.length
  have hCs : (xs.length + ys.length) * s ≤ C * s := Nat.mul_le_mul_right s hfit
  rw [Nat.add_mul] at hCs
  generalize hE : off + xs.length * s = E at *
  have hEle : E + news.length ≤ cs.size := by omega
  have hadd : (⟨B, off, none⟩ : Addr).add (xs.length * s) = ⟨B, E, none⟩ := by rw [add_plain, hE]
  have hc : ∀ j, w.cell? ⟨B, j, none⟩ = cs[j]? := by intro j; unfold World.cell?; simp only [hg]; simp
  have hcell : ∀ j, j < news.length → (w.cell? ⟨B, E + 0 + j, none⟩).isSome = true := fun j hj => by rw [hc]; simp; omega
  have hfrz : ∀ j, j < news.length → w.frozen? ⟨B, E + 0 + j, none⟩ = false := fun j hj => by
    unfold World.frozen?; simp only [hg]
    have := hfr (E + 0 + j) (by omega)
    simpa using this
  have honec : ∀ v ∈ news, v.oneCell' = true := fun v hv => by
    obtain ⟨k1, k2⟩ := hone v hv
    cases v with
    | agg a => exact absurd rfl (k1 a)
    | tuple a => exact absurd rfl (k2 a)
    | _ => rfl
  have hrun := run_storeCells_cells (P := P) B E news 0 w hcell hfrz honec
  rw [Nat.add_zero] at hrun
  have hg' : w.heap[B]? = some (.cells cs.toList.toArray T fr) := by rw [hg]
  obtain ⟨a1, a2, a3, a4, a5⟩ := setCells_heap B T fr news E cs.toList w hg' (by simpa using hEle)
  clear hcell hfrz honec
  generalize w.setCells B E news = w1 at *
  have hc1 : ∀ j, w1.cell? ⟨B, j, none⟩ = (cs.toList.take E ++ news ++ cs.toList.drop (E + news.length))[j]? := by
    intro j; unfold World.cell?; simp only [a1]; simp
  have hbelow : ∀ j, j < E → w1.cell? ⟨B, j, none⟩ = w.cell? ⟨B, j, none⟩ := by
    intro j hj
    rw [hc1, hc, List.append_assoc, List.getElem?_append_left (by simp; omega), List.getElem?_take]
    simp [hj]
  let G' : Ghost := { G with tdom := fun t => G.tdom t ∨ t = m, τ := upd G.τ m (some (B, E + news.length)), lim := upd G.lim B (some (E + news.length)) }
  have hτ : G'.τ m = some (B, E + news.length) := by simp [G', upd]
  have hTB : ∀ B', (H.only none' [tk] n m).T G B' → B' = B := by
    rintro B' ⟨t, ht, e, hte⟩
    simp only [H.only, List.mem_singleton] at ht
    subst ht
    rw [hk] at hte; cases hte; rfl
  have T1 : Trans G w (.only none' [tk] n m) G' w1 (.only none' [m] n (m + 1)) := by
    constructor
    · exact fun _ x => x
    · exact fun _ => .inl
    · exact fun _ _ => rfl
    · exact fun _ => .inl
    · rintro t (x | rfl)
      · exact .inl x
      · exact .inr ⟨by simp [H.only], by simp [H.only]⟩
    · intro t x
      simp only [G', upd]
      split
      · rename_i e; subst e; exact absurd x hm
      · rfl
    · exact Nat.le_refl _
    · simp [H.only]
    · rw [a3]; exact Nat.le_refl _
    · exact a4
    · exact a5
    · intro B' hB'
      by_cases e : B' = B
      · subst e
        rw [a1, hg]
        exact ⟨_, rfl, by simp; omega⟩
      · rw [a2 B' e]; exact SameForm.refl _
    · intro B' hB' _ hT
      exact a2 B' fun e => hT ⟨tk, by simp [H.only], _, e ▸ hk⟩
    · exact fun _ _ _ => Iff.rfl
    · intro B' hB' _ hT
      simp only [G', upd]
      rw [if_neg fun e => hT ⟨tk, by simp [H.only], _, e ▸ hk⟩]
    · intro B' hB' hT _ e he
      obtain rfl := hTB B' hT
      rw [hlim] at he
      cases he
      refine ⟨hbelow, fun e' he' => ?_⟩
      simp only [G', upd, if_true] at he'
      cases he'; omega
    · exact fun B' _ x => absurd x (only_O B')
    · rintro B' hB' ⟨t, ht, e, hte⟩
      simp only [H.only, List.mem_singleton] at ht
      subst ht
      rw [hτ] at hte
      cases hte
      exact ⟨tk, by simp [H.only], _, hk⟩
    · exact fun j o x => by simp [H.only, none'] at x
    · intro t ht
      simp only [H.only, List.mem_singleton] at ht
      subst ht
      exact .inr ⟨by simp [H.only], by simp [H.only]⟩
  refine ⟨w1, G', by rw [hadd]; exact hrun, T1, ⟨fun id o ho => by simp [H.only, none'] at ho, fun id _ o _ ho => by simp [H.only, none'] at ho, ?_, ?_⟩, ?_⟩
  · intro t ht
    simp only [H.only, List.mem_singleton] at ht
    subst ht
    refine ⟨.inr rfl, fun B' e hte => ?_⟩
    rw [hτ] at hte
    cases hte
    exact ⟨by simp [G', upd], hown, by rw [a3]; exact hB⟩
  · intro t ht t' ht' _ _ _ _ _
    simp only [H.only, List.mem_singleton] at ht ht'
    rw [ht, ht']
  · simp only [VRel]
    refine .inr ⟨B, off, C, vs ++ news, by simp, by simpa using hfit, by simp [hl, hnl, Nat.add_mul], (VElems.mono R T1 _ _ _ he).append (VElems.mono R T1 _ _ _ hn), ?_, ?_⟩
    · intro i v hv
      rcases Nat.lt_or_ge i vs.length with hi | hi
      · rw [List.getElem?_append_left hi] at hv
        obtain ⟨b1, b2, b3, b4⟩ := him i v hv
        refine ⟨(hbelow _ (by omega)).trans b1, b2, b3, fun e he' => ?_⟩
        simp only [G', upd, if_true] at he'
        cases he'; omega
      · rw [List.getElem?_append_right hi] at hv
        have hi2 : i - vs.length < news.length := by
          rcases Nat.lt_or_ge (i - vs.length) news.length with h | h
          · exact h
          · rw [List.getElem?_eq_none h] at hv; cases hv
        refine ⟨?_, hone v (List.mem_of_getElem? hv), hown, fun e he' => ?_⟩
        · rw [hc1, List.getElem?_append_left (by simp; omega), List.getElem?_append_right (by simp; omega)]
          rw [← hv]; congr 1; simp; omega
        · simp only [G', upd, if_true] at he'
          cases he'; omega
    · simp only [CapOk]
      refine .inr ⟨.inr rfl, ?_, _, T, fr, a1, ?_, ?_⟩
      · rw [hτ, List.length_append, Nat.add_mul, hnl, ← hE, Nat.add_assoc]
      · simp; omega
      · intro j hj; exact hfr j (by simp at hj; omega)

/-- THE BUILT-IN append, at a slice that alone may write behind itself: in place or anew -/
theorem append_core {t u ty e : TypeId} {i : TypeInfo} {x v : Value} {ys xs : List AV} {news : List Value} {c : Cap} {toks : List Nat} {n m : Nat}
    (hfits : ∀ (base : Option Addr) (sLen sCap : Nat) (w' : World), sLen + ys.length ≤ sCap → (match base with | some a => (storeCells (a.add (sLen * i.size)) news).run P w | none => .ok () w) = .ok () w' → (Builtin.append_ #[t, u] ty #[.slice base sLen sCap, x]).run P w = .ok (.slice base (sLen + ys.length) sCap) w')
    (hgrows : ∀ (base : Option Addr) (sLen sCap : Nat) (vs : List Value), Src P w i.size (.slice base sLen sCap) sLen vs → ¬ sLen + ys.length ≤ sCap → sLen ≤ sCap → (sLen + ys.length) * i.bytes ≤ 140737488355328 → sLen + ys.length < 4611686018427387904 →
      ∃ w' C rest, (Builtin.append_ #[t, u] ty #[.slice base sLen sCap, x]).run P w = .ok (.slice (some ⟨w.heap.size, 0, none⟩) (sLen + ys.length) C) w' ∧ Pushed w w' (.cells (vs ++ news ++ rest).toArray e (0, 0)) ∧ sLen + ys.length ≤ C ∧ C * i.size = (sLen + ys.length) * i.size + rest.length)
    (hn : VElems G w i.size ys news) (hone : ∀ u ∈ news, One u) (hv : VRel G w (.sl i.size xs c) v) (hb : (xs.length + ys.length) * i.bytes ≤ 140737488355328) (hlen : xs.length + ys.length < 4611686018427387904)
    (R : RepH G (.only none' toks n m) w) (hm : ¬ G.tdom m) (hc : (c = .exact xs.length ∧ toks = []) ∨ ∃ tk, c = .own tk ∧ toks = [tk]) :
    ∃ v' w' G', (Builtin.append_ #[t, u] ty #[v, x]).run P w = .ok v' w' ∧ Trans G w (.only none' toks n m) G' w' (.only none' [m] n (m + 1)) ∧ RepH G' (.only none' [m] n (m + 1)) w' ∧ VRel G' w' (.sl i.size (xs ++ ys) (.own m)) v' := by
  have hv0 := hv
  simp only [VRel] at hv
  rcases hv with ⟨rfl, ⟨a0, rfl⟩, -⟩ | ⟨B, off, C, vs, rfl, hC, hl, he, him, hcap⟩
  · by_cases hy : ys = []
    · subst hy
      have hnn : news = [] := by simpa [VElems] using hn
      subst hnn
      obtain ⟨G', T1, R1, k1, k2, k3, k4⟩ := retoken (q := none) R hm (.inl rfl)
      refine ⟨.slice a0 0 0, w, G', ?_, T1, R1, ?_⟩
      · exact hfits a0 0 0 w (Nat.le_refl _) (by cases a0 <;> rfl)
      · simp only [VRel]; exact .inl ⟨rfl, ⟨a0, rfl⟩, by simp [CapNil]⟩
    · have hpos : 0 < ys.length := List.length_pos_iff.2 hy
      obtain ⟨w', C, rest, h1, h2, h3, h4⟩ := hgrows a0 0 0 []
        (src_none a0) (by omega) (Nat.le_refl _) (by simpa using hb) (by simpa using hlen)
      have hnl := hn.length
      simp only [List.nil_append] at h2 ⊢
      obtain ⟨G', T1, R1, V⟩ := new_row (n := n) (m := m) (C := C) h2 hn R (by omega) (by rw [Nat.zero_add] at h4; omega) (fun j _ => by simp) hm hone
      refine ⟨_, w', G', h1, T1, R1, ?_⟩
      simpa using V
  · by_cases hfit : xs.length + ys.length ≤ C
    · -- in place, or nothing to do
      by_cases hy : ys = []
      · subst hy
        have hnn : news = [] := by simpa [VElems] using hn
        subst hnn
        have hq : ∃ q, (q = none ∨ ∃ tk, toks = [tk] ∧ G.τ tk = q) ∧ (C = xs.length ∨ (q = some (B, off + xs.length * i.size) ∧ Room w B (off + C * i.size))) := by
          rcases hc with ⟨rfl, rfl⟩ | ⟨tk, rfl, rfl⟩
          · exact ⟨none, .inl rfl, .inl (by simpa [CapOk] using hcap)⟩
          · simp only [CapOk] at hcap
            rcases hcap with hcap | ⟨k1, k2, k3⟩
            · exact ⟨none, .inl rfl, .inl hcap⟩
            · exact ⟨_, .inr ⟨tk, rfl, rfl⟩, .inr ⟨k2, k3⟩⟩
        obtain ⟨q, hq1, hq2⟩ := hq
        obtain ⟨G', T1, R1, k1, k2, k3, k4⟩ := retoken (q := q) R hm hq1
        refine ⟨_, w, G', hfits _ _ _ w hfit (by simp [storeCells]), T1, R1, ?_⟩
        simp only [VRel]
        refine .inr ⟨B, off, C, vs, by simp, by simpa using hC, by simpa using hl, by simpa using VElems.mono R T1 _ _ _ he, him.mono R T1, ?_⟩
        simp only [CapOk, List.append_nil]
        rcases hq2 with hq2 | ⟨hq2, hr⟩
        · exact .inl hq2
        · exact .inr ⟨k1, k2.trans hq2, hr⟩
      · have hpos : 0 < ys.length := List.length_pos_iff.2 hy
        rcases hc with ⟨rfl, rfl⟩ | ⟨tk, rfl, rfl⟩
        · simp only [CapOk] at hcap; omega
        · simp only [CapOk] at hcap
          rcases hcap with hcap | ⟨k1, k2, k3⟩
          · omega
          · obtain ⟨w', G', r1, T1, R1, V⟩ := append_inplace (P := P) R hm hl he him k2 k3 hfit hn hone
            exact ⟨_, w', G', hfits _ _ _ w' hfit (by simpa using r1), T1, R1, V⟩
    · have hsrc := (src_slice (P := P) (w := w) (.inl rfl) hv0)
      obtain ⟨vs', hs1, hs2, hs3⟩ := hsrc
      obtain ⟨w', C', rest, h1, h2, h3, h4⟩ := hgrows _ _ _ _ hs1 hfit hC hb hlen
      have hnl := hn.length
      have hl' := hs2.length
      have hall := hs2.append hn
      have hlen' : (vs' ++ news).length = (xs.length + ys.length) * i.size := by simp [hl', hnl, Nat.add_mul]
      obtain ⟨G', T1, R1, V⟩ := new_row (n := n) (m := m) (C := C') h2 hall R (by simpa using h3) (by omega) (fun j _ => by simp) hm (by
        intro u hu
        rcases List.mem_append.1 hu with h | h
        · exact hs3 u h
        · exact hone u h)
      refine ⟨_, w', G', h1, T1, R1, ?_⟩
      simpa using V

theorem append_any {t u ty e : TypeId} {d : TypeDesc} {i : TypeInfo} {z : Value} {x v : Value} {ys xs : List AV} {news : List Value} {c : Cap} {toks : List Nat} {n m : Nat}
    (ht : P.underlying t = some (.slice e)) (hu : P.underlying u = some d) (hd : (∃ e', d = .slice e') ∨ d = .string) (hi : P.info? e = some i) (hz : i.zero = some z) (hzs : z.cells.size = i.size) (hsz : 0 < i.size) (hx : Src P w i.size x ys.length news)
    (hn : VElems G w i.size ys news) (hone : ∀ u ∈ news, One u) (hv : VRel G w (.sl i.size xs c) v) (hb : (xs.length + ys.length) * i.bytes ≤ 140737488355328) (hlen : xs.length + ys.length < 4611686018427387904)
    (R : RepH G (.only none' toks n m) w) (hm : ¬ G.tdom m) (hc : (c = .exact xs.length ∧ toks = []) ∨ ∃ tk, c = .own tk ∧ toks = [tk]) :
    ∃ v' w' G', (Builtin.append_ #[t, u] ty #[v, x]).run P w = .ok v' w' ∧ Trans G w (.only none' toks n m) G' w' (.only none' [m] n (m + 1)) ∧ RepH G' (.only none' [m] n (m + 1)) w' ∧ VRel G' w' (.sl i.size (xs ++ ys) (.own m)) v' :=
  append_core (e := e) (fun base sLen sCap w' h1 h2 => run_append_fits ht hu hd hi hx h1 h2) (fun base sLen sCap vs h1 h2 h3 h4 h5 => let ⟨w', C, rest, a, b, c, d⟩ := run_append_grows ht hu hd hi hz hzs hsz hx h1 h2 h3 h4 h5; ⟨w', C, rest, a, b, c.1, d⟩) hn hone hv hb hlen R hm hc

theorem run_appendz_fits {t u ty e : TypeId} {i : TypeInfo} {z : Value} {n : Nat} {base : Option Addr} {sLen sCap : Nat} {w' : World}
    (ht : P.underlying t = some (.slice e)) (hu : P.underlying u = some (.int .i64)) (hi : P.info? e = some i) (hz : i.zero = some z) (hzs : z.cells.size = i.size) (hsz : 0 < i.size) (hn : n < 4611686018427387904) (hb : n * i.bytes ≤ 140737488355328)
    (hfit : sLen + n ≤ sCap) (hst : (match base with | some a => (storeCells (a.add (sLen * i.size)) (Builtin.zeroCells z.cells n).toList).run P w | none => .ok () w) = .ok () w') :
    (Builtin.append_ #[t, u] ty #[.slice base sLen sCap, .int .i64 n]).run P w = .ok (.slice base (sLen + n) sCap) w' := by
  have hw : IntKind.i64.wrap (n : Int) = n := IntWalk.i64_in _ (by omega)
  have h0 : ¬ ((n : Int) < 0) := by omega
  have hb' : ¬ (281474976710656 < (n : Int) * i.bytes) := by
    have := Int.ofNat_le.2 hb
    rw [Int.natCast_mul] at this; omega
  by_cases hz0 : n * i.size = 0
  · have hn0 : n = 0 := by rcases Nat.mul_eq_zero.1 hz0 with h | h <;> omega
    subst hn0
    have hw0 : IntKind.i64.wrap 0 = 0 := by decide
    simp [Builtin.zeroCells] at hst
    simp at hfit
    simp [Builtin.append_, run_underlying ht, run_underlying hu, sizeOf, typeInfo, hi, asInt, asIntOf, hw0, hfit]
    cases base with
    | none => simp at hst ⊢; exact hst
    | some a => simp only [] at hst; simp [hst]
  · simp [Builtin.append_, run_underlying ht, run_underlying hu, sizeOf, typeInfo, hi, asInt, asIntOf, hw, h0, hb', hfit, hz0, zeroValue, hz]
    cases base with
    | none => simp at hst ⊢; exact hst
    | some a => simp only [] at hst; simp [hst]

theorem run_appendz_grows {t u ty e : TypeId} {i : TypeInfo} {z : Value} {n : Nat} {vs : List Value} {base : Option Addr} {sLen sCap : Nat}
    (ht : P.underlying t = some (.slice e)) (hu : P.underlying u = some (.int .i64)) (hi : P.info? e = some i) (hz : i.zero = some z) (hzs : z.cells.size = i.size) (hsz : 0 < i.size)
    (hvs : Src P w i.size (.slice base sLen sCap) sLen vs) (hfit : ¬ sLen + n ≤ sCap) (hle : sLen ≤ sCap) (hb : (sLen + n) * i.bytes ≤ 140737488355328) (hn : sLen + n < 4611686018427387904) :
    ∃ w' C rest, (Builtin.append_ #[t, u] ty #[.slice base sLen sCap, .int .i64 n]).run P w = .ok (.slice (some ⟨w.heap.size, 0, none⟩) (sLen + n) C) w' ∧ Pushed w w' (.cells (vs ++ (Builtin.zeroCells z.cells n).toList ++ rest).toArray e (0, 0)) ∧ sLen + n ≤ C ∧ C * i.size = (sLen + n) * i.size + rest.length := by
  obtain ⟨-, k2⟩ := hvs
  have hlt : sCap < sLen + n := by omega
  have hg := growslice_fits hlt hb
  have hg' : ¬ (281474976710656 < Builtin.nextslicecap (sLen + n) sCap * i.bytes) := by omega
  have h63 : ¬ ((sLen : Int) + (n : Int) > 9223372036854775807) := by omega
  have h63' : ¬ (9223372036854775807 < (sLen : Int) + (n : Int)) := by omega
  have hw : IntKind.i64.wrap (n : Int) = n := IntWalk.i64_in _ (by omega)
  have h0 : ¬ ((n : Int) < 0) := by omega
  have hb' : ¬ (281474976710656 < (n : Int) * i.bytes) := by
    have h1 : n * i.bytes ≤ (sLen + n) * i.bytes := Nat.mul_le_mul_right _ (by omega)
    have := Int.ofNat_le.2 (Nat.le_trans h1 hb)
    rw [Int.natCast_mul] at this; omega
  have hz0 : ¬ (n * i.size = 0) := by
    intro h
    rcases Nat.mul_eq_zero.1 h with h | h <;> omega
  let w1 : World := w.drew
  let C := (Question.appendCap (sLen + n) sCap e).cut (w.tape w.drawn (.appendCap (sLen + n) sCap e))
  have hC : sLen + n ≤ C := by simp [C, Question.cut]
  have e2 := k2 w1 rfl
  refine ⟨{ w1 with heap := w1.heap.push (.cells (vs ++ (Builtin.zeroCells z.cells n).toList ++ (Builtin.zeroCells z.cells (C - (sLen + n))).toList).toArray e) }, C, (Builtin.zeroCells z.cells (C - (sLen + n))).toList, ?_, ⟨rfl, rfl, rfl⟩, hC, ?_⟩
  · simp [Builtin.append_, run_underlying ht, run_underlying hu, sizeOf, typeInfo, hi, asInt, asIntOf, hw, h0, hb', hfit, hz0, IntKind.max, IntKind.signed, IntKind.bits, h63, h63', hg', Question.forced, zeroValue, hz, newRow]
    rw [e2, Result.andThen_ok]
    simp [C, w1]
    congr 2
    apply Array.ext'
    simp
  · simp [Builtin.zeroCells, hzs]
    rw [← Nat.add_mul]; congr 1; omega
end
end Go.Av
