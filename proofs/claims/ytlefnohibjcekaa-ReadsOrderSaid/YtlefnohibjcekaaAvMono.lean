/- What stood as an abstract value goes on standing through every step that keeps to its own objects and tokens. -/
import Derived.Test.YtlefnohibjcekaaAvCore
set_option linter.unusedVariables false
namespace Go.Av

theorem cell_lt {w : World} {B off : Nat} {v : Value} (h : w.cell? ⟨B, off, none⟩ = some v) : B < w.heap.size := by
  unfold World.cell? at h
  by_cases hb : B < w.heap.size
  · exact hb
  · have : w.heap[B]? = none := by simp; omega
    simp [this] at h

section
variable {G G' : Ghost} {w w' : World} {h h' : H}

theorem Imm.mono (R : RepH G h w) (T : Trans G w h G' w' h') {B off : Nat} {vs : List Value} (hi : Imm G w B off vs) : Imm G' w' B off vs := by
  intro i v hv
  obtain ⟨hc, hone, hown, hlim⟩ := hi i v hv
  have hB := cell_lt hc
  have hO : ¬ h.O G B := by
    rintro ⟨id, o, ho, rfl⟩
    exact hown (R.obj id o ho).2.1
  by_cases hT : h.T G B
  · obtain ⟨t, ht, e, hte⟩ := id hT
    have hl := ((R.tok t ht).2 B e hte).1
    obtain ⟨k1, k2⟩ := T.tok_keep B hB hT hO e hl
    exact ⟨(k1 _ (hlim e hl)).trans hc, hone, fun ho => hown ((T.own_keep B hB hO).1 ho), fun e' he' => Nat.lt_of_lt_of_le (hlim e hl) (k2 e' he')⟩
  · refine ⟨?_, hone, fun ho => hown ((T.own_keep B hB hO).1 ho), fun e' he' => hlim e' ((T.lim_keep B hB hO hT).symm.trans he')⟩
    have := T.keep B hB hO hT
    unfold World.cell? at hc ⊢
    simpa [this] using hc

theorem Room.mono (T : Trans G w h G' w' h') {B u : Nat} (hr : Room w B u) : Room w' B u := by
  obtain ⟨cs, Tt, fr, h1, h2, h3⟩ := hr
  have hB : B < w.heap.size := by
    rcases Nat.lt_or_ge B w.heap.size with hb | hb
    · exact hb
    · have : w.heap[B]? = none := by simp; omega
      simp [this] at h1
  have hf := T.form B hB
  rw [h1] at hf
  obtain ⟨c', he, hs⟩ := hf
  exact ⟨c', Tt, fr, he, hs ▸ h2, hs ▸ h3⟩

theorem CapOk.mono (T : Trans G w h G' w' h') {c : Cap} {B off len C sz : Nat} (hc : CapOk G w c B off len C sz) : CapOk G' w' c B off len C sz := by
  cases c with
  | any => trivial
  | exact c => exact hc
  | own t =>
    rcases hc with hc | ⟨h1, h2, h3⟩
    · exact .inl hc
    · exact .inr ⟨T.tdom_le t h1, (T.τ_eq t h1).trans h2, h3.mono T⟩

mutual
theorem VRel.mono (R : RepH G h w) (T : Trans G w h G' w' h') : ∀ (x : AV) (v : Value), VRel G w x v → VRel G' w' x v
  | .any, _, _ => trivial
  | .int k n, _, hv => hv
  | .bool b, _, hv => hv
  | .str l, _, hv => hv
  | .sc x, _, hv => hv
  | .sl sz xs c, v, hv => by
    simp only [VRel] at hv ⊢
    rcases hv with hv | ⟨B, off, C, vs, h1, h2, h3, h4, h5, h6⟩
    · exact .inl hv
    · exact .inr ⟨B, off, C, vs, h1, h2, h3, VElems.mono R T sz xs vs h4, h5.mono R T, h6.mono T⟩
  | .ref cs, v, hv => by
    simp only [VRel] at hv ⊢
    obtain ⟨B, off, vs, h1, h2, h3⟩ := hv
    exact ⟨B, off, vs, h1, VRels.mono R T cs vs h2, h3.mono R T⟩
  | .agg cs, v, hv => by
    simp only [VRel] at hv ⊢
    obtain ⟨vs, h1, h2⟩ := hv
    exact ⟨vs, h1, VRels.mono R T cs vs h2⟩
  | .tup cs, v, hv => by
    simp only [VRel] at hv ⊢
    obtain ⟨vs, h1, h2⟩ := hv
    exact ⟨vs, h1, VRels.mono R T cs vs h2⟩
  | .ptr id off, v, hv => by
    simp only [VRel] at hv ⊢
    exact ⟨T.dom_le id hv.1, by rw [T.ι_eq id hv.1]; exact hv.2⟩
  | .tsl sz id off len cap, v, hv => by
    simp only [VRel] at hv ⊢
    obtain ⟨hd, hv⟩ := hv
    refine ⟨T.dom_le id hd, ?_⟩
    rcases hv with ⟨C, c, Tt, fr, h1, h2, h3, h4, h5⟩ | hv
    · left
      have hB : G.ι id < w.heap.size := by
        rcases Nat.lt_or_ge (G.ι id) w.heap.size with hb | hb
        · exact hb
        · have : w.heap[G.ι id]? = none := by simp; omega
          rw [this] at h4; cases h4
      have hf := T.form _ hB
      rw [h4] at hf
      obtain ⟨c', he, hs⟩ := hf
      rw [T.ι_eq id hd]
      exact ⟨C, c', Tt, fr, h1, h2, h3, he, by rw [hs]; exact h5⟩
    · exact .inr hv
  | .clo fn a b, v, hv => by
    simp only [VRel] at hv ⊢
    obtain ⟨vs, us, h1, h2, h3⟩ := hv
    exact ⟨vs, us, h1, VRels.mono R T a vs h2, VRels.mono R T b us h3⟩
  | .ifc t x, v, hv => by
    simp only [VRel] at hv ⊢
    obtain ⟨u, h1, h2⟩ := hv
    exact ⟨u, h1, VRel.mono R T x u h2⟩
  | .mp id, v, hv => by
    simp only [VRel] at hv ⊢
    exact ⟨T.dom_le id hv.1, by rw [T.ι_eq id hv.1]; exact hv.2⟩
theorem VRels.mono (R : RepH G h w) (T : Trans G w h G' w' h') : ∀ (x : List AV) (v : List Value), VRels G w x v → VRels G' w' x v
  | [], _, hv => by simpa only [VRels] using hv
  | x :: xs, vs, hv => by
    simp only [VRels] at hv ⊢
    obtain ⟨v, us, h1, h2, h3⟩ := hv
    exact ⟨v, us, h1, VRel.mono R T x v h2, VRels.mono R T xs us h3⟩
theorem VElems.mono (R : RepH G h w) (T : Trans G w h G' w' h') (sz : Nat) : ∀ (x : List AV) (v : List Value), VElems G w sz x v → VElems G' w' sz x v
  | [], _, hv => by simpa only [VElems] using hv
  | x :: xs, vs, hv => by
    simp only [VElems] at hv ⊢
    obtain ⟨v, us, h1, h2, h3, h4⟩ := hv
    exact ⟨v, us, h1, h2, VRel.mono R T x v h3, VElems.mono R T sz xs us h4⟩
end

theorem Entries.mono (R : RepH G h w) (T : Trans G w h G' w' h') : ∀ (l : List (AV × AV)) (e : List MapEntry), Entries G w l e → Entries G' w' l e
  | [], _, hv => hv
  | (k, v) :: l, es, hv => by
    obtain ⟨e, r, h1, h2, h3, h4⟩ := hv
    exact ⟨e, r, h1, VRel.mono R T k _ h2, VRel.mono R T v _ h3, Entries.mono R T l r h4⟩

theorem ORel.mono (R : RepH G h w) (T : Trans G w h G' w' h') {o : Obj} {x : Option Go.Obj} (hx : ORel G w o x) : ORel G' w' o x := by
  cases o with
  | cells cs =>
    obtain ⟨vs, rest, Tt, fr, h1, h2, h3⟩ := hx
    exact ⟨vs, rest, Tt, fr, h1, VRels.mono R T _ _ h2, h3⟩
  | map es =>
    obtain ⟨en, k, h1, h2⟩ := hx
    exact ⟨en, k, h1, Entries.mono R T _ _ h2⟩

theorem SameForm.refl (o : Option Go.Obj) : SameForm o o := by
  cases o with
  | none => rfl
  | some o => cases o <;> first | exact ⟨_, rfl, rfl⟩ | exact ⟨_, _, rfl⟩ | rfl

theorem SameForm.trans {a b c : Option Go.Obj} (h1 : SameForm a b) (h2 : SameForm b c) : SameForm a c := by
  cases a with
  | none => cases h1; exact h2
  | some o =>
    cases o with
    | cells cs T fr =>
      obtain ⟨c1, rfl, e1⟩ := h1
      obtain ⟨c2, rfl, e2⟩ := h2
      exact ⟨c2, rfl, e2.trans e1⟩
    | map e k =>
      obtain ⟨_, _, rfl⟩ := h1
      exact h2
    | _ => cases h1; exact h2

theorem Trans.refl (G : Ghost) (w : World) (h : H) : Trans G w h G w h where
  dom_le _ x := x
  dom_new _ x := .inl x
  ι_eq _ _ := rfl
  tdom_le _ x := x
  tdom_new _ x := .inl x
  τ_eq _ _ := rfl
  n_le := Nat.le_refl _
  m_le := Nat.le_refl _
  size_le := Nat.le_refl _
  os := rfl
  output := rfl
  form _ _ := SameForm.refl _
  keep _ _ _ _ := rfl
  own_keep _ _ _ := Iff.rfl
  lim_keep _ _ _ _ := rfl
  tok_keep _ _ _ _ e he := ⟨fun _ _ => rfl, fun e' he' => by rw [he] at he'; cases he'; exact Nat.le_refl _⟩
  O_new _ _ x := x
  T_new _ _ x := x
  objs_new _ o x := .inl ⟨o, x⟩
  toks_new _ x := .inl x

theorem RepH.T_notO (R : RepH G h w) {B : Nat} (ht : h.T G B) : ¬ h.O G B := by
  rintro ⟨id, o, ho, rfl⟩
  obtain ⟨t, ht, e, he⟩ := ht
  exact ((R.tok t ht).2 _ e he).2.1 (R.obj id o ho).2.1

/-- one step behind the other (the names that are given on the way may be given in another order) -/
theorem Trans.trans' {G'' : Ghost} {w'' : World} {h2 h'' : H} (R : RepH G h w) (T1 : Trans G w h G' w' h') (ho : h2.objs = h'.objs) (ht : ∀ t, t ∈ h2.toks ↔ t ∈ h'.toks) (n1 : h.n ≤ h2.n) (n2 : h'.n ≤ h''.n) (n3 : h.n ≤ h''.n) (m1 : h.m ≤ h2.m) (m2 : h'.m ≤ h''.m) (m3 : h.m ≤ h''.m)
    (R1 : RepH G' h' w') (T2 : Trans G' w' h2 G'' w'' h'') : Trans G w h G'' w'' h'' := by
  have eO : ∀ B, h2.O G' B ↔ h'.O G' B := fun B => by simp [H.O, ho]
  have eT : ∀ B, h2.T G' B ↔ h'.T G' B := fun B => by simp [H.T, ht]
  constructor
  · exact fun id x => T2.dom_le id (T1.dom_le id x)
  · intro id x
    rcases T2.dom_new id x with y | ⟨a, b⟩
    · exact (T1.dom_new id y).imp (fun z => z) fun z => ⟨z.1, Nat.lt_of_lt_of_le z.2 n2⟩
    · exact .inr ⟨Nat.le_trans n1 a, b⟩
  · exact fun id x => (T2.ι_eq id (T1.dom_le id x)).trans (T1.ι_eq id x)
  · exact fun id x => T2.tdom_le id (T1.tdom_le id x)
  · intro id x
    rcases T2.tdom_new id x with y | ⟨a, b⟩
    · exact (T1.tdom_new id y).imp (fun z => z) fun z => ⟨z.1, Nat.lt_of_lt_of_le z.2 m2⟩
    · exact .inr ⟨Nat.le_trans m1 a, b⟩
  · exact fun id x => (T2.τ_eq id (T1.tdom_le id x)).trans (T1.τ_eq id x)
  · exact n3
  · exact m3
  · exact Nat.le_trans T1.size_le T2.size_le
  · exact T2.os.trans T1.os
  · exact T2.output.trans T1.output
  · exact fun B hB => (T1.form B hB).trans (T2.form B (Nat.lt_of_lt_of_le hB T1.size_le))
  · exact fun B hB hO hT => (T2.keep B (Nat.lt_of_lt_of_le hB T1.size_le) (fun x => hO (T1.O_new B hB ((eO B).1 x))) (fun x => hT (T1.T_new B hB ((eT B).1 x)))).trans (T1.keep B hB hO hT)
  · exact fun B hB hO => (T2.own_keep B (Nat.lt_of_lt_of_le hB T1.size_le) (fun x => hO (T1.O_new B hB ((eO B).1 x)))).trans (T1.own_keep B hB hO)
  · exact fun B hB hO hT => (T2.lim_keep B (Nat.lt_of_lt_of_le hB T1.size_le) (fun x => hO (T1.O_new B hB ((eO B).1 x))) (fun x => hT (T1.T_new B hB ((eT B).1 x)))).trans (T1.lim_keep B hB hO hT)
  · intro B hB hT hO e he
    have hB' := Nat.lt_of_lt_of_le hB T1.size_le
    have hO' : ¬ h2.O G' B := fun x => hO (T1.O_new B hB ((eO B).1 x))
    obtain ⟨k1, k2⟩ := T1.tok_keep B hB hT hO e he
    by_cases hT' : h2.T G' B
    · obtain ⟨t, ht, e1, he1⟩ := (eT B).1 hT'
      have hl := ((R1.tok t ht).2 B e1 he1).1
      have hle := k2 e1 hl
      obtain ⟨j1, j2⟩ := T2.tok_keep B hB' hT' hO' e1 hl
      exact ⟨fun j hj => (j1 j (Nat.lt_of_lt_of_le hj hle)).trans (k1 j hj), fun e' he' => Nat.le_trans hle (j2 e' he')⟩
    · have hk := T2.keep B hB' hO' hT'
      have hl := T2.lim_keep B hB' hO' hT'
      refine ⟨fun j hj => ?_, fun e' he' => k2 e' (hl.symm.trans he')⟩
      rw [← k1 j hj]
      unfold World.cell?
      simp only [hk]
  · exact fun B hB x => T1.O_new B hB ((eO B).1 (T2.O_new B (Nat.lt_of_lt_of_le hB T1.size_le) x))
  · exact fun B hB x => T1.T_new B hB ((eT B).1 (T2.T_new B (Nat.lt_of_lt_of_le hB T1.size_le) x))
  · intro j o x
    rcases T2.objs_new j o x with ⟨o', y⟩ | ⟨a, b⟩
    · rw [ho] at y
      exact (T1.objs_new j o' y).imp (fun z => z) fun z => ⟨z.1, Nat.lt_of_lt_of_le z.2 n2⟩
    · exact .inr ⟨Nat.le_trans n1 a, b⟩
  · intro j x
    rcases T2.toks_new j x with y | ⟨a, b⟩
    · exact (T1.toks_new j ((ht j).1 y)).imp (fun z => z) fun z => ⟨z.1, Nat.lt_of_lt_of_le z.2 m2⟩
    · exact .inr ⟨Nat.le_trans m1 a, b⟩

theorem Trans.trans {G'' : Ghost} {w'' : World} {h'' : H} (R : RepH G h w) (T1 : Trans G w h G' w' h') (R1 : RepH G' h' w') (T2 : Trans G' w' h' G'' w'' h'') : Trans G w h G'' w'' h'' :=
  T1.trans' R rfl (fun _ => Iff.rfl) T1.n_le T2.n_le (Nat.le_trans T1.n_le T2.n_le) T1.m_le T2.m_le (Nat.le_trans T1.m_le T2.m_le) R1 T2

/-- the same objects and tokens, other counts -/
theorem RepH.same {h2 : H} (R : RepH G h w) (ho : h2.objs = h.objs) (ht : ∀ t, t ∈ h2.toks → t ∈ h.toks) : RepH G h2 w where
  obj id o x := R.obj id o (by rw [← ho]; exact x)
  inj id id' o o' x y := R.inj id id' o o' (by rw [← ho]; exact x) (by rw [← ho]; exact y)
  tok t x := R.tok t (ht t x)
  tinj t x t' y := R.tinj t (ht t x) t' (ht t' y)

theorem Trans.same {h2 h2' : H} (T : Trans G w h G' w' h') (ho : h2.objs = h.objs) (ht : ∀ t, t ∈ h2.toks ↔ t ∈ h.toks) (ho' : h2'.objs = h'.objs) (ht' : ∀ t, t ∈ h2'.toks ↔ t ∈ h'.toks) (n1 : h2.n ≤ h.n) (n2 : h'.n ≤ h2'.n) (n3 : h2.n ≤ h2'.n) (m1 : h2.m ≤ h.m) (m2 : h'.m ≤ h2'.m) (m3 : h2.m ≤ h2'.m) :
    Trans G w h2 G' w' h2' := by
  have eO : ∀ G B, h2.O G B ↔ h.O G B := fun G B => by simp [H.O, ho]
  have eT : ∀ G B, h2.T G B ↔ h.T G B := fun G B => by simp [H.T, ht]
  have eO' : ∀ G B, h2'.O G B ↔ h'.O G B := fun G B => by simp [H.O, ho']
  have eT' : ∀ G B, h2'.T G B ↔ h'.T G B := fun G B => by simp [H.T, ht']
  constructor
  · exact T.dom_le
  · exact fun id x => (T.dom_new id x).imp (fun z => z) fun z => ⟨Nat.le_trans n1 z.1, Nat.lt_of_lt_of_le z.2 n2⟩
  · exact T.ι_eq
  · exact T.tdom_le
  · exact fun id x => (T.tdom_new id x).imp (fun z => z) fun z => ⟨Nat.le_trans m1 z.1, Nat.lt_of_lt_of_le z.2 m2⟩
  · exact T.τ_eq
  · exact n3
  · exact m3
  · exact T.size_le
  · exact T.os
  · exact T.output
  · exact T.form
  · exact fun B hB a b => T.keep B hB (fun x => a ((eO _ B).2 x)) (fun x => b ((eT _ B).2 x))
  · exact fun B hB a => T.own_keep B hB (fun x => a ((eO _ B).2 x))
  · exact fun B hB a b => T.lim_keep B hB (fun x => a ((eO _ B).2 x)) (fun x => b ((eT _ B).2 x))
  · exact fun B hB a b => T.tok_keep B hB ((eT _ B).1 a) (fun x => b ((eO _ B).2 x))
  · exact fun B hB x => (eO _ B).2 (T.O_new B hB ((eO' _ B).1 x))
  · exact fun B hB x => (eT _ B).2 (T.T_new B hB ((eT' _ B).1 x))
  · exact fun j o x => by
      rw [ho'] at x
      rw [ho]
      exact (T.objs_new j o x).imp (fun z => z) fun z => ⟨Nat.le_trans n1 z.1, Nat.lt_of_lt_of_le z.2 n2⟩
  · exact fun t x => ((T.toks_new t ((ht' t).1 x)).imp (fun z => (ht t).2 z) fun z => ⟨Nat.le_trans m1 z.1, Nat.lt_of_lt_of_le z.2 m2⟩)

theorem H.sub_refl (h : H) : h.sub h := ⟨fun _ _ x => x, fun _ x => x⟩

theorem RepH.sub {h1 : H} (R : RepH G h w) (hs : h1.sub h) : RepH G h1 w where
  obj id o ho := R.obj id o (hs.1 id o ho)
  inj id id' o o' ho ho' := R.inj id id' o o' (hs.1 id o ho) (hs.1 id' o' ho')
  tok t ht := R.tok t (hs.2 t ht)
  tinj t ht t' ht' := R.tinj t (hs.2 t ht) t' (hs.2 t' ht')

/-- THE FRAME: what a step does to a part, it does to the whole; the rest stands -/
theorem frame {h1 h1' : H} (R : RepH G h w) (hs : h1.sub h) (hn : h1.n = h.n) (hm : h1.m = h.m) (R1 : RepH G' h1' w') (T : Trans G w h1 G' w' h1') (F : Fresh G h1 h1') :
    RepH G' (h.patch h1 h1') w' ∧ Trans G w h G' w' (h.patch h1 h1') := by
  have hO : ∀ B, h1.O G B → h.O G B := fun B ⟨id, o, ho, e⟩ => ⟨id, o, hs.1 id o ho, e⟩
  have hT : ∀ B, h1.T G B → h.T G B := fun B ⟨t, ht, e⟩ => ⟨t, hs.2 t ht, e⟩
  have R0 := R.sub hs
  -- an object of the rest
  have rest : ∀ id o, (h.patch h1 h1').objs id = some o → (h1'.objs id = some o) ∨ (h.objs id = some o ∧ h1.objs id = none ∧ ¬ h1.O G (G.ι id)) := by
    intro id o ho
    simp only [H.patch] at ho
    split at ho
    · exact .inl ho
    · rename_i hc
      refine .inr ⟨ho, ?_, ?_⟩
      · cases hh : h1.objs id with
        | none => rfl
        | some o' => exact absurd (.inl (by simp [hh])) hc
      · rintro ⟨id0, o0, ho0, e⟩
        have := R.inj id0 id o0 o (hs.1 _ _ ho0) ho e
        subst this
        exact hc (.inl (by simp [ho0]))
  have trest : ∀ t, t ∈ (h.patch h1 h1').toks → t ∈ h1'.toks ∨ (t ∈ h.toks ∧ t ∉ h1.toks) := by
    intro t ht
    simp only [H.patch, List.mem_append, List.mem_filter] at ht
    rcases ht with ht | ⟨ht, hc⟩
    · exact .inl ht
    · exact .inr ⟨ht, by simpa using hc⟩
  have tnot : ∀ t, t ∈ h.toks → t ∉ h1.toks → ∀ B e, G.τ t = some (B, e) → ¬ h1.T G B ∧ ¬ h1.O G B := by
    intro t ht hnt B e he
    refine ⟨?_, ?_⟩
    · rintro ⟨t0, ht0, e0, he0⟩
      exact hnt (R.tinj t ht t0 (hs.2 t0 ht0) B e e0 he he0 ▸ ht0)
    · rintro ⟨id, o, ho, rfl⟩
      exact ((R.tok t ht).2 _ e he).2.1 (R0.obj id o ho).2.1
  have RR : RepH G' (h.patch h1 h1') w' := by
    constructor
    · intro id o ho
      rcases rest id o ho with ho | ⟨ho, h1n, hno⟩
      · exact R1.obj id o ho
      · obtain ⟨a1, a2, a3, a4⟩ := R.obj id o ho
        have e := T.ι_eq id a1
        have hnT : ¬ h1.T G (G.ι id) := fun ⟨t, ht, ee, he⟩ => ((R0.tok t ht).2 _ ee he).2.1 a2
        refine ⟨T.dom_le id a1, ?_, ?_, ?_⟩
        · rw [e]; exact (T.own_keep _ a3 hno).2 a2
        · rw [e]; exact Nat.lt_of_lt_of_le a3 T.size_le
        · rw [e, T.keep _ a3 hno hnT]
          exact a4.mono R0 T
    · intro id id' o o' ho ho' e
      rcases rest id o ho with ho | ⟨ho, h1n, hno⟩ <;> rcases rest id' o' ho' with ho' | ⟨ho', h1n', hno'⟩
      · exact R1.inj id id' o o' ho ho' e
      · exfalso
        have e' := T.ι_eq id' (R.obj id' o' ho').1
        exact hno' (T.O_new _ (R.obj id' o' ho').2.2.1 ⟨id, o, ho, e.trans e'⟩)
      · exfalso
        have e' := T.ι_eq id (R.obj id o ho).1
        exact hno (T.O_new _ (R.obj id o ho).2.2.1 ⟨id', o', ho', e.symm.trans e'⟩)
      · exact R.inj id id' o o' ho ho' (by rw [← T.ι_eq id (R.obj id o ho).1, ← T.ι_eq id' (R.obj id' o' ho').1]; exact e)
    · intro t ht
      rcases trest t ht with ht | ⟨ht, hnt⟩
      · exact R1.tok t ht
      · obtain ⟨a1, a2⟩ := R.tok t ht
        refine ⟨T.tdom_le t a1, fun B e he => ?_⟩
        rw [T.τ_eq t a1] at he
        obtain ⟨b1, b2, b3⟩ := a2 B e he
        obtain ⟨n1, n2⟩ := tnot t ht hnt B e he
        exact ⟨(T.lim_keep B b3 n2 n1).trans b1, fun ho => b2 ((T.own_keep B b3 n2).1 ho), Nat.lt_of_lt_of_le b3 T.size_le⟩
    · intro t ht t' ht' B e e' he he'
      rcases trest t ht with ht | ⟨ht, hnt⟩ <;> rcases trest t' ht' with ht' | ⟨ht', hnt'⟩
      · exact R1.tinj t ht t' ht' B e e' he he'
      · exfalso
        rw [T.τ_eq t' (R.tok t' ht').1] at he'
        exact (tnot t' ht' hnt' B e' he').1 (T.T_new B ((R.tok t' ht').2 B e' he').2.2 ⟨t, ht, e, he⟩)
      · exfalso
        rw [T.τ_eq t (R.tok t ht).1] at he
        exact (tnot t ht hnt B e he).1 (T.T_new B ((R.tok t ht).2 B e he).2.2 ⟨t', ht', e', he'⟩)
      · rw [T.τ_eq t (R.tok t ht).1] at he
        rw [T.τ_eq t' (R.tok t' ht').1] at he'
        exact R.tinj t ht t' ht' B e e' he he'
  refine ⟨RR, ?_⟩
  constructor
  · exact T.dom_le
  · intro id x; rw [← hn]; exact T.dom_new id x
  · exact T.ι_eq
  · exact T.tdom_le
  · intro id x; rw [← hm]; exact T.tdom_new id x
  · exact T.τ_eq
  · rw [← hn]; exact T.n_le
  · rw [← hm]; exact T.m_le
  · exact T.size_le
  · exact T.os
  · exact T.output
  · exact T.form
  · exact fun B hB a b => T.keep B hB (fun x => a (hO B x)) (fun x => b (hT B x))
  · exact fun B hB a => T.own_keep B hB (fun x => a (hO B x))
  · exact fun B hB a b => T.lim_keep B hB (fun x => a (hO B x)) (fun x => b (hT B x))
  · intro B hB ht ho e he
    by_cases hT1 : h1.T G B
    · exact T.tok_keep B hB hT1 (fun x => ho (hO B x)) e he
    · have hk := T.keep B hB (fun x => ho (hO B x)) hT1
      have hl := T.lim_keep B hB (fun x => ho (hO B x)) hT1
      refine ⟨fun j _ => ?_, fun e' he' => ?_⟩
      · unfold World.cell?; simp only [hk]
      · rw [hl, he] at he'; cases he'; exact Nat.le_refl _
  · rintro B hB ⟨id, o, ho, e⟩
    rcases rest id o ho with ho | ⟨ho, h1n, hno⟩
    · exact hO B (T.O_new B hB ⟨id, o, ho, e⟩)
    · exact ⟨id, o, ho, (T.ι_eq id (R.obj id o ho).1).symm.trans e⟩
  · rintro B hB ⟨t, ht, e, he⟩
    rcases trest t ht with ht | ⟨ht, hnt⟩
    · exact hT B (T.T_new B hB ⟨t, ht, e, he⟩)
    · exact ⟨t, ht, e, (T.τ_eq t (R.tok t ht).1).symm.trans he⟩
  · intro j o ho
    rcases rest j o ho with ho | ⟨ho, _⟩
    · rw [← hn]
      exact (T.objs_new j o ho).imp (fun ⟨o', z⟩ => ⟨o', hs.1 j o' z⟩) fun z => z
    · exact .inl ⟨o, ho⟩
  · intro t ht
    rcases trest t ht with ht | ⟨ht, _⟩
    · rw [← hm]
      exact (T.toks_new t ht).imp (fun z => hs.2 t z) fun z => z
    · exact .inl ht
end
end Go.Av
