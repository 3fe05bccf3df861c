/- Whole statements ('Wp.reg') and whole functions ('acalls_of', 'pcalls_of'). -/
import Derived.Test.YtlefnohibjcekaaAvItems
set_option linter.unusedVariables false
set_option linter.unusedSimpArgs false
namespace Go.Av
section
variable {P : Program} {N : Nat}

/-! ## The edges of a region, as 'Region.before' has them -/

def rowOf (acc : Array Nat) (o : Oper) : Nat := o.after.foldl (fun s e => if Region.binds .any e then s ||| 2 ^ e.on ||| acc.getD e.on 0 else s) 0

theorem rowOf_bit {acc : Array Nat} {o : Oper} {j : Nat} (h : (rowOf acc o).testBit j = true) : ∃ e ∈ o.after, Region.binds .any e = true ∧ (j = e.on ∨ (acc.getD e.on 0).testBit j = true) := by
  have key : ∀ (l : List Edge) (s : Nat), (l.foldl (fun s e => if Region.binds .any e then s ||| 2 ^ e.on ||| acc.getD e.on 0 else s) s).testBit j = true → s.testBit j = true ∨ ∃ e ∈ l, Region.binds .any e = true ∧ (j = e.on ∨ (acc.getD e.on 0).testBit j = true) := by
    intro l
    induction l with
    | nil => intro s h; exact .inl h
    | cons e l ih =>
      intro s h
      rcases ih _ h with h | ⟨e', h1, h2⟩
      · by_cases hb : Region.binds .any e = true
        · simp only [hb, if_true, Nat.testBit_or, Bool.or_eq_true] at h
          rcases h with (h | h) | h
          · exact .inl h
          · rw [Nat.testBit_two_pow] at h
            exact .inr ⟨e, by simp, hb, .inl (by simpa using h.symm : e.on = j).symm⟩
          · exact .inr ⟨e, by simp, hb, .inr h⟩
        · simp only [hb, if_false, Bool.false_eq_true] at h
          exact .inl h
      · exact .inr ⟨e', by simp [h1], h2⟩
  unfold rowOf at h
  rw [← Array.foldl_toList] at h
  rcases key _ _ h with h | ⟨e, h1, h2⟩
  · simp at h
  · exact ⟨e, by simpa using h1, h2⟩

theorem before_spec (ops : Array Oper) : ∀ (i : Nat) o, ops[i]? = some o → ∀ j, isAnc ops j i = true → ∃ e ∈ o.after, Region.binds .any e = true ∧ (j = e.on ∨ isAnc ops j e.on = true) := by
  have key : ∀ (l : List Oper) (acc : Array Nat), let B := l.foldl (fun acc o => acc.push (rowOf acc o)) acc
      (B.size = acc.size + l.length) ∧ (∀ k, k < acc.size → B.getD k 0 = acc.getD k 0) ∧ ∀ k o, l[k]? = some o → ∀ j, (B.getD (acc.size + k) 0).testBit j = true → ∃ e ∈ o.after, Region.binds .any e = true ∧ (j = e.on ∨ (B.getD e.on 0).testBit j = true) := by
    intro l
    induction l with
    | nil => intro acc; simp
    | cons o l ih =>
      intro acc
      obtain ⟨a1, a2, a3⟩ := ih (acc.push (rowOf acc o))
      simp only [List.foldl_cons]
      refine ⟨by rw [a1]; simp; omega, fun k hk => ?_, fun k o' ho' j hj => ?_⟩
      · rw [a2 k (by simp; omega)]
        simp [Array.getElem?_push, hk]
        rw [if_neg (by omega)]; rfl
      · cases k with
        | zero =>
          simp at ho'; subst ho'
          rw [a2 _ (by simp)] at hj
          simp at hj
          obtain ⟨e, h1, h2⟩ := rowOf_bit hj
          refine ⟨e, h1, h2.1, h2.2.imp (fun z => z) fun h => ?_⟩
          have hlt : e.on < acc.size := by
            rcases Nat.lt_or_ge e.on acc.size with h' | h'
            · exact h'
            · simp [h'] at h
          rw [a2 _ (by simp; omega)]
          simp only [Array.getD_eq_getD_getElem?, Array.getElem?_push] at h ⊢
          rw [if_neg (by omega)]; exact h
        | succ k =>
          simp at ho'
          have := a3 k o' ho' j (by simpa [Nat.add_assoc, Nat.add_comm 1 k] using hj)
          exact this
  obtain ⟨a1, a2, a3⟩ := key ops.toList #[]
  have hB : Region.before ops = ops.toList.foldl (fun acc o => acc.push (rowOf acc o)) #[] := by
    unfold Region.before
    rw [← Array.foldl_toList]
    rfl
  intro i o ho j hj
  unfold isAnc at hj ⊢
  rw [hB] at hj ⊢
  exact a3 i o (by simpa using ho) j (by simpa using hj)

theorem tidy_ok {ops : Array Oper} (h : tidy ops = true) : Tidy ops := by
  unfold tidy at h
  simp only [Bool.and_eq_true, List.all_eq_true] at h
  obtain ⟨h1, h2⟩ := h
  have hm : ∀ (i : Nat) o, ops[i]? = some o → (o, i) ∈ ops.toList.zipIdx := by
    intro i o ho
    rw [List.mem_iff_getElem?]
    exact ⟨i, by simp [List.getElem?_zipIdx, ho]⟩
  constructor
  · intro i o ho e he hbd
    have := h1 (o, i) (hm i o ho)
    rw [Array.all_eq_true_iff_forall_mem] at this
    have := this e he
    simpa [hbd] using this
  · exact before_spec ops
  · intro i j o o' ho ho' hne d hd hn
    have := h2 (o, i) (hm i o ho)
    simp only [hd, List.all_eq_true] at this
    have := this (o', j) (hm j o' ho')
    simp only [Bool.or_eq_true, Bool.not_eq_true', beq_iff_eq] at this
    rcases this with ((h | h) | h) | h
    · exact absurd h hne
    · have h3 : (names ops o').contains d = true := by simpa using hn
      rw [h3] at h; cases h
    · exact .inl h
    · exact .inr h

def pairsOk : List (Nat × Nat) → List Ent → Prop
  | [], _ => True
  | (i, j) :: l, log => apart (log.getD i ent0) (log.getD j ent0) ∧ pairsOk l log

theorem pairsOk_mem : ∀ {l : List (Nat × Nat)} {log : List Ent}, pairsOk l log → ∀ {i j : Nat}, (i, j) ∈ l → apart (log.getD i ent0) (log.getD j ent0)
  | (a, b) :: l, log, h, i, j, hm => by
    rcases List.mem_cons.1 hm with e | hm
    · cases e; exact h.1
    · exact pairsOk_mem h.2 hm

theorem apart_ent0 (e : Ent) : apart ent0 e ∧ apart e ent0 := by
  constructor
  · exact ⟨fun id h => by simp [ent0] at h, fun id h => by simp [ent0], fun t h => by simp [ent0] at h⟩
  · exact ⟨fun id h => by simp [ent0], fun id h => by simp [ent0] at h, fun t h => by simp [ent0]⟩

def pairsQ (p : Option (List (Nat × Nat))) (log : List Ent) : Prop :=
  match p with
  | none => True
  | some l => pairsOk l log

theorem cItems_len {ops : Array Oper} : ∀ {l : List Oper} {items : List AItem}, cItems P N ops l = some items → items.length = l.length ∧ ∀ (k : Nat) o it, l[k]? = some o → items[k]? = some it → cItem P N ops o = some it
  | [], items, h => by simp [cItems] at h; subst h; simp
  | o :: l, items, h => by
    simp only [cItems] at h
    split at h
    · rename_i a r h1 h2
      cases h
      obtain ⟨e1, e2⟩ := cItems_len h2
      refine ⟨by simp [e1], fun k o' it ho hit => ?_⟩
      cases k with
      | zero => simp at ho hit; subst ho hit; exact h1
      | succ k => simp at ho hit; exact e2 k o' it ho hit
    · cases h

theorem code_reg {code : Code} {items : List AItem} {p : Option (List (Nat × Nat))} (h : cCode P N code = some (.reg items p)) :
    ∃ id ops draw, code = .region id ops draw ∧ cItems P N ops ops.toList = some items ∧ ((draw = false ∧ p = none) ∨ (draw = true ∧ P.follows .mixedOrders = true ∧ tidy ops = true ∧ p = some (pairsOf ops items))) := by
  cases code <;> simp only [cCode] at h <;> (try cases h)
  · split at h
    · rename_i id ops draw _ items' hi
      split at h
      · split at h <;> cases h
        rename_i hd hcond
        simp only [Bool.and_eq_true] at hcond
        exact ⟨_, _, _, rfl, hi, .inr ⟨hd, hcond.1, hcond.2, rfl⟩⟩
      · cases h
        rename_i hd
        exact ⟨_, _, _, rfl, hi, .inl ⟨by simpa using hd, rfl⟩⟩
    · cases h
  all_goals first | ((repeat' split at h) <;> cases h; done) | (simp at h; done)

theorem trans_draw (G : Ghost) (w w' : World) (h : H) (e1 : w'.heap = w.heap) (e2 : w'.os = w.os) (e3 : w'.output = w.output) : Trans G w h G w' h where
  dom_le _ x := x
  dom_new _ x := .inl x
  ι_eq _ _ := rfl
  tdom_le _ x := x
  tdom_new _ x := .inl x
  τ_eq _ _ := rfl
  n_le := Nat.le_refl _
  m_le := Nat.le_refl _
  size_le := by rw [e1]; exact Nat.le_refl _
  os := e2
  output := e3
  form B _ := by rw [e1]; exact SameForm.refl _
  keep _ _ _ _ := by rw [e1]
  own_keep _ _ _ := Iff.rfl
  lim_keep _ _ _ _ := rfl
  tok_keep _ _ _ _ e he := ⟨fun _ _ => cell_of_heap e1 _, fun e' he' => by rw [he] at he'; cases he'; exact Nat.le_refl _⟩
  O_new _ _ x := x
  T_new _ _ x := x
  objs_new _ o x := .inl ⟨o, x⟩
  toks_new _ x := .inl x

theorem RepH.draw {G : Ghost} {w w' : World} {h : H} (R : RepH G h w) (e1 : w'.heap = w.heap) (e2 : w'.os = w.os) (e3 : w'.output = w.output) : RepH G h w' where
  obj id o ho := by
    obtain ⟨a, b, c, d⟩ := R.obj id o ho
    exact ⟨a, b, by rw [e1]; exact c, by rw [e1]; exact d.mono R (trans_draw G w w' h e1 e2 e3)⟩
  inj := R.inj
  tok t ht := ⟨(R.tok t ht).1, fun B e he => by rw [e1]; exact (R.tok t ht).2 B e he⟩
  tinj := R.tinj

theorem Wp.reg {items : List AItem} {p : Option (List (Nat × Nat))} {s : St} {Q : AExit → St → Prop} (h : WpItems P N items s.t s.h [] fun t' h' log => pairsQ p log ∧ Q .normal ⟨t', h'⟩) : Wp P N (.reg items p) s Q := by
  intro code hc
  obtain ⟨id, ops, draw, rfl, hi, hd⟩ := code_reg hc
  obtain ⟨recs, t', h', ch, ⟨hp, hq⟩, hen⟩ := h ops 0 (Nat.zero_le _) (by simpa using hi)
  simp only [List.reverse_nil, List.nil_append] at hp
  obtain ⟨nm, -, -⟩ := chain_nm ch
  obtain ⟨cl, ci⟩ := cItems_len hi
  have hN : ∀ (i : Nat) o d, ops[i]? = some o → o.dst = some d → d < N := by
    intro i o d ho hdd
    have hlt : i < ops.size := (Array.getElem?_eq_some_iff.1 ho).1
    have hit : i < items.length := by rw [cl]; simpa using hlt
    have := ci i o items[i] (by simpa using ho) (List.getElem?_eq_getElem hit)
    generalize items[i] = it at this
    unfold cItem at this
    split at this
    · split at this <;> cases this
      rename_i hcond
      simp only [Bool.and_eq_true] at hcond
      have := hcond.1
      rw [hdd] at this
      simpa using this
    · cases this
  refine ⟨.normal, ⟨t', h'⟩, ⟨nm, fun G w a r F => ?_⟩, hq⟩
  rcases hd with ⟨rfl, rfl⟩ | ⟨rfl, hm, ht, rfl⟩
  · refine wp_region ?_
    rw [List.range_eq_range']
    have := chain_seq (Q := fun e' a' w' => AExit.normal.says e' ∧ a'.defers = a.defers ∧ ∃ G', Trans G w s.h G' w' h' ∧ Rel N ⟨t', h'⟩ G' w' a') hN ch G w a r.size r.t r.h F
      (fun G' w' a' T1 t1 R1 s1 d1 => ⟨trivial, d1, G', T1, ⟨s1, t1, R1⟩⟩)
    simpa using this
  · refine wp_region_any hm ?_
    obtain ⟨a1, a2, -⟩ := chain_facts ch
    rw [Nat.zero_add] at a1
    have ap : ∀ i j, i < j → j < ops.size → isAnc ops i j = false → apart (recs.getD i rec0).en (recs.getD j rec0).en := by
      intro i j hij hj hanc
      have hir : i < recs.length := by omega
      have hjr : j < recs.length := by omega
      have hii : i < items.length := by rw [cl]; simp; omega
      have hjj : j < items.length := by rw [cl]; simp; omega
      have ei : (recs.getD i rec0).en = (recs.map (·.en)).getD i ent0 := by simp [List.getD, List.getElem?_eq_getElem hir]
      have ej : (recs.getD j rec0).en = (recs.map (·.en)).getD j ent0 := by simp [List.getD, List.getElem?_eq_getElem hjr]
      have gi : (recs.getD i rec0) = recs[i] := by simp [List.getD, List.getElem?_eq_getElem hir]
      have gj : (recs.getD j rec0) = recs[j] := by simp [List.getD, List.getElem?_eq_getElem hjr]
      by_cases ti : touchy items[i].op = true
      · by_cases tj : touchy items[j].op = true
        · rw [ei, ej]
          refine pairsOk_mem hp ?_
          unfold pairsOf
          simp only [List.mem_flatMap, List.mem_range, List.mem_filterMap]
          refine ⟨j, hj, i, hij, ?_⟩
          unfold isAnc at hanc
          simp [List.getElem?_eq_getElem hii, List.getElem?_eq_getElem hjj, ti, tj]
          simpa using hanc
        · rw [gj, hen j _ _ (List.getElem?_eq_getElem hjr) (List.getElem?_eq_getElem hjj) (by simpa using tj)]
          exact (apart_ent0 _).2
      · rw [gi, hen i _ _ (List.getElem?_eq_getElem hir) (List.getElem?_eq_getElem hii) (by simpa using ti)]
        exact (apart_ent0 _).1
    let w1 : World := { w with drawn := w.drawn + 1 }
    have hz : ∀ k, (Array.replicate ops.size false).getD k false = false := by intro k; simp [Array.getElem?_replicate]; split <;> rfl
    have hz' : (fun k => (Array.replicate ops.size false).getD k false) = fun _ => false := funext hz
    have vz : ∀ {β : Type} (u : Nat → Option β) (n : Nat) (v : β), val u (fun _ => false) n v = v := by
      intro β u n v
      induction n with
      | zero => rfl
      | succ n ih => simp only [val, Bool.false_eq_true, if_false, ih]
    have R1 : RepH G s.h w1 := r.h.draw rfl rfl rfl
    have hk : ∀ t, t ∈ (HS recs s.h ops.size h'.n h'.m (fun _ => false)).toks ↔ t ∈ s.h.toks := by
      intro t; rw [mem_HS a1.symm, vz]; simp
    have ho : (HS recs s.h ops.size h'.n h'.m (fun _ => false)).objs = s.h.objs := by
      funext id; simp only [HS]; rw [vz]
    refine chain_any (N := N) (G0 := G) (w0 := w1) (a0 := a) hN (tidy_ok ht) ch ap R1 F ?_ ops.size (Array.replicate ops.size false) G w1 a (by simp) ?_ ?_ r.size rfl ?_ ?_ ?_ ?_ ?_
    · intro G' w' a' T1 t1 R1' s1 d1
      exact ⟨trivial, d1, G', (trans_draw G w w1 s.h rfl rfl rfl).trans r.h R1 T1, ⟨s1, t1, R1'⟩⟩
    · unfold count
      exact Nat.le_trans (List.length_filter_le _ _) (by simp)
    · rw [hz']; intro i o _ h; cases h
    · rw [hz']; intro d; rw [vz]; exact VRel.mono r.h (trans_draw G w w1 s.h rfl rfl rfl) _ _ (r.t d)
    · rw [hz']; exact R1.same ho fun t x => (hk t).1 x
    · rw [hz']
      exact (Trans.refl G w1 s.h).same rfl (fun _ => Iff.rfl) ho hk (Nat.le_refl _) nm.1 nm.1 (Nat.le_refl _) nm.2 nm.2
    · exact fun id x => .inl x
    · exact fun id x => .inl x

/-! ## Functions -/

def initT (args : List AV) : Tm := fun i => args.getD i .any

inductive RV where
  | tmp (d : Nat)
  | cell (d : Nat) (n : Option Nat)

def cRes (P : Program) : ResultVar → Option RV
  | .tmp t => some (.tmp t)
  | .cell a t => if (P.info? t).isSome ∧ (P.underlying t).isSome then some (.cell a (if isAggT P t then some (P.cellsOf t) else none)) else none

def cRess (P : Program) : List ResultVar → Option (List RV)
  | [] => some []
  | r :: l => match cRes P r, cRess P l with
    | some a, some m => some (a :: m)
    | _, _ => none

def rv (t : Tm) (h : H) : RV → Option AV
  | .tmp d => some (t d)
  | .cell d n => match t d with
    | .ptr id off => match h.objs id with
      | some (.cells cs) => part off n cs
      | _ => none
    | _ => none

def rvs (t : Tm) (h : H) : List RV → Option (List AV)
  | [] => some []
  | r :: l => match rv t h r, rvs t h l with
    | some a, some m => some (a :: m)
    | _, _ => none

def resOf (ds : List RV) (t : Tm) (h : H) : Option AV :=
  match rvs t h ds with
  | some [x] => some x
  | some l => some (.tup l)
  | none => none

def isEnd : AExit → Prop
  | .normal | .ret => True
  | _ => False

theorem init_rel {G : Ghost} {w : World} {n : Nat} : ∀ {args : List AV} {vs : List Value}, VRels G w args vs → TRel G w (initT args) { tmps := vs.toArray ++ Array.replicate n undef, defers := [] } := by
  intro args vs h i
  unfold initT
  by_cases hi : i < args.length
  · obtain ⟨v, h1, h2⟩ := h.get (i := i) (x := args[i]) (List.getElem?_eq_getElem hi)
    have e : ((vs.toArray ++ Array.replicate n undef).getD i undef) = v := by
      have hlt : i < vs.length := by rw [h.length]; exact hi
      rw [List.getElem?_eq_getElem hlt] at h1
      simp [Array.getElem?_append, hlt]
      exact Option.some.inj h1
    rw [e]
    simpa [List.getD, List.getElem?_eq_getElem hi] using h2
  · have : args.getD i .any = .any := by simp [List.getD, List.getElem?_eq_none (Nat.le_of_not_lt hi)]
    rw [this]; simp [VRel]

theorem rvs_run {G : Ghost} {w : World} {t : Tm} {h : H} {a : Act} (ht : TRel G w t a) (R : RepH G h w) : ∀ {l : List ResultVar} {ds : List RV} {xs : List AV}, cRess P l = some ds → rvs t h ds = some xs →
    ∃ vs, (l.mapM (fun | .tmp t => pure (a.tmps.getD t undef) | .cell b t => do loadVar t (← asAddr (a.tmps.getD b undef)) : ResultVar → Sem Value)).run P w = .ok vs w ∧ VRels G w xs vs
  | [], ds, xs, h1, h2 => by
    simp [cRess] at h1; subst h1
    simp [rvs] at h2; subst h2
    exact ⟨[], by simp, .nil⟩
  | r :: l, ds, xs, h1, h2 => by
    simp only [cRess] at h1
    split at h1
    · rename_i d ds' e1 e2
      cases h1
      simp only [rvs] at h2
      split at h2
      · rename_i x xs' e3 e4
        cases h2
        obtain ⟨vs, g1, g2⟩ := rvs_run ht R e2 e4
        cases r with
        | tmp k =>
          simp [cRes] at e1; subst e1
          simp [rv] at e3; subst e3
          refine ⟨a.tmps.getD k undef :: vs, ?_, .cons (ht k) g2⟩
          simp only [List.mapM_cons, Sem.run_bind, Sem.run_pure, Result.andThen_ok, g1]
        | cell k ty =>
          simp only [cRes] at e1
          split at e1
          · rename_i hc
            cases e1
            simp only [rv] at e3
            split at e3
            · rename_i id off hk
              split at e3
              · rename_i cs ho
                have r1 := ht k
                rw [hk] at r1
                simp only [VRel] at r1
                obtain ⟨vs0, rest0, T, fr, hg, hvs, -⟩ := obj_cells R ho
                have hcell : ∀ j v, vs0[j]? = some v → w.cell? ⟨G.ι id, j, none⟩ = some v := by
                  intro j v hj
                  have hj' : j < vs0.length := (List.getElem?_eq_some_iff.1 hj).1
                  unfold World.cell?; simp only [hg]; simpa [List.getElem?_append_left hj'] using hj
                have hl : ∃ v, (loadVar ty ⟨G.ι id, off, none⟩).run P w = .ok v w ∧ VRel G w x v := by
                  rcases part_sound hvs e3 with ⟨e, v, q1, q2⟩ | ⟨m, e, q1, q2⟩
                  · have hagg : isAggT P ty = false := by cases hh : isAggT P ty <;> simp [hh] at e ⊢
                    exact ⟨v, run_loadVar_cell P w ty _ v hc.2 hagg (hcell _ _ q1), q2⟩
                  · have hagg : isAggT P ty = true := by cases hh : isAggT P ty <;> simp [hh] at e ⊢
                    have hm : m = P.cellsOf ty := by simpa [hagg] using e.symm
                    refine ⟨_, run_loadVar_cells P w ty (G.ι id) off ((vs0.drop off).take m) hc.1 hc.2 hagg (by simp [hm] at q1 ⊢; omega) (fun j v hj => hcell _ _ (by
                      rw [List.getElem?_take] at hj
                      split at hj
                      · simpa [List.getElem?_drop] using hj
                      · cases hj)), q2⟩
                obtain ⟨v, q1, q2⟩ := hl
                refine ⟨v :: vs, ?_, .cons q2 g2⟩
                have ha : (asAddr (a.tmps.getD k undef)).run P w = .ok ⟨G.ι id, off, none⟩ w := by rw [r1.2]; rfl
                simp only [List.mapM_cons, Sem.run_bind, ha, Sem.run_pure, Result.andThen_ok, q1, g1]
              · cases e3
            · cases e3
          · cases e1
      · cases h2
    · cases h1

theorem results_run {fn : Func} {ds : List RV} {G : Ghost} {w : World} {t : Tm} {h : H} {a : Act} {x : AV} (hr : cRess P fn.results.toList = some ds) (ht : TRel G w t a) (R : RepH G h w) (hx : resOf ds t h = some x) : ∃ v, (results fn a.tmps).run P w = .ok v w ∧ VRel G w x v := by
  unfold resOf at hx
  have hxs : ∃ xs, rvs t h ds = some xs ∧ ((∃ y, xs = [y] ∧ x = y) ∨ (xs.length ≠ 1 ∧ x = .tup xs)) := by
    split at hx
    · rename_i y e; cases hx; exact ⟨_, e, .inl ⟨_, rfl, rfl⟩⟩
    · rename_i l hne e
      cases hx
      refine ⟨_, e, .inr ⟨fun hl => ?_, rfl⟩⟩
      obtain ⟨y, rfl⟩ := List.length_eq_one_iff.1 hl
      exact hne y rfl
    · cases hx
  obtain ⟨xs, e, hc⟩ := hxs
  obtain ⟨vs, g1, g2⟩ := rvs_run (P := P) ht R hr e
  have hm' : (fn.results.mapM (fun | .tmp t => pure (a.tmps.getD t undef) | .cell b t => do loadVar t (← asAddr (a.tmps.getD b undef)) : ResultVar → Sem Value)).run P w = .ok vs.toArray w := by
    rw [Array.mapM_eq_mapM_toList]
    simp only [Sem.run_map, g1, Result.andThen_ok]
  have key : (results fn a.tmps).run P w = .ok (if h : vs.toArray.size = 1 then vs.toArray[0] else .tuple vs.toArray) w := by
    unfold results
    rw [Sem.run_bind]
    exact congrArg (fun x : Result (Array Value) => x.andThen fun vs w' => (Pure.pure (if h : vs.size = 1 then vs[0] else .tuple vs) : Sem Value).run P w') hm'
  rw [key]
  have hl := g2.length
  rcases hc with ⟨y, rfl, rfl⟩ | ⟨hn, rfl⟩
  · simp only [VRels] at g2
    obtain ⟨v, us, rfl, q1, rfl⟩ := g2
    exact ⟨v, by simp, q1⟩
  · have : ¬ vs.toArray.size = 1 := by simp; omega
    rw [dif_neg this]
    refine ⟨_, rfl, ?_⟩
    simp only [VRel]
    exact ⟨vs, rfl, g2⟩

theorem acalls_of {f : FuncId} {fn : Func} {code : Code} {ac : AC} {args : List AV} {h : H} {ds : List RV} {Q : AV → H → Prop} (hf : P.funcs[f]? = some fn) (hb : fn.body = some code) (hc : cCode P fn.ntmps code = some ac) (hr : cRess P fn.results.toList = some ds) (hl : args.length ≤ fn.ntmps)
    (hw : Wp P fn.ntmps ac ⟨initT args, h⟩ fun e s' => isEnd e ∧ ∃ r, resOf ds s'.t s'.h = some r ∧ Q r s'.h) : ∃ r h', ACalls P f args h r h' ∧ Q r h' := by
  obtain ⟨e, s', run, he, r, hres, hq⟩ := hw code hc
  refine ⟨r, s'.h, ?_, hq⟩
  intro G w vs hv R F
  have hlen := hv.length
  refine calls_of_wp hf hb (wp_mono (run.2 G w _ ⟨?_, init_rel hv, R⟩ F) ?_)
  · simp; omega
  · rintro e' a' w' ⟨h1, h2, G', T, r'⟩
    obtain ⟨v, q1, q2⟩ := results_run (P := P) hr r'.t r'.h hres
    cases e <;> cases e' <;> simp only [AExit.says, isEnd] at h1 he <;>
      exact ⟨h2, v, q1, v, G', rfl, T, r'.h, q2⟩

/-- a function's code, in compact form; its results' slots -/
def FnIs (P : Program) (f : FuncId) (N : Nat) (ac : AC) (ds : List RV) : Prop := ∃ fn, P.funcs[f]? = some fn ∧ fn.ntmps = N ∧ fn.body.bind (cCode P N) = some ac ∧ cRess P fn.results.toList = some ds

theorem FnIs.acalls {f : FuncId} {ac : AC} {args : List AV} {h : H} {ds : List RV} {Q : AV → H → Prop} (hF : FnIs P f N ac ds) (hl : args.length ≤ N) (hw : Wp P N ac ⟨initT args, h⟩ fun e s' => isEnd e ∧ ∃ r, resOf ds s'.t s'.h = some r ∧ Q r s'.h) : ∃ r h', ACalls P f args h r h' ∧ Q r h' := by
  obtain ⟨fn, h1, h2, h3, h4⟩ := hF
  subst h2
  obtain ⟨code, hb, hc⟩ := Option.bind_eq_some_iff.1 h3
  exact acalls_of h1 hb hc h4 hl hw

/-- a value in which no object and no token is named -/
def VPure (x : AV) : Prop := ∀ G G' w v, G'.own = G.own → G'.lim = G.lim → VRel G w x v → VRel G' w x v

def VPures (l : List AV) : Prop := ∀ G G' w vs, G'.own = G.own → G'.lim = G.lim → VRels G w l vs → VRels G' w l vs

theorem ACalls.pure {f : FuncId} {args : List AV} {n m : Nat} {r r' : AV} {h' : H} (ha : VPures args) (hc : ACalls P f args (H0 n m) r h') (hs : VSub r r') (hp : VPure r') : ACalls P f args (H0 n m) r' (H0 n m) := by
  intro G w vs hv R F
  let G0 : Ghost := { G with dom := fun _ => False, tdom := fun _ => False }
  refine (hc G0 w vs (ha G G0 w vs rfl rfl hv) only_rep ⟨fun _ _ _ h => h, fun _ _ _ h => h⟩).mono ?_
  rintro e w' ⟨v, G', rfl, T, R', V⟩
  refine ⟨v, { G' with dom := G.dom, ι := G.ι, tdom := G.tdom, τ := G.τ }, rfl, ?_, only_rep, hp G' _ w' v rfl rfl (hs G' w' v V)⟩
  have hO : ∀ {G : Ghost} B, ¬ (H0 n m).O G B := fun B => only_O B
  have hT : ∀ {G : Ghost} B, ¬ (H0 n m).T G B := fun B ⟨t, ht, _⟩ => by simp [H0, H.only] at ht
  constructor
  · exact fun _ x => x
  · exact fun _ => .inl
  · exact fun _ _ => rfl
  · exact fun _ x => x
  · exact fun _ => .inl
  · exact fun _ _ => rfl
  · exact Nat.le_refl _
  · exact Nat.le_refl _
  · exact T.size_le
  · exact T.os
  · exact T.output
  · exact T.form
  · exact fun B hB _ _ => T.keep B hB (hO B) (hT B)
  · exact fun B hB _ => T.own_keep B hB (hO B)
  · exact fun B hB _ _ => T.lim_keep B hB (hO B) (hT B)
  · exact fun B hB x => absurd x (hT B)
  · exact fun B _ x => absurd x (hO B)
  · exact fun B _ x => absurd x (hT B)
  · exact fun j o x => by simp [H0, H.only, none'] at x
  · exact fun t x => by simp [H0, H.only] at x

theorem FnIs.pcalls {f : FuncId} {ac : AC} {args : List AV} {ds : List RV} {r : AV} (hF : FnIs P f N ac ds) (hl : args.length ≤ N) (ha : VPures args) (hp : VPure r) (hw : ∀ n m, Wp P N ac ⟨initT args, H0 n m⟩ fun e s' => isEnd e ∧ ∃ q, resOf ds s'.t s'.h = some q ∧ VSub q r) : PCalls P f args r := by
  intro n m
  obtain ⟨r', h', hcall, hs⟩ := hF.acalls (Q := fun r' _ => VSub r' r) hl (hw n m)
  exact hcall.pure ha hs hp

theorem pcalls_of {f : FuncId} {fn : Func} {code : Code} {ac : AC} {args : List AV} {ds : List RV} {r : AV} (hf : P.funcs[f]? = some fn) (hb : fn.body = some code) (hc : cCode P fn.ntmps code = some ac) (hr : cRess P fn.results.toList = some ds) (hl : args.length ≤ fn.ntmps)
    (ha : VPures args) (hp : VPure r) (hw : ∀ n m, Wp P fn.ntmps ac ⟨initT args, H0 n m⟩ fun e s' => isEnd e ∧ ∃ q, resOf ds s'.t s'.h = some q ∧ VSub q r) : PCalls P f args r := by
  intro n m
  obtain ⟨r', h', hcall, hs⟩ := acalls_of (Q := fun r' _ => VSub r' r) hf hb hc hr hl (hw n m)
  exact hcall.pure ha hs hp
end
end Go.Av
