/- Maps with texts for keys. -/
import Derived.Test.YtlefnohibjcekaaAvSoundD
import Derived.MapKept
import Derived.Laws.Cover3
set_option linter.unusedVariables false
set_option linter.unusedSimpArgs false
namespace Go.Av
open Go.MapKept
section
variable {P : Program} {G : Ghost} {w : World} {t : Tm} {o : Oper} {h : H} {a : Act}

def txt (k : List UInt8) : Value := .string ⟨k.toArray⟩

theorem same_now (a b : List UInt8) : Instr.sameNow .string (txt a) (txt b) = some (decide (a = b)) := by
  have : ((⟨a.toArray⟩ : ByteArray) == ⟨b.toArray⟩) = decide (a = b) := by
    rw [Bool.eq_iff_iff, bytes_beq]
    simp
  simp only [txt, Instr.sameNow, this]

theorem find_now {key : List UInt8} : ∀ {es : List (AV × AV)} {en : List MapEntry} {r : Option (Nat × AV)}, mfind key es = some r → Entries G w es en →
    (r = none → ∀ i, Instr.findNow .string (txt key) en i = some none) ∧ (∀ p, r = some p → ∃ e, en[p.1]? = some e ∧ (∀ i, Instr.findNow .string (txt key) en i = some (some (i + p.1, e.val))) ∧ VRel G w p.2 e.val ∧ e.key = txt key)
  | [], en, r, hm, he => by
    simp only [Entries] at he
    subst he
    simp only [mfind, Option.some.injEq] at hm
    subst hm
    exact ⟨fun _ i => rfl, fun p hp => by cases hp⟩
  | (a, v) :: es, en, r, hm, he => by
    obtain ⟨e, rst, rfl, h1, h2, h3⟩ := he
    cases a <;> simp only [mfind] at hm <;> try (cases hm; done)
    rename_i a
    simp only [VRel] at h1
    have hk : e.key = txt a := h1
    split at hm
    · rename_i ha
      subst ha
      simp only [Option.some.injEq] at hm
      subst hm
      refine ⟨fun h => (by cases h), fun p hp => ?_⟩
      cases hp
      exact ⟨e, rfl, fun i => by simp [Instr.findNow, hk, same_now], h2, hk⟩
    · rename_i ha
      simp only [Option.map_eq_some_iff] at hm
      obtain ⟨r', hr', rfl⟩ := hm
      obtain ⟨g1, g2⟩ := find_now hr' h3
      have hf : decide (key = a) = false := decide_eq_false fun h => ha h.symm
      refine ⟨fun hn i => ?_, fun p hp => ?_⟩
      · cases r' with
        | none => simp [Instr.findNow, hk, same_now, hf, g1 rfl]
        | some q => cases hn
      · cases r' with
        | none => cases hp
        | some q =>
          simp only [Option.map_some, Option.some.injEq] at hp
          subst hp
          obtain ⟨e', q1, q2, q3, q4⟩ := g2 q rfl
          exact ⟨e', by simpa using q1, fun i => by simp [Instr.findNow, hk, same_now, hf, q2]; omega, q3, q4⟩

theorem Entries.length : ∀ {es : List (AV × AV)} {en : List MapEntry}, Entries G w es en → en.length = es.length
  | [], en, h => by simp only [Entries] at h; simp [h]
  | (k, v) :: es, en, h => by
    obtain ⟨e, r, rfl, -, -, h3⟩ := h
    simp [Entries.length h3]
theorem Entries.append : ∀ {es fs : List (AV × AV)} {en fn : List MapEntry}, Entries G w es en → Entries G w fs fn → Entries G w (es ++ fs) (en ++ fn)
  | [], fs, en, fn, h, h' => by simp only [Entries] at h; subst h; simpa using h'
  | (k, v) :: es, fs, en, fn, h, h' => by
    obtain ⟨e, r, rfl, h1, h2, h3⟩ := h
    exact ⟨e, r ++ fn, rfl, h1, h2, Entries.append h3 h'⟩
theorem Entries.set {k v : AV} {e' : MapEntry} (hk : VRel G w k e'.key) (hv : VRel G w v e'.val) : ∀ {es : List (AV × AV)} {en : List MapEntry} (j : Nat), Entries G w es en → Entries G w (es.set j (k, v)) (en.set j e')
  | [], en, j, h => by simp only [Entries] at h; subst h; cases j <;> simp [Entries]
  | (k0, v0) :: es, en, 0, h => by
    obtain ⟨e, r, rfl, h1, h2, h3⟩ := h
    exact ⟨e', r, rfl, hk, hv, h3⟩
  | (k0, v0) :: es, en, j + 1, h => by
    obtain ⟨e, r, rfl, h1, h2, h3⟩ := h
    exact ⟨e, r.set j e', rfl, h1, h2, Entries.set hk hv j h3⟩
theorem Entries.erase : ∀ {es : List (AV × AV)} {en : List MapEntry} (j : Nat), Entries G w es en → Entries G w (es.eraseIdx j) (en.eraseIdx j)
  | [], en, j, h => by simp only [Entries] at h; subst h; simp [Entries]
  | (k0, v0) :: es, en, 0, h => by
    obtain ⟨e, r, rfl, h1, h2, h3⟩ := h
    exact h3
  | (k0, v0) :: es, en, j + 1, h => by
    obtain ⟨e, r, rfl, h1, h2, h3⟩ := h
    exact ⟨e, r.eraseIdx j, rfl, h1, h2, Entries.erase j h3⟩

theorem obj_map {id n m : Nat} {es : List (AV × AV)} (R : RepH G (.only (upd none' id (some (.map es))) [] n m) w) : ∃ en ck, w.heap[G.ι id]? = some (.map en ck) ∧ Entries G w es en.toList := by
  obtain ⟨en, ck, h1, h2⟩ := (R.obj id (.map es) (by simp [H.only, upd])).2.2.2
  exact ⟨en, ck, h1, h2⟩

theorem set_map {id n m : Nat} {es es' : List (AV × AV)} {en en' : Array MapEntry} {ck ck' : Nat} (R : RepH G (.only (upd none' id (some (.map es))) [] n m) w) (hg : w.heap[G.ι id]? = some (.map en ck)) (he : Entries G w es' en'.toList) :
    Trans G w (.only (upd none' id (some (.map es))) [] n m) G { w with heap := w.heap.setIfInBounds (G.ι id) (.map en' ck') } (.only (upd none' id (some (.map es'))) [] n m) ∧ RepH G (.only (upd none' id (some (.map es'))) [] n m) { w with heap := w.heap.setIfInBounds (G.ι id) (.map en' ck') } := by
  have hobj : ∀ {c : List (AV × AV)} {j o}, (H.only (upd none' id (some (.map c))) [] n m).objs j = some o → j = id ∧ o = .map c := by
    intro c j o ho
    simp only [H.only, upd, none'] at ho
    split at ho
    · cases ho; exact ⟨‹_›, rfl⟩
    · cases ho
  have hme : ∀ {c : List (AV × AV)}, (H.only (upd none' id (some (.map c))) [] n m).objs id = some (.map c) := by intro c; simp [H.only, upd]
  obtain ⟨d1, d2, d3, -⟩ := R.obj id _ hme
  obtain ⟨hs1, hs2⟩ := heap_set (o' := Go.Obj.map en' ck') hg
  have T1 : Trans G w (.only (upd none' id (some (.map es))) [] n m) G { w with heap := w.heap.setIfInBounds (G.ι id) (.map en' ck') } (.only (upd none' id (some (.map es'))) [] n m) := by
    constructor
    · exact fun _ x => x
    · exact fun _ => .inl
    · exact fun _ _ => rfl
    · exact fun _ x => x
    · exact fun _ => .inl
    · exact fun _ _ => rfl
    · exact Nat.le_refl _
    · exact Nat.le_refl _
    · simp
    · rfl
    · rfl
    · intro B hB
      by_cases hBi : B = G.ι id
      · subst hBi
        rw [hg]
        exact ⟨_, _, hs1⟩
      · show SameForm _ (w.heap.setIfInBounds (G.ι id) (.map en' ck'))[B]?
        rw [hs2 B hBi]; exact SameForm.refl _
    · intro B hB hO _
      exact hs2 B fun e => hO ⟨id, _, hme, e.symm⟩
    · exact fun _ _ _ => Iff.rfl
    · exact fun _ _ _ _ => rfl
    · rintro B hB ⟨t, ht, _⟩; simp [H.only] at ht
    · rintro B hB ⟨j, o, ho, e⟩
      obtain ⟨rfl, rfl⟩ := hobj ho
      exact ⟨_, _, hme, e⟩
    · rintro B hB ⟨t, ht, _⟩; simp [H.only] at ht
    · intro j o ho
      obtain ⟨rfl, rfl⟩ := hobj ho
      exact .inl ⟨_, hme⟩
    · intro t ht; simp [H.only] at ht
  refine ⟨T1, ?_, ?_, ?_, ?_⟩
  · intro j o ho
    obtain ⟨rfl, rfl⟩ := hobj ho
    exact ⟨d1, d2, by simpa using d3, en', ck', hs1, Entries.mono R T1 _ _ he⟩
  · intro j j' o o' ho ho' _
    rw [(hobj ho).1, (hobj ho').1]
  · intro t ht; simp [H.only] at ht
  · intro t ht; simp [H.only] at ht

theorem new_map {w' : World} {n m : Nat} (hp : Pushed w w' (.map #[] 0)) (hf : ¬ G.dom n) :
    ∃ G', Trans G w (.only none' [] n m) G' w' (.only (upd none' n (some (.map []))) [] (n + 1) m) ∧ RepH G' (.only (upd none' n (some (.map []))) [] (n + 1) m) w' ∧ VRel G' w' (.mp n) (.map (some w.heap.size)) := by
  let G' : Ghost := { G with dom := fun id => G.dom id ∨ id = n, ι := upd G.ι n w.heap.size, own := fun B => if B = w.heap.size then True else G.own B }
  have hi : G'.ι n = w.heap.size := by simp [G', upd]
  have hO : ∀ B, ¬ (H.only none' [] n m).O G B := fun B ⟨id, o, ho, _⟩ => by simp [H.only, none'] at ho
  have hT : ∀ B, ¬ (H.only none' [] n m).T G B := fun B ⟨t, ht, _⟩ => by simp [H.only] at ht
  have hobj : ∀ {id o}, (H.only (upd none' n (some (.map []))) [] (n + 1) m).objs id = some o → id = n ∧ o = .map [] := by
    intro id o ho
    simp only [H.only, upd, none'] at ho
    split at ho
    · cases ho; exact ⟨‹_›, rfl⟩
    · cases ho
  have T : Trans G w (.only none' [] n m) G' w' (.only (upd none' n (some (.map []))) [] (n + 1) m) := by
    refine trans_push hp hO (fun B ht => absurd ht (hT B)) (fun _ => .inl) ?_ ?_ (fun _ x => x) (fun _ => .inl) (fun _ _ => rfl) (by simp [H.only]) (by simp [H.only]) ?_ (fun _ _ => rfl) ?_ ?_ ?_ ?_
    · rintro id (x | rfl)
      · exact .inl x
      · exact .inr ⟨by simp [H.only], by simp [H.only]⟩
    · intro id hd
      simp only [G', upd]
      split
      · rename_i e; subst e; exact absurd hd hf
      · rfl
    · intro B hB
      simp only [G']
      rw [if_neg (by omega)]
    · rintro B hB ⟨id, o, ho, e⟩
      obtain ⟨rfl, rfl⟩ := hobj ho
      rw [hi] at e; omega
    · rintro B hB ⟨t, ht, _⟩
      simp [H.only] at ht
    · intro j o ho
      obtain ⟨rfl, rfl⟩ := hobj ho
      exact .inr ⟨by simp [H.only], by simp [H.only]⟩
    · intro t ht; simp [H.only] at ht
  refine ⟨G', T, ⟨?_, ?_, ?_, ?_⟩, ?_⟩
  · intro id o ho
    obtain ⟨rfl, rfl⟩ := hobj ho
    refine ⟨.inr rfl, by rw [hi]; simp [G'], by rw [hi, hp.size]; omega, ?_⟩
    rw [hi, hp.new]
    exact ⟨#[], 0, rfl, rfl⟩
  · intro id id' o o' ho ho' _
    rw [(hobj ho).1, (hobj ho').1]
  · intro t ht; simp [H.only] at ht
  · intro t ht; simp [H.only] at ht
  · simp only [VRel]
    exact ⟨.inr rfl, by rw [hi]⟩

theorem mkmap_loc {T kt et : TypeId} {r : Option Operand} (hop : o.op = .makeMap T r) (hT : P.underlying T = some (.map kt et)) (hr : r = none ∨ ∃ k n, r = some (.const (.int k n))) :
    Loc P o t h (.mp h.n) { h with objs := upd h.objs h.n (some (.map [])), n := h.n + 1 } ⟨[], [h.n], []⟩ := by
  refine ⟨_, _, touch_new h _, fun G w a ht R F => ?_⟩
  obtain ⟨G', T1, R1, V⟩ := new_map (m := h.m) (pushed_alloc w (.map #[] 0)) (fresh_n F (by simp [H.only]))
  refine ⟨.value (.map (some w.heap.size)), _, _, G', ?_, .inl rfl, T1, R1, V⟩
  rcases hr with rfl | ⟨k, n, rfl⟩
  · simp [execOp, hop, Instr.makeMap]
  · simp [execOp, hop, Instr.makeMap, run_underlying hT, asInt, asIntOf, Act.eval]

theorem mlook_loc {T kt et : TypeId} {z1 z2 : Operand} {y1 y2 : Opd} {ok : Bool} {z : Value} {zz : AV} {id : Nat} {k : List UInt8} {es : List (AV × AV)} {r : Option (Nat × AV)} (hop : o.op = .lookup T z1 z2 ok) (hT : P.underlying T = some (.map kt et)) (hk : P.underlying kt = some .string) (hz : (P.info? et).bind (·.zero) = some z) (hzz : constAV P et z = some zz)
    (h1 : opd P T z1 = some y1) (h2 : opd P kt z2 = some y2) (hx : ev t y1 = .mp id) (hy : ev t y2 = .str k) (ho : h.objs id = some (.map es)) (hm : mfind k es = some r) :
    Loc P o t h (lookAV zz ok r) h ⟨[id], [], []⟩ := by
  refine ⟨_, _, touch_read h ho, fun G w a ht R F => ?_⟩
  have r1 := opd_rel h1 ht
  have r2 := opd_rel h2 ht
  rw [hx] at r1
  rw [hy] at r2
  simp only [VRel] at r1 r2
  have r2 : a.eval z2 = txt k := r2
  obtain ⟨en, ck, hg, he⟩ := obj_map R
  obtain ⟨f1, f2⟩ := find_now hm he
  obtain ⟨i, hi, hzi⟩ := Option.bind_eq_some_iff.1 hz
  have hzr : (zeroValue et).run P w = .ok z w := by simp [zeroValue, typeInfo, hi, hzi]
  have hck := run_checkKey (w := w) hk (k := txt k) trivial en.isEmpty 9999
  have rz : VRel G w zz z := const_rel hzz
  cases r with
  | none =>
    have hf := run_findKey (w := w) hk (f1 rfl 0)
    refine ⟨.value (if ok then .tuple #[z, .bool false] else z), _, w, G, ?_, .inl rfl, Trans.refl _ _ _, R, ?_⟩
    · cases ok <;> simp [execOp, hop, Instr.lookup, r1, r2, run_underlying hT, Go.MapKept.run_getObj_map hg, hck, hf, hzr]
    · cases ok
      · simpa [lookAV] using rz
      · simp only [lookAV, if_true, VRel]
        exact ⟨[z, .bool false], rfl, VRels.cons rz (VRels.cons (by simp [VRel]) VRels.nil)⟩
  | some p =>
    obtain ⟨e, g1, g2, g3, g4⟩ := f2 p rfl
    have hf := run_findKey (w := w) hk (g2 0)
    refine ⟨.value (if ok then .tuple #[e.val, .bool true] else e.val), _, w, G, ?_, .inl rfl, Trans.refl _ _ _, R, ?_⟩
    · cases ok <;> simp [execOp, hop, Instr.lookup, r1, r2, run_underlying hT, Go.MapKept.run_getObj_map hg, hck, hf]
    · cases ok
      · simpa [lookAV] using g3
      · simp only [lookAV, if_true, VRel]
        exact ⟨[e.val, .bool true], rfl, VRels.cons g3 (VRels.cons (by simp [VRel]) VRels.nil)⟩

theorem mlookn_plain {T kt et : TypeId} {z1 z2 : Operand} {y1 y2 : Opd} {ok : Bool} {z : Value} {zz : AV} {k : List UInt8} (hop : o.op = .lookup T z1 z2 ok) (hT : P.underlying T = some (.map kt et)) (hk : P.underlying kt = some .string) (hz : (P.info? et).bind (·.zero) = some z) (hzz : constAV P et z = some zz)
    (h1 : opd P T z1 = some y1) (h2 : opd P kt z2 = some y2) (ht : TRel G w t a) (hx : ev t y1 = .sc (.map none)) (hy : ev t y2 = .str k) : Plain P G w a o (lookAV zz ok none) := by
  have r1 := opd_rel h1 ht
  have r2 := opd_rel h2 ht
  rw [hx] at r1
  rw [hy] at r2
  simp only [VRel] at r1 r2
  have r2 : a.eval z2 = txt k := r2
  obtain ⟨i, hi, hzi⟩ := Option.bind_eq_some_iff.1 hz
  have hzr : (zeroValue et).run P w = .ok z w := by simp [zeroValue, typeInfo, hi, hzi]
  have hck := run_checkKey (w := w) hk (k := txt k) trivial true 9999
  have hf := run_findKey (w := w) (l := []) (k := txt k) hk (a := none) rfl
  have rz : VRel G w zz z := const_rel hzz
  refine ⟨if ok then .tuple #[z, .bool false] else z, ?_, ?_⟩
  · cases ok <;> simp [execOp, hop, Instr.lookup, r1, r2, run_underlying hT, hck, hf, hzr]
  · cases ok
    · simpa [lookAV] using rz
    · simp only [lookAV, if_true, VRel]
      exact ⟨[z, .bool false], rfl, VRels.cons rz (VRels.cons (by simp [VRel]) VRels.nil)⟩

theorem toList_modify (en : Array MapEntry) (j : Nat) (f : MapEntry → MapEntry) {e : MapEntry} (h : en.toList[j]? = some e) : (en.modify j f).toList = en.toList.set j (f e) := by
  apply List.ext_getElem?
  intro i
  rw [List.getElem?_set, Array.getElem?_toList, Array.getElem?_modify]
  by_cases hij : j = i
  · subst hij
    have h' : en[j]? = some e := by simpa using h
    obtain ⟨hlt, he⟩ := Array.getElem?_eq_some_iff.1 h'
    simp [h', hlt, he]
  · simp [hij]

theorem mput_loc {T kt et : TypeId} {z1 z2 z3 : Operand} {y1 y2 y3 : Opd} {id : Nat} {k : List UInt8} {es : List (AV × AV)} {r : Option (Nat × AV)} (hop : o.op = .mapUpdate T z1 z2 z3 ∨ o.op = .insert T z1 z2 z3) (hT : P.underlying T = some (.map kt et)) (hk : P.underlying kt = some .string)
    (h1 : opd P T z1 = some y1) (h2 : opd P kt z2 = some y2) (h3 : opd P et z3 = some y3) (hx : ev t y1 = .mp id) (hy : ev t y2 = .str k) (ho : h.objs id = some (.map es)) (hm : mfind k es = some r) :
    Loc P o t h .any { h with objs := upd h.objs id (some (.map (putEs es k (ev t y3) r))) } ⟨[], [id], []⟩ := by
  refine ⟨_, _, touch_write h ho, fun G w a ht R F => ?_⟩
  have r1 := opd_rel h1 ht
  have r2 := opd_rel h2 ht
  have r3 := opd_rel h3 ht
  rw [hx] at r1
  rw [hy] at r2
  have r2' := r2
  simp only [VRel] at r1 r2
  have r2 : a.eval z2 = txt k := r2
  obtain ⟨en, ck, hg, he⟩ := obj_map R
  obtain ⟨f1, f2⟩ := find_now hm he
  have hck := run_checkKey (w := w) hk (k := txt k) trivial false 9999
  have hop' : (execOp a.eval o).run P w = ((Instr.mapUpdate T (a.eval z1) (a.eval z2) (a.eval z3)).run P w).andThen fun _ w' => .ok .skip w' := by
    rcases hop with hop | hop <;> simp [execOp, hop]
  cases r with
  | none =>
    have hf := run_findKey (w := w) hk (f1 rfl 0)
    obtain ⟨T1, R1⟩ := set_map (ck' := ck + 1) (en' := en.push { key := txt k, val := a.eval z3, born := ck }) R hg (es' := es ++ [(.str k, ev t y3)]) (by
      rw [Array.toList_push]
      exact Entries.append he ⟨_, [], rfl, by simp [VRel, txt], r3, rfl⟩)
    refine ⟨.skip, undef, _, G, ?_, .inr ⟨rfl, rfl⟩, T1, R1, by simp [VRel]⟩
    rw [hop']
    simp [Instr.mapUpdate, r1, r2, run_underlying hT, Go.MapKept.run_getObj_map hg, hck, hf, Go.MapKept.run_setObj_map _ hg]
  | some p =>
    obtain ⟨e, g1, g2, g3, g4⟩ := f2 p rfl
    have hf := run_findKey (w := w) hk (g2 0)
    have hst := run_keyThatStays (P := P) (w := w) (d := .string) (k := txt k) trivial
    have g1' : en[p.1]? = some e := by simpa using g1
    obtain ⟨T1, R1⟩ := set_map (ck' := ck) (en' := en.modify p.1 fun e => { e with key := txt k, val := a.eval z3 }) R hg (es' := es.set p.1 (.str k, ev t y3)) (by
      rw [toList_modify _ _ _ g1]
      exact Entries.set (by simp [VRel, txt]) r3 _ he)
    refine ⟨.skip, undef, _, G, ?_, .inr ⟨rfl, rfl⟩, T1, R1, by simp [VRel]⟩
    rw [hop']
    simp [Instr.mapUpdate, r1, r2, run_underlying hT, Go.MapKept.run_getObj_map hg, hck, hf, Go.MapKept.run_setObj_map _ hg, g1', g4, hst]

theorem mdel_loc {c : Call} {T kt et : TypeId} {z1 z2 : Operand} {ts : List TypeId} {y1 y2 : Opd} {id : Nat} {k : List UInt8} {es : List (AV × AV)} {r : Option (Nat × AV)} (hop : o.op = .call c) (hc : c.callee = .builtin .delete) (ha : c.args.toList = [z1, z2]) (hta : c.argTypes.toList = T :: ts) (hT : P.underlying T = some (.map kt et)) (hk : P.underlying kt = some .string)
    (h1 : opd P T z1 = some y1) (h2 : opd P kt z2 = some y2) (hx : ev t y1 = .mp id) (hy : ev t y2 = .str k) (ho : h.objs id = some (.map es)) (hm : mfind k es = some r) :
    Loc P o t h .any { h with objs := upd h.objs id (some (.map (delEs es r))) } ⟨[], [id], []⟩ := by
  have ha' : c.args = #[z1, z2] := by rw [← Array.toArray_toList (xs := c.args), ha]
  have hta' : c.argTypes = (T :: ts).toArray := by rw [← Array.toArray_toList (xs := c.argTypes), hta]
  refine ⟨_, _, touch_write h ho, fun G w a ht R F => ?_⟩
  have r1 := opd_rel h1 ht
  have r2 := opd_rel h2 ht
  rw [hx] at r1
  rw [hy] at r2
  simp only [VRel] at r1 r2
  have r2 : a.eval z2 = txt k := r2
  obtain ⟨en, ck, hg, he⟩ := obj_map R
  obtain ⟨f1, f2⟩ := find_now hm he
  have hck := run_checkKey (w := w) hk (k := txt k) trivial en.isEmpty 9999
  cases r with
  | none =>
    have hf := run_findKey (w := w) hk (f1 rfl 0)
    obtain ⟨T1, R1⟩ := set_map (ck' := ck) (en' := en) R hg (es' := es) he
    refine ⟨.value (.tuple #[]), _, _, G, ?_, .inl rfl, T1, R1, by simp [VRel]⟩
    simp [execOp, hop, resolve, hc, ha', hta', invoke, builtin, Builtin.delete_, r1, r2, run_underlying hT, Go.MapKept.run_getObj_map hg, hck, hf, Go.MapKept.run_setObj_map _ hg]
  | some p =>
    obtain ⟨e, g1, g2, g3, g4⟩ := f2 p rfl
    have hf := run_findKey (w := w) hk (g2 0)
    have hlt : p.1 < en.size := by
      have := (List.getElem?_eq_some_iff.1 g1).1
      simpa using this
    obtain ⟨T1, R1⟩ := set_map (ck' := ck) (en' := en.eraseIdxIfInBounds p.1) R hg (es' := es.eraseIdx p.1) (by
      have : (en.eraseIdxIfInBounds p.1).toList = en.toList.eraseIdx p.1 := by
        unfold Array.eraseIdxIfInBounds
        rw [dif_pos hlt, Array.toList_eraseIdx]
      rw [this]
      exact Entries.erase _ he)
    refine ⟨.value (.tuple #[]), _, _, G, ?_, .inl rfl, T1, R1, by simp [VRel]⟩
    simp [execOp, hop, resolve, hc, ha', hta', invoke, builtin, Builtin.delete_, r1, r2, run_underlying hT, Go.MapKept.run_getObj_map hg, hck, hf, Go.MapKept.run_setObj_map _ hg]

theorem mlen_loc {c : Call} {T kt et : TypeId} {z1 : Operand} {y1 : Opd} {id : Nat} {es : List (AV × AV)} (hop : o.op = .call c) (hc : c.callee = .builtin .len) (ha : c.args.toList = [z1]) (hta : c.argTypes.toList = [T]) (hT : P.underlying T = some (.map kt et))
    (h1 : opd P T z1 = some y1) (hx : ev t y1 = .mp id) (ho : h.objs id = some (.map es)) : Loc P o t h (.int .i64 es.length) h ⟨[id], [], []⟩ := by
  have ha' : c.args = #[z1] := by rw [← Array.toArray_toList (xs := c.args), ha]
  have hta' : c.argTypes = #[T] := by rw [← Array.toArray_toList (xs := c.argTypes), hta]
  refine ⟨_, _, touch_read h ho, fun G w a ht R F => ?_⟩
  have r1 := opd_rel h1 ht
  rw [hx] at r1
  simp only [VRel] at r1
  obtain ⟨en, ck, hg, he⟩ := obj_map R
  have hl : en.size = es.length := by have := Entries.length he; simpa using this
  refine ⟨.value (.int .i64 es.length), _, w, G, ?_, .inl rfl, Trans.refl _ _ _, R, by simp [VRel]⟩
  simp [execOp, hop, resolve, hc, ha', hta', invoke, builtin, Builtin.len_, run_underlying hT, r1, Go.MapKept.run_getObj_map hg, goInt, hl]

theorem mlenn_plain {c : Call} {T kt et : TypeId} {z1 : Operand} {y1 : Opd} (hop : o.op = .call c) (hc : c.callee = .builtin .len) (ha : c.args.toList = [z1]) (hta : c.argTypes.toList = [T]) (hT : P.underlying T = some (.map kt et))
    (h1 : opd P T z1 = some y1) (ht : TRel G w t a) (hx : ev t y1 = .sc (.map none)) : Plain P G w a o (.int .i64 0) := by
  have ha' : c.args = #[z1] := by rw [← Array.toArray_toList (xs := c.args), ha]
  have hta' : c.argTypes = #[T] := by rw [← Array.toArray_toList (xs := c.argTypes), hta]
  have r1 := opd_rel h1 ht
  rw [hx] at r1
  simp only [VRel] at r1
  exact ⟨.int .i64 0, by simp [execOp, hop, resolve, hc, ha', hta', invoke, builtin, Builtin.len_, run_underlying hT, r1, goInt], by simp [VRel]⟩

theorem eqM_plain {op : BinOp} {neg : Bool} {xT yT kt et : TypeId} {x y : Operand} {b : Opd} {z : AV} (hop : o.op = .binOp op xT x y yT) (hT : P.underlying xT = some (.map kt et)) (hy : y = .const (.map none))
    (hn : op = .eql ∧ neg = false ∨ op = .neq ∧ neg = true) (h1 : opd P xT x = some b)
    (ht : TRel G w t a) (hz : eqM neg (ev t b) = some z) : Plain P G w a o z := by
  have r1 := opd_rel h1 ht
  generalize ev t b = X at *
  unfold Plain
  subst hy
  simp only [execOp, hop]
  have he : a.eval (.const (.map none)) = .map none := rfl
  rw [he]
  generalize hx : a.eval x = vx at *
  have run : ∀ q : Option Nat, (binOp .eql xT (.map q) (.map none)).run P w = .ok (.bool q.isNone) w ∧ (binOp .neq xT (.map q) (.map none)).run P w = .ok (.bool (!q.isNone)) w := by
    intro q
    have hq := run_equalIn_map_nil w 9999 xT kt et q hT
    constructor
    · simp only [binOp]; simp [Op.equal, Op.maxDepth, hq]
    · simp only [binOp]; simp [Op.equal, Op.maxDepth, hq]
  unfold eqM at hz
  split at hz
  · cases hz
    simp only [VRel] at r1
    obtain ⟨-, rfl⟩ := r1
    rcases hn with ⟨rfl, rfl⟩ | ⟨rfl, rfl⟩ <;> simp [eqGuard, (run _).1, (run _).2, VRel]
  · cases hz
    simp only [VRel] at r1
    subst r1
    rcases hn with ⟨rfl, rfl⟩ | ⟨rfl, rfl⟩ <;> simp [eqGuard, (run _).1, (run _).2, VRel]
  · cases hz
end
end Go.Av
