/- For use: steps in one piece, states written as lists of slots, pure values, tables for 'simp'. -/
import Derived.Test.YtlefnohibjcekaaAvFun
import Derived.IntWalk
set_option linter.unusedVariables false
set_option linter.unusedSimpArgs false
namespace Go.Av
section
variable {P : Program} {N : Nat} {s : St} {Q : AExit → St → Prop}

theorem Wp.seqReg {items : List AItem} {p : Option (List (Nat × Nat))} {y : AC} {t' : Tm} {h' : H} {log : List Ent} (he : evalOps items s.t s.h [] = ([], t', h', log)) (hp : pairsQ p log.reverse) (h : Wp P N y ⟨t', h'⟩ Q) : Wp P N (.seq (.reg items p) y) s Q :=
  Wp.seq (Wp.reg (WpItems.eval he (WpItems.nil ⟨hp, h⟩)))
theorem Wp.reg1 {items : List AItem} {p : Option (List (Nat × Nat))} {t' : Tm} {h' : H} {log : List Ent} (he : evalOps items s.t s.h [] = ([], t', h', log)) (hp : pairsQ p log.reverse) (h : Q .normal ⟨t', h'⟩) : Wp P N (.reg items p) s Q :=
  Wp.reg (WpItems.eval he (WpItems.nil ⟨hp, h⟩))
/-- up to a call -/
theorem Wp.seqItems {items its : List AItem} {p : Option (List (Nat × Nat))} {y : AC} {t' : Tm} {h' : H} {log : List Ent} (he : evalOps items s.t s.h [] = (its, t', h', log)) (h : WpItems P N its t' h' log fun t h l => pairsQ p l ∧ Wp P N y ⟨t, h⟩ Q) : Wp P N (.seq (.reg items p) y) s Q :=
  Wp.seq (Wp.reg (WpItems.eval he h))
theorem Wp.items {items its : List AItem} {p : Option (List (Nat × Nat))} {t' : Tm} {h' : H} {log : List Ent} (he : evalOps items s.t s.h [] = (its, t', h', log)) (h : WpItems P N its t' h' log fun t h l => pairsQ p l ∧ Q .normal ⟨t, h⟩) : Wp P N (.reg items p) s Q :=
  Wp.reg (WpItems.eval he h)
/-- a state, slot by slot; of the others nothing is said -/
def tm : List (Nat × AV) → Tm
  | [] => fun _ => .any
  | (i, v) :: l => upd (tm l) i v

def AllSub (t : Tm) : List (Nat × AV) → Prop
  | [] => True
  | (i, v) :: l => VSub (t i) v ∧ AllSub t l

theorem tm_le {t : Tm} : ∀ {l : List (Nat × AV)}, AllSub t l → ∀ i, VSub (t i) (tm l i)
  | [], _, i => VSub.any _
  | (k, v) :: l, h, i => by
    simp only [tm, upd]
    split
    · rename_i e; subst e; exact h.1
    · exact tm_le h.2 i

theorem StLe.tm {t : Tm} {h : H} {l : List (Nat × AV)} (hs : AllSub t l) : StLe ⟨t, h⟩ ⟨Av.tm l, h⟩ := StLe.mk' (tm_le hs) h.sub_refl.le (Nat.le_refl _) (Nat.le_refl _)

/-- a loop over states that are written slot by slot; the objects and tokens stay -/
theorem Wp.loopT {β : Type} (S : β → List (Nat × AV)) (I : β → Prop) (μ : β → Nat) {c : AC} {h : H} {t : Tm} (b0 : β) (h0 : I b0) (hs : AllSub t (S b0))
    (round : ∀ b, I b → Wp P N c ⟨tm (S b), h⟩ (AExit.andThen (fun s' => ∃ b', I b' ∧ μ b' < μ b ∧ StLe s' ⟨tm (S b'), h⟩) Q)) : Wp P N (.loop c) ⟨t, h⟩ Q :=
  Wp.loop (fun b => ⟨tm (S b), h⟩) I μ b0 h0 (StLe.tm hs) round

/-- ways that meet again -/
theorem Wp.seqJoin {x y : AC} (S : St) (h1 : Wp P N x s (AExit.andThen (fun s' => StLe s' S) Q)) (h2 : Wp P N y S Q) : Wp P N (.seq x y) s Q := by
  refine Wp.seq (Wp.mono h1 ?_)
  intro e s' h
  cases e with
  | normal => exact Wp.le h h2
  | exit id => exact h
  | goto l => exact h
  | ret => exact h

theorem Wp.seqJoinT {x y : AC} {t : Tm} {h : H} (l : List (Nat × AV)) (h1 : Wp P N x ⟨t, h⟩ (AExit.andThen (fun s' => StLe s' ⟨tm l, h⟩) Q)) (h2 : Wp P N y ⟨tm l, h⟩ Q) : Wp P N (.seq x y) ⟨t, h⟩ Q := Wp.seqJoin _ h1 h2

theorem AllSub.append {t : Tm} : ∀ {l m : List (Nat × AV)}, AllSub t l → AllSub t m → AllSub t (l ++ m)
  | [], _, _, h => h
  | (_, _) :: _, _, h, h' => ⟨h.1, AllSub.append h.2 h'⟩
theorem AllSub.self {t : Tm} : ∀ (L : List Nat), AllSub t (L.map fun i => (i, t i))
  | [] => trivial
  | _ :: L => ⟨VSub.refl _, AllSub.self L⟩

/-- a loop: `L` are the slots that stay and are looked at, `ch` those that change -/
theorem Wp.loopK {β : Type} (L : List Nat) {K : List (Nat × AV)} {c : AC} {h : H} {t : Tm} (hK : (L.map fun i => (i, t i)) = K) (ch : β → List (Nat × AV)) (I : β → Prop) (μ : β → Nat) (b0 : β) (h0 : I b0) (hs : AllSub t (ch b0))
    (round : ∀ b, I b → Wp P N c ⟨tm (K ++ ch b), h⟩ (AExit.andThen (fun s' => ∃ b', I b' ∧ μ b' < μ b ∧ StLe s' ⟨tm (K ++ ch b'), h⟩) Q)) : Wp P N (.loop c) ⟨t, h⟩ Q :=
  Wp.loopT (fun b => K ++ ch b) I μ b0 h0 (AllSub.append (hK ▸ AllSub.self L) hs) round
/-- the same, where the objects and tokens change, too -/
theorem Wp.loopH {β : Type} (L : List Nat) {K : List (Nat × AV)} {c : AC} {h : H} {t : Tm} (hK : (L.map fun i => (i, t i)) = K) (ch : β → List (Nat × AV)) (hp : β → H) (I : β → Prop) (μ : β → Nat) (b0 : β) (h0 : I b0) (hh : h = hp b0) (hs : AllSub t (ch b0))
    (round : ∀ b, I b → Wp P N c ⟨tm (K ++ ch b), hp b⟩ (AExit.andThen (fun s' => ∃ b', I b' ∧ μ b' < μ b ∧ StLe s' ⟨tm (K ++ ch b'), hp b'⟩) Q)) : Wp P N (.loop c) ⟨t, h⟩ Q :=
  Wp.loop (fun b => ⟨tm (K ++ ch b), hp b⟩) I μ b0 h0 (hh ▸ StLe.tm (AllSub.append (hK ▸ AllSub.self L) hs)) round

theorem Wp.seqJoinK {x y : AC} {t : Tm} {h : H} (L : List Nat) {K : List (Nat × AV)} (hK : (L.map fun i => (i, t i)) = K) (ch : List (Nat × AV)) (h1 : Wp P N x ⟨t, h⟩ (AExit.andThen (fun s' => StLe s' ⟨tm (K ++ ch), h⟩) Q)) (h2 : Wp P N y ⟨tm (K ++ ch), h⟩ Q) : Wp P N (.seq x y) ⟨t, h⟩ Q := Wp.seqJoin _ h1 h2

theorem VSub.int {k : IntKind} {a b : Int} (h : a = b) : VSub (.int k a) (.int k b) := h ▸ VSub.refl _
theorem VSub.of_eq {x y : AV} (h : x = y) : VSub x y := h ▸ VSub.refl _

/-! ## Pure values -/

def capPure : Cap → Bool
  | .own _ => false
  | _ => true

mutual
def isPure : AV → Bool
  | .sl _ xs c => capPure c && allPure xs
  | .ref cs => allPure cs
  | .agg cs => allPure cs
  | .tup cs => allPure cs
  | .ptr _ _ | .tsl _ _ _ _ _ | .mp _ => false
  | .clo _ a b => allPure a && allPure b
  | .ifc _ x => isPure x
  | _ => true
def allPure : List AV → Bool
  | [] => true
  | x :: xs => isPure x && allPure xs
end

mutual
theorem isPure_ok : ∀ (x : AV), isPure x = true → VPure x
  | .any, _ => fun _ _ _ _ _ _ h => h
  | .int _ _, _ => fun _ _ _ _ _ _ h => h
  | .bool _, _ => fun _ _ _ _ _ _ h => h
  | .str _, _ => fun _ _ _ _ _ _ h => h
  | .sc _, _ => fun _ _ _ _ _ _ h => h
  | .sl sz xs c, hp => by
    simp only [isPure, Bool.and_eq_true] at hp
    intro G G' w v e1 e2 h
    simp only [VRel] at h ⊢
    rcases h with h | ⟨B, off, C, vs, h1, h2, h3, h4, h5, h6⟩
    · exact .inl h
    · refine .inr ⟨B, off, C, vs, h1, h2, h3, allPure_els xs hp.2 G G' w sz vs e1 e2 h4, fun i v hv => ?_, ?_⟩
      · rw [e1, e2]; exact h5 i v hv
      · cases c with
        | own t => simp [capPure] at hp
        | any => trivial
        | exact k => exact h6
  | .ref cs, hp => by
    simp only [isPure] at hp
    intro G G' w v e1 e2 h
    simp only [VRel] at h ⊢
    obtain ⟨B, off, vs, h1, h2, h3⟩ := h
    exact ⟨B, off, vs, h1, allPure_ok cs hp G G' w vs e1 e2 h2, fun i v hv => by rw [e1, e2]; exact h3 i v hv⟩
  | .agg cs, hp => by
    simp only [isPure] at hp
    intro G G' w v e1 e2 h
    simp only [VRel] at h ⊢
    obtain ⟨vs, h1, h2⟩ := h
    exact ⟨vs, h1, allPure_ok cs hp G G' w vs e1 e2 h2⟩
  | .tup cs, hp => by
    simp only [isPure] at hp
    intro G G' w v e1 e2 h
    simp only [VRel] at h ⊢
    obtain ⟨vs, h1, h2⟩ := h
    exact ⟨vs, h1, allPure_ok cs hp G G' w vs e1 e2 h2⟩
  | .ptr _ _, hp => by simp [isPure] at hp
  | .tsl _ _ _ _ _, hp => by simp [isPure] at hp
  | .mp _, hp => by simp [isPure] at hp
  | .clo f a b, hp => by
    simp only [isPure, Bool.and_eq_true] at hp
    intro G G' w v e1 e2 h
    simp only [VRel] at h ⊢
    obtain ⟨vs, us, h1, h2, h3⟩ := h
    exact ⟨vs, us, h1, allPure_ok a hp.1 G G' w vs e1 e2 h2, allPure_ok b hp.2 G G' w us e1 e2 h3⟩
  | .ifc t x, hp => by
    simp only [isPure] at hp
    intro G G' w v e1 e2 h
    simp only [VRel] at h ⊢
    obtain ⟨u, h1, h2⟩ := h
    exact ⟨u, h1, isPure_ok x hp G G' w u e1 e2 h2⟩
theorem allPure_ok : ∀ (l : List AV), allPure l = true → VPures l
  | [], _ => fun _ _ _ _ _ _ h => by simpa only [VRels] using h
  | x :: xs, hp => by
    simp only [allPure, Bool.and_eq_true] at hp
    intro G G' w vs e1 e2 h
    simp only [VRels] at h ⊢
    obtain ⟨v, us, h1, h2, h3⟩ := h
    exact ⟨v, us, h1, isPure_ok x hp.1 G G' w v e1 e2 h2, allPure_ok xs hp.2 G G' w us e1 e2 h3⟩
theorem allPure_els : ∀ (l : List AV), allPure l = true → ∀ (G G' : Ghost) (w : World) (sz : Nat) (vs : List Value), G'.own = G.own → G'.lim = G.lim → VElems G w sz l vs → VElems G' w sz l vs
  | [], _ => fun _ _ _ _ _ _ _ h => by simpa only [VElems] using h
  | x :: xs, hp => by
    simp only [allPure, Bool.and_eq_true] at hp
    intro G G' w sz vs e1 e2 h
    simp only [VElems] at h ⊢
    obtain ⟨v, us, h1, h2, h3, h4⟩ := h
    exact ⟨v, us, h1, h2, isPure_ok x hp.1 G G' w v e1 e2 h3, allPure_els xs hp.2 G G' w sz us e1 e2 h4⟩
end

theorem allPure_map {α : Type} {f : α → AV} (h : ∀ x, isPure (f x) = true) : ∀ l : List α, allPure (l.map f) = true
  | [] => rfl
  | x :: l => by simp [allPure, h x, allPure_map h l]
theorem allPure_replicate {x : AV} (h : isPure x = true) : ∀ n : Nat, allPure (List.replicate n x) = true
  | 0 => rfl
  | n + 1 => by simp [List.replicate_succ, allPure, h, allPure_replicate h n]
theorem allPure_append : ∀ l m : List AV, allPure (l ++ m) = (allPure l && allPure m)
  | [], m => by simp [allPure]
  | x :: l, m => by simp [allPure, allPure_append l m, Bool.and_assoc]

/-! ## Common data -/
def strs (l : List (List UInt8)) : List AV := l.map .str
def ints (l : List Int) : List AV := l.map (.int .i64)

theorem strs_pure (l : List (List UInt8)) : allPure (strs l) = true := allPure_map (fun _ => rfl) l
theorem ints_pure (l : List Int) : allPure (ints l) = true := allPure_map (fun _ => rfl) l
theorem bytes_pure (l : List UInt8) : allPure (bytesAV l) = true := allPure_map (fun _ => rfl) l
theorem strs_length (l : List (List UInt8)) : (strs l).length = l.length := by simp [strs]
theorem ints_length (l : List Int) : (ints l).length = l.length := by simp [ints]
theorem bytes_length (l : List UInt8) : (bytesAV l).length = l.length := by simp [bytesAV]
theorem strs_getD (l : List (List UInt8)) (k : Nat) (d : AV) (h : k < l.length) : (strs l).getD k d = .str (l.getD k []) := by
  simp [strs, List.getD, List.getElem?_map, List.getElem?_eq_getElem h]
theorem ints_getD (l : List Int) (k : Nat) (d : AV) (h : k < l.length) : (ints l).getD k d = .int .i64 (l.getD k 0) := by
  simp [ints, List.getD, List.getElem?_map, List.getElem?_eq_getElem h]
theorem bytes_getD (l : List UInt8) (k : Nat) (d : AV) (h : k < l.length) : (bytesAV l).getD k d = byte (l.getD k 0) := by
  simp [bytesAV, List.getD, List.getElem?_map, List.getElem?_eq_getElem h]
theorem unBytes_bytes (l : List UInt8) : unBytes (bytesAV l) = some l := by
  induction l with
  | nil => rfl
  | cons b l ih =>
    have : unBytes (List.map byte l) = some l := ih
    simp [bytesAV, unBytes, unByte, byte, this]
end

attribute [go_sem] undef evalOps guardOf aop ev putT upd initT H0 H.only none' isCell cellsOf shaped part bin binInt binStr binShift isShift unop eqB eqP eqN eqA eqCells eqCell mm mfind lookAV putEs delEs eqM slice bound capCut setAt putParts tm
  strs_length ints_length bytes_length List.getElem?_cons_zero List.getElem?_cons_succ List.getD_cons_zero List.getD_cons_succ Option.map_some Option.map_none Option.bind_some Option.bind_none List.all_cons List.all_nil Bool.and_self Bool.true_and Bool.and_true
  List.length_cons List.length_nil List.map_cons List.map_nil List.drop_succ_cons List.drop_zero List.take_succ_cons List.take_zero List.drop_nil List.take_nil Nat.zero_add Nat.add_zero List.append_nil List.nil_append List.cons_append Bool.or_false Bool.false_or Bool.or_true Bool.true_or
end Go.Av
