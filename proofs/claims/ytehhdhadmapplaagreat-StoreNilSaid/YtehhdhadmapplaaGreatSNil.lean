/- StoreNil: the statement 'StoreNilSaid', closed by the law that the walk shows. No condition. -/
import Derived.Deep.CondSized
import Derived.Defers
import Derived.IntWalk
import Derived.KernelRfl
import Derived.Laws.Append
import Derived.Laws.AppendOwn
import Derived.Laws.BytesArg
import Derived.Laws.ComplexArith
import Derived.Laws.Cover3
import Derived.Laws.Entries
import Derived.Laws.IdiomCopy
import Derived.Laws.IdiomStrings
import Derived.Laws.Pointers
import Derived.Laws.Small
import Derived.Laws.Strings
import Derived.Laws.StructEq
import Derived.MapKept
import Derived.OpenShut
import Derived.Orders
import Derived.OrdersIn
import Derived.ProofKit
import Derived.RangeFuncRecord
import Derived.RangeFuncSeq
import Derived.ReadAgain
import Derived.Recover
import Derived.Scope
import Derived.Shelf.Slices.Cells
import Derived.Shelf.Slices.Clone
import Derived.Shelf.Slices.Delete
import Derived.Shelf.Spec.SlicesInsertGrow
import Derived.SizedLaws
import Derived.Tactics
import Derived.Tactics2
import Derived.Test.YtehhdhadmapplaaGreatProg
import Derived.Test.YtehhdhadmapplaaGreatRows
import Derived.WalkSmall
import Derived.Test.YtehhdhadmapplaaGreatSNilD
section
set_option linter.unusedVariables false
set_option linter.unusedSimpArgs false
namespace Go.Av
section
variable {P : Program} {N : Nat} {ops : Array Oper}
def FRun (P : Program) (ops : Array Oper) (i : Nat) (o : Oper) (t : Tm) (h : H) (x : AV) (h' : H) : Prop :=
  (h.n ≤ h'.n ∧ h.m ≤ h'.m) ∧ ∀ G w a, TRel G w t a → RepH G h w → Fresh G h h' → ∀ (K : Act → World → Prop) Q,
    (∀ G' w' v, Trans G w h G' w' h' → RepH G' h' w' → VRel G' w' x v → K (a.put o.dst v) w') → ∀ ro, wpOpIn (rd ro) 0 P ops Q i K a w
theorem FRun.of {i : Nat} {o : Oper} {t : Tm} {h h1 h1' h' : H} {x : AV} {en : Ent} (tc : Touch h h1 h1' h' en) (run : ItRun P ops i o t h1 x h1') : FRun P ops i o t h x h' := by
  have e3 : h'.n = h1'.n := by rw [tc.eq]; rfl
  have e4 : h'.m = h1'.m := by rw [tc.eq]; rfl
  have e1 := tc.n
  have e2 := tc.m
  have l1 := tc.le
  have l2 := tc.lem
  refine ⟨⟨by omega, by omega⟩, fun G w a ht R U K Q hK ro => ?_⟩
  have F : Fresh G h1 h1' := U.sub (by omega) (by omega) (by omega) (by omega)
  refine run G w a (fun k _ => ht k) (R.sub tc.sub) F _ Q (fun G' w' v T1 R1 V => ?_) ro
  obtain ⟨R2, T2⟩ := frame R tc.sub tc.n tc.m R1 T1 F
  rw [← tc.eq] at R2 T2
  exact hK G' w' v T2 R2 V
theorem FRun.full {i : Nat} {o : Oper} {t : Tm} {h h' : H} {x : AV} (hn : h.n ≤ h'.n ∧ h.m ≤ h'.m) (run : ItRun P ops i o t h x h') : FRun P ops i o t h x h' :=
  ⟨hn, fun G w a ht R U K Q hK ro => run G w a (fun k _ => ht k) R U K Q hK ro⟩
inductive SChain (P : Program) (ops : Array Oper) : Nat → Tm → H → Tm → H → Prop where
  | nil {i : Nat} {t : Tm} {h : H} (hi : i = ops.size) : SChain P ops i t h t h
  | cons {i : Nat} {o : Oper} {t t' : Tm} {h h2 h' : H} {x : AV} (ho : ops[i]? = some o) (run : FRun P ops i o t h x h2) (rest : SChain P ops (i + 1) (putT t o.dst x) h2 t' h') : SChain P ops i t h t' h'
theorem SChain.nm {i : Nat} {t t' : Tm} {h h' : H} (c : SChain P ops i t h t' h') : h.n ≤ h'.n ∧ h.m ≤ h'.m := by
  induction c with
  | nil _ => exact ⟨Nat.le_refl _, Nat.le_refl _⟩
  | cons ho run rest ih => have := run.1; omega
theorem schain_seq (ro : Option Nat) {Q : Exit → Act → World → Prop} (hN : ∀ (i : Nat) o d, ops[i]? = some o → o.dst = some d → d < N) : ∀ {i : Nat} {t t' : Tm} {h h' : H}, SChain P ops i t h t' h' →
    ∀ (G : Ghost) (w : World) (a : Act), a.tmps.size = N → TRel G w t a → RepH G h w → Fresh G h h' →
      (∀ G' w' a', Trans G w h G' w' h' → TRel G' w' t' a' → RepH G' h' w' → a'.tmps.size = N → a'.defers = a.defers → Q .normal a' w') → wpOpsIn (rd ro) 0 P ops Q (List.range' i (ops.size - i)) a w := by
  intro i t t' h h' hc
  induction hc with
  | nil hi =>
    intro G w a hs ht R U hq
    subst hi
    simp only [Nat.sub_self, List.range'_zero, wpOpsIn]
    exact hq G w a (Trans.refl _ _ _) ht R hs rfl
  | @cons i o t t' h h2 h' x ho run rest ih =>
    intro G w a hs ht R U hq
    have hi : i < ops.size := (Array.getElem?_eq_some_iff.1 ho).1
    have : ops.size - i = (ops.size - (i + 1)) + 1 := by omega
    rw [this, List.range'_succ, wpOpsIn_cons]
    have nm := rest.nm
    have nm2 := run.1
    refine run.2 G w a ht R (U.sub (Nat.le_refl _) nm.1 (Nat.le_refl _) nm.2) _ Q (fun G' w' v T2 R2 V => ?_) ro
    refine ih G' w' _ (by rw [put_size]; exact hs) (put_rel (ht.mono R T2) V fun k hk => by rw [hs]; exact hN i o k ho hk) R2 (U.step T2) fun G'' w'' a'' T3 h1 h2 h3 h4 => ?_
    exact hq G'' w'' a'' (T2.trans R R2 T3) h1 h2 h3 (h4.trans (put_defers _ _ _))
def WpItemsF (P : Program) (N : Nat) (items : List AItem) (t : Tm) (h : H) (K : Tm → H → Prop) : Prop :=
  ∀ ops i, i ≤ ops.size → cItems P N ops (ops.toList.drop i) = some items → ∃ t' h', SChain P ops i t h t' h' ∧ K t' h'
theorem WpItemsF.nil {t : Tm} {h : H} {K : Tm → H → Prop} (hk : K t h) : WpItemsF P N [] t h K := by
  intro ops i hi hc
  have : i = ops.size := by
    cases hd : ops.toList.drop i with
    | nil => have := List.drop_eq_nil_iff.1 hd; simp at this; omega
    | cons a l => rw [hd] at hc; simp only [cItems] at hc; split at hc <;> cases hc
  exact ⟨t, h, .nil this, hk⟩
theorem cItem_dst {it : AItem} {o : Oper} (hit : cItem P N ops o = some it) : it.dst = o.dst := by
  unfold cItem at hit
  split at hit
  · split at hit <;> cases hit; rfl
  · cases hit
theorem WpItemsF.step {it : AItem} {its : List AItem} {t : Tm} {h h' : H} {x : AV} {K : Tm → H → Prop}
    (run : ∀ (ops : Array Oper) i o, ops[i]? = some o → cItem P N ops o = some it → FRun P ops i o t h x h') (rest : WpItemsF P N its (putT t it.dst x) h' K) : WpItemsF P N (it :: its) t h K := by
  intro ops i hi hc
  obtain ⟨o, ho, hit, hi', hc'⟩ := items_cons hi hc
  obtain ⟨t', hh', ch, hk⟩ := rest ops (i + 1) hi' hc'
  exact ⟨t', hh', .cons ho (run ops i o ho hit) (by rw [← cItem_dst hit]; exact ch), hk⟩
theorem Wp.regF {items : List AItem} {s : St} {Q : AExit → St → Prop} (h : WpItemsF P N items s.t s.h fun t' h' => Q .normal ⟨t', h'⟩) : Wp P N (.reg items none) s Q := by
  intro code hc
  obtain ⟨id, ops, draw, rfl, hi, hd⟩ := code_reg hc
  obtain ⟨t', h', ch, hq⟩ := h ops 0 (Nat.zero_le _) (by simpa using hi)
  have nm := ch.nm
  obtain ⟨cl, ci⟩ := cItems_len hi
  have hN : ∀ (i : Nat) o d, ops[i]? = some o → o.dst = some d → d < N := by
    intro i o d ho hdd
    have hlt : i < ops.size := (Array.getElem?_eq_some_iff.1 ho).1
    have hit : i < items.length := by rw [cl]; simpa using hlt
    have := ci i o items[i] (by simpa using ho) (List.getElem?_eq_getElem hit)
    generalize items[i] = it at this
    unfold cItem at this
    split at this
    · split at this <;> cases this
      rename_i hcond
      simp only [Bool.and_eq_true] at hcond
      have := hcond.1
      rw [hdd] at this
      simpa using this
    · cases this
  refine ⟨.normal, ⟨t', h'⟩, ⟨nm, fun ro okc G w a r F => ?_⟩, hq⟩
  rcases hd with ⟨rfl, -⟩ | ⟨-, -, -, hn⟩
  · refine wpIn_region ?_
    rw [List.range_eq_range']
    have := schain_seq ro (Q := fun e' a' w' => AExit.normal.says e' ∧ NewM w a.defers a'.defers ∧ ∃ G', Trans G w s.h G' w' h' ∧ Rel N ⟨t', h'⟩ G' w' a') hN ch G w a r.size r.t r.h F
      (fun G' w' a' T1 t1 R1 s1 d1 => ⟨trivial, by rw [d1]; exact .refl, G', T1, ⟨s1, t1, R1, by rw [d1]; exact r.df.mono T1⟩⟩)
    simpa using this
  · cases hn
end
structure SZ where
  t : TR AV
  h : HZ
noncomputable def SZ.st (s : SZ) : St := ⟨s.t.env, s.h.hp⟩
abbrev PrimsZ := Nat → List AV → HZ → Option (AV × HZ × Ent)
abbrev RnZ := Nat → AC → SZ → Option (AExit × SZ)
noncomputable def memZ (i : Nat) (l : List Nat) : Bool := List.rec (motive := fun _ => Bool) false (fun j _ ih => match Nat.beq i j with
  | true => true
  | false => ih) l
noncomputable def reachZ (at' : Nat → Option Obj) (k : Nat) : List Nat → List Nat → List Nat :=
  Nat.rec (motive := fun _ => List Nat → List Nat → List Nat) (fun _ seen => seen) (fun _ ih todo seen => match todo with
    | [] => seen
    | i :: todo => match memZ i seen with
      | true => ih todo seen
      | false => match at' i with
        | some (.cells cs) => ih (idsAs cs ++ todo) (i :: seen)
        | some (.map es) => ih (es.flatMap (fun e => idsA e.1 ++ idsA e.2) ++ todo) (i :: seen)
        | some (.loop N t _ _ _ _ _) => ih (idsAs ((List.range N).map t) ++ todo) (i :: seen)
        | some (.raw _) => ih todo (i :: seen)
        | some (.bk _) => ih todo (i :: seen)
        | none => ih todo seen) k
noncomputable def pureZ (x : AV) : Bool :=
  AV.rec (motive_1 := fun _ => Bool) (motive_2 := fun _ => Bool) true (fun _ _ => true) (fun _ => true) (fun _ => true) (fun _ => true) (fun _ _ c i => Bool.rec (motive := fun _ => Bool) false i (capPure c)) (fun _ i => i) (fun _ i => i) (fun _ i => i) (fun _ _ => false) (fun _ _ _ _ _ => false)
    (fun _ _ _ i j => Bool.rec (motive := fun _ => Bool) false j i) (fun _ _ i => i) (fun _ => false) (fun _ _ _ i j => Bool.rec (motive := fun _ => Bool) false j i) (fun _ => false) (fun _ => true) (fun _ => true) (fun _ => true) true true (fun _ _ i j => Bool.rec (motive := fun _ => Bool) false j i) x
noncomputable def puresZ (l : List AV) : Bool := List.rec (motive := fun _ => Bool) true (fun x _ j => Bool.rec (motive := fun _ => Bool) false j (pureZ x)) l
theorem brec_and (a b : Bool) : Bool.rec (motive := fun _ => Bool) false b a = (a && b) := by cases a <;> rfl
mutual
theorem pureZ_eq : ∀ x : AV, pureZ x = isPure x
  | .any => rfl
  | .int _ _ => rfl
  | .bool _ => rfl
  | .str _ => rfl
  | .sc _ => rfl
  | .sl _ xs c => by
    have := puresZ_eq' xs
    rw [isPure, ← this, ← brec_and]; rfl
  | .ref xs => by rw [isPure, ← puresZ_eq' xs]; rfl
  | .agg xs => by rw [isPure, ← puresZ_eq' xs]; rfl
  | .tup xs => by rw [isPure, ← puresZ_eq' xs]; rfl
  | .ptr _ _ => rfl
  | .tsl _ _ _ _ _ => rfl
  | .clo _ a b => by rw [isPure, ← puresZ_eq' a, ← puresZ_eq' b, ← brec_and]; rfl
  | .ifc _ x => by rw [isPure, ← pureZ_eq x]; rfl
  | .mp _ => rfl
  | .slt _ a b => by rw [isPure, ← puresZ_eq' a, ← puresZ_eq' b, ← brec_and]; rfl
  | .yld _ => rfl
  | .sup _ => rfl
  | .supb _ => rfl
  | .wint _ => rfl
  | .one => rfl
theorem puresZ_eq' : ∀ l : List AV, AV.rec_1 (motive_1 := fun _ => Bool) (motive_2 := fun _ => Bool) true (fun _ _ => true) (fun _ => true) (fun _ => true) (fun _ => true) (fun _ _ c i => Bool.rec (motive := fun _ => Bool) false i (capPure c)) (fun _ i => i) (fun _ i => i) (fun _ i => i) (fun _ _ => false) (fun _ _ _ _ _ => false)
    (fun _ _ _ i j => Bool.rec (motive := fun _ => Bool) false j i) (fun _ _ i => i) (fun _ => false) (fun _ _ _ i j => Bool.rec (motive := fun _ => Bool) false j i) (fun _ => false) (fun _ => true) (fun _ => true) (fun _ => true) true true (fun _ _ i j => Bool.rec (motive := fun _ => Bool) false j i) l = allPure l
  | [] => by rw [allPure]
  | x :: xs => by rw [allPure, ← pureZ_eq x, ← puresZ_eq' xs, ← brec_and]; rfl
end
theorem puresZ_eq : ∀ l : List AV, puresZ l = allPure l
  | [] => by rw [allPure]; rfl
  | x :: xs => by
    rw [allPure, ← pureZ_eq x, ← puresZ_eq xs, ← brec_and]; rfl
noncomputable def getF (f : Nat) (T : FT) : Option Fun :=
  FT.rec (motive := fun _ => Option Fun) none (fun k F _ _ il ir => Bool.rec (motive := fun _ => Option Fun) (Bool.rec (motive := fun _ => Option Fun) ir il (Nat.ble f k)) (some F) (Nat.beq f k)) T
theorem getF_eq (f : Nat) : ∀ T : FT, getF f T = T.get f
  | .leaf => rfl
  | .node k F l r => by
    rw [FT.get, ← getF_eq f l, ← getF_eq f r]
    change Bool.rec (motive := fun _ => Option Fun) (Bool.rec (motive := fun _ => Option Fun) (getF f r) (getF f l) (Nat.ble f k)) (some F) (Nat.beq f k) = _
    cases Nat.beq f k <;> cases Nat.ble f k <;> rfl
noncomputable def resZ (ds : List RV) (t : TR AV) (h : HZ) : Option AV :=
  match ds with
  | [.tmp d] => some (t.env d)
  | ds => resOf ds t.env h.hp
theorem resZ_eq (ds : List RV) (t : TR AV) (h : HZ) : resZ ds t h = resOf ds t.env h.hp := by
  unfold resZ
  split
  · rfl
  · rfl
noncomputable def boolV (x : AV) : Option Bool :=
  AV.rec (motive_1 := fun _ => Option Bool) (motive_2 := fun _ => Unit) none (fun _ _ => none) (fun b => some b)
    (fun _ => none) (fun _ => none) (fun _ _ _ _ => none) (fun _ _ => none) (fun _ _ => none) (fun _ _ => none) (fun _ _ => none) (fun _ _ _ _ _ => none) (fun _ _ _ _ _ => none) (fun _ _ _ => none) (fun _ => none) (fun _ _ _ _ _ => none) (fun _ => none) (fun _ => none) (fun _ => none) (fun _ => none) none () (fun _ _ _ _ => ()) x
theorem boolV_ok {x : AV} {b : Bool} (h : boolV x = some b) : x = .bool b := by
  cases x <;> first | (cases h; done) | (cases h; rfl)
noncomputable def sameB (a b : Bool) : Bool := Bool.rec (motive := fun _ => Bool) (Bool.rec (motive := fun _ => Bool) true false b) b a
theorem sameB_eq (a b : Bool) : sameB a b = (a == b) := by cases a <;> cases b <;> rfl
noncomputable def guardZ (t : TR AV) (d : Nat) (w : Bool) : Option Bool :=
  Option.rec (motive := fun _ => Option Bool) (guardOf t.env (some (d, w))) (fun b => some (sameB b w)) (boolV (t.env d))
theorem guardZ_eq (t : TR AV) (d : Nat) (w : Bool) : guardZ t d w = guardOf t.env (some (d, w)) := by
  unfold guardZ
  cases e : boolV (t.env d) with
  | none => rfl
  | some b => simp only [guardOf, boolV_ok e, sameB_eq]
noncomputable def endZ (ds : List RV) (r : Option (AExit × SZ)) : Option (AV × HZ) :=
  match r with
  | some (e, s) => match isEndB e, resZ ds s.t s.h with
    | true, some x => some (x, s.h)
    | _, _ => none
  | none => none
noncomputable def leZ (h h' : HZ) : Bool := Nat.ble h.n h'.n && Nat.ble h.m h'.m
noncomputable def yieldZ (rn : RnZ) (r : LR) (args : List AV) (h1 : HZ) : Option (AV × HZ) :=
  match h1.at r.id with
  | some (.loop M t ps a b .ready none) => match Nat.beq M r.N && Nat.beq args.length ps.length && ps.all (fun p => Nat.blt p M) with
    | true => match rn M r.x ⟨tabE (putPs t ps args) M, h1⟩ with
      | some (.normal, s) => match s.h.at r.id with
        | some (.loop M1 t1 ps1 _ _ .ready none) => match Nat.beq M1 M && beqL ps1 ps with
          | true => match rn M r.y ⟨s.t, s.h.set r.id (some (.loop M t1 ps a b .busy none))⟩ with
            | some (e, s2) => match s2.h.at r.id, roundB e with
              | some (.loop M2 t2 ps2 _ _ .busy none), some (v, st, pd) => match Nat.beq M2 M && beqL ps2 ps with
                | true => some (.bool v, s2.h.set r.id (some (.loop M t2 ps a b st pd)))
                | false => none
              | _, _ => none
            | none => none
          | false => none
        | _ => none
      | _ => none
    | false => none
  | _ => none
noncomputable def yldZ (L : List LR) (rn : RnZ) (full : Bool) (id : Nat) (args : List AV) (h : HZ) : Option (AV × HZ × Ent) :=
  match findLR L id with
  | none => none
  | some r => match full with
    | true => match yieldZ rn r args h with
      | some (v, h') => match leZ h h' with
        | true => some (v, h', ent0)
        | false => none
      | none => none
    | false =>
      let ids := reachZ h.at 1000000 (id :: idsAs args) []
      let h1 := h.cut ids (toksAs args ++ toksInY h.at ids)
      match yieldZ rn r args h1 with
      | some (v, h') => match leZ h h' with
        | true => some (v, h.patch ids h1.toks h', ⟨[], ids ++ newIds h.n h'.n, h1.toks ++ h'.toks⟩)
        | false => none
      | none => none
noncomputable def natOf (x : AV) : Option Nat :=
  AV.rec (motive_1 := fun _ => Option Nat) (motive_2 := fun _ => Unit) none (fun k n => IntKind.rec (motive := fun _ => Option Nat) none none none (Int.rec (motive := fun _ => Option Nat) (fun a => some a) (fun _ => none) n) none none none none k)
    (fun _ => none) (fun _ => none) (fun _ => none) (fun _ _ _ _ => none) (fun _ _ => none) (fun _ _ => none) (fun _ _ => none) (fun _ _ => none) (fun _ _ _ _ _ => none) (fun _ _ _ _ _ => none) (fun _ _ _ => none) (fun _ => none) (fun _ _ _ _ _ => none) (fun _ => none) (fun _ => none) (fun _ => none) (fun _ => none) none () (fun _ _ _ _ => ()) x
theorem natOf_ok {x : AV} {a : Nat} (h : natOf x = some a) : x = .int .i64 (a : Int) := by
  cases x <;> try (cases h; done)
  rename_i k n
  cases k <;> try (cases h; done)
  cases n with
  | ofNat b => cases h; rfl
  | negSucc b => cases h
structure IZ where
  run : (Nat → List AV → HZ → Option (AV × HZ × Ent)) → (Nat → List AV → HZ → Option (AV × HZ × Ent)) → TR AV → HZ → Option (AV × HZ × Ent)
def isW : AOp → Bool
  | .buildSl _ _ => true
  | .conv .s2s _ => true
  | .app _ _ _ _ _ => true
  | .raw (.slp _ _) _ => true
  | .raw .cpy _ => true
  | .mksl _ _ _ _ _ => true
  | .load (some 128) _ => true
  | .store 128 _ _ => true
  | _ => false
theorem aopW_plain {op : AOp} (h : isW op = false) (ρ : Opd → AV) (hp : H) (dst : Option Nat) (its : List AItem) : aopW ρ hp dst its op = aop ρ hp op := by
  unfold aopW
  split <;> first | rfl | (simp [isW] at h)
noncomputable def plainZ (dst : Option Nat) (its : List AItem) (op : AOp) : IZ :=
  match isW op with
  | true => ⟨fun _ _ t h => finZ h (aopW (ev t.env) h.hp dst its op)⟩
  | false => ⟨fun _ _ t h => finZ h ((compile op).run (ev t.env) h.hp)⟩
noncomputable def compI (dst : Option Nat) (its : List AItem) (op : AOp) : IZ :=
  match op with
  | .call f args => ⟨fun call _ t h => call f (args.map (ev t.env)) h⟩
  | .callv y args => ⟨fun call yld t h => match ev t.env y with
    | .clo (.func f) first caps => call f (first ++ args.map (ev t.env) ++ caps) h
    | .yld id => yld id (args.map (ev t.env)) h
    | _ => none⟩
  | op => plainZ dst its op
noncomputable def runItemsZ (call yld : Nat → List AV → HZ → Option (AV × HZ × Ent)) (items : List AItem) : TR AV → HZ → List Ent → Option (TR AV × HZ × List Ent) :=
  List.rec (motive := fun _ => TR AV → HZ → List Ent → Option (TR AV × HZ × List Ent)) (fun t h l => some (t, h, l)) (fun it its ih t h l => match guardOf t.env it.guard with
    | some true => match (compI it.dst its it.op).run call yld t h with
      | some r => ih (putE t it.dst r.1) r.2.1 (r.2.2 :: l)
      | none => none
    | some false => ih (putE t it.dst (.sc undef)) h (ent0 :: l)
    | none => none) items
theorem runItemsZ_nil (call yld : Nat → List AV → HZ → Option (AV × HZ × Ent)) (t : TR AV) (h : HZ) (l : List Ent) : runItemsZ call yld [] t h l = some (t, h, l) := rfl
theorem runItemsZ_cons (call yld : Nat → List AV → HZ → Option (AV × HZ × Ent)) (it : AItem) (its : List AItem) (t : TR AV) (h : HZ) (l : List Ent) : runItemsZ call yld (it :: its) t h l = (match guardOf t.env it.guard with
    | some true => match (compI it.dst its it.op).run call yld t h with
      | some r => runItemsZ call yld its (putE t it.dst r.1) r.2.1 (r.2.2 :: l)
      | none => none
    | some false => runItemsZ call yld its (putE t it.dst (.sc undef)) h (ent0 :: l)
    | none => none) := rfl
structure FB where
  f : Nat → Nat → Option AV
noncomputable def fb (op : BinOp) : FB :=
  match op with
  | .add => ⟨fun a b => Bool.rec (motive := fun _ => Option AV) none (some (.int .i64 (Int.ofNat (a + b)))) (Nat.ble (a + b) 9223372036854775807)⟩
  | .sub => ⟨fun a b => Bool.rec (motive := fun _ => Option AV) none (Bool.rec (motive := fun _ => Option AV) none (some (.int .i64 (Int.ofNat (a - b)))) (Nat.ble a 9223372036854775807)) (Nat.ble b a)⟩
  | .eql => ⟨fun a b => some (.bool (Nat.beq a b))⟩
  | .neq => ⟨fun a b => some (.bool (Bool.rec (motive := fun _ => Bool) true false (Nat.beq a b)))⟩
  | .lss => ⟨fun a b => some (.bool (Nat.ble (Nat.succ a) b))⟩
  | .leq => ⟨fun a b => some (.bool (Nat.ble a b))⟩
  | .gtr => ⟨fun a b => some (.bool (Nat.ble (Nat.succ b) a))⟩
  | .geq => ⟨fun a b => some (.bool (Nat.ble b a))⟩
  | _ => ⟨fun _ _ => none⟩
theorem beq_dec (a b : Nat) : Nat.beq a b = decide ((a : Int) = (b : Int)) := by
  by_cases h : a = b
  · subst h; simp
  · rw [nbf h, decide_eq_false (by omega)]
theorem ble_dec (a b : Nat) : Nat.ble a b = decide ((a : Int) ≤ (b : Int)) := by
  by_cases h : a ≤ b
  · rw [Nat.ble_eq_true_of_le h, decide_eq_true (by omega)]
  · rw [decide_eq_false (by omega)]
    cases e : Nat.ble a b with
    | false => rfl
    | true => exact absurd (Nat.le_of_ble_eq_true e) h
theorem fb_ok {op : BinOp} {a b : Nat} {v : AV} (h : (fb op).f a b = some v) : bin op (.int .i64 (a : Int)) (.int .i64 (b : Int)) = some v := by
  cases op <;> simp only [fb] at h <;> try (cases h; done)
  case add =>
    cases e : Nat.ble (a + b) 9223372036854775807 with
    | false => rw [e] at h; cases h
    | true =>
      rw [e] at h
      cases h
      have := Nat.le_of_ble_eq_true e
      simp only [bin, isShift, binInt, Bool.false_eq_true, if_false, if_true]
      rw [IntWalk.i64_in _ (by omega)]; rfl
  case sub =>
    cases e : Nat.ble b a with
    | false => rw [e] at h; cases h
    | true =>
      rw [e] at h
      cases e2 : Nat.ble a 9223372036854775807 with
      | false => rw [e2] at h; cases h
      | true =>
        rw [e2] at h
        cases h
        have := Nat.le_of_ble_eq_true e
        have := Nat.le_of_ble_eq_true e2
        simp only [bin, isShift, binInt, Bool.false_eq_true, if_false, if_true]
        rw [IntWalk.i64_in _ (by omega)]
        have : (a : Int) - (b : Int) = Int.ofNat (a - b) := by simp; omega
        rw [this]
  case eql => cases h; simp only [bin, isShift, binInt, Bool.false_eq_true, if_false, if_true, beq_dec]
  case neq =>
    cases h
    simp only [bin, isShift, binInt, Bool.false_eq_true, if_false, if_true]
    rw [beq_dec]
    cases decide ((a : Int) = (b : Int)) <;> rfl
  case lss =>
    cases h
    simp only [bin, isShift, binInt, Bool.false_eq_true, if_false, if_true, ble_dec]
    congr 2
  case leq => cases h; simp only [bin, isShift, binInt, Bool.false_eq_true, if_false, if_true, ble_dec]
  case gtr =>
    cases h
    simp only [bin, isShift, binInt, Bool.false_eq_true, if_false, if_true, ble_dec]
    congr 2
  case geq => cases h; simp only [bin, isShift, binInt, Bool.false_eq_true, if_false, if_true, ble_dec]
abbrev CallsZ := Nat → List AV → HZ → Option (AV × HZ × Ent)
structure RI where
  go : CallsZ → CallsZ → TR AV → HZ → List Ent → Option (TR AV × HZ × List Ent)
noncomputable def contI (dst : Option Nat) (ih : RI) (call yld : CallsZ) (t : TR AV) (l : List Ent) (r : Option (AV × HZ × Ent)) : Option (TR AV × HZ × List Ent) :=
  Option.rec (motive := fun _ => Option (TR AV × HZ × List Ent)) none (fun r => ih.go call yld (putE t dst r.1) r.2.1 (r.2.2 :: l)) r
noncomputable def fastI (dst : Option Nat) (its : List AItem) (op : AOp) (ih : RI) : RI :=
  match op with
  | .mov (.t j) => ⟨fun call yld t h l => ih.go call yld (putE t dst (t.env j)) h (ent0 :: l)⟩
  | .mov (.c a) => ⟨fun call yld t h l => ih.go call yld (putE t dst a) h (ent0 :: l)⟩
  | .bin op x y => ⟨fun call yld t h l =>
      Option.rec (motive := fun _ => Option (TR AV × HZ × List Ent)) (contI dst ih call yld t l ((compI dst its (.bin op x y)).run call yld t h)) (fun v => ih.go call yld (putE t dst v) h (ent0 :: l))
        (Option.rec (motive := fun _ => Option AV) none (fun a => Option.rec (motive := fun _ => Option AV) none (fun b => (fb op).f a b) (natOf (ev t.env y))) (natOf (ev t.env x)))⟩
  | op => ⟨fun call yld t h l => contI dst ih call yld t l ((compI dst its op).run call yld t h)⟩
theorem fastI_go (dst : Option Nat) (its : List AItem) (op : AOp) (ih : RI) (call yld : CallsZ) (t : TR AV) (h : HZ) (l : List Ent) : (fastI dst its op ih).go call yld t h l = contI dst ih call yld t l ((compI dst its op).run call yld t h) := by
  cases op <;> try rfl
  case mov x => cases x <;> rfl
  case bin op x y =>
    simp only [fastI]
    cases e1 : natOf (ev t.env x) with
    | none => rfl
    | some a =>
      simp only
      cases e2 : natOf (ev t.env y) with
      | none => rfl
      | some b =>
        simp only
        cases e3 : (fb op).f a b with
        | none => rfl
        | some v =>
          have hb := fb_ok e3
          rw [← natOf_ok e1, ← natOf_ok e2] at hb
          have : (compI dst its (.bin op x y)).run call yld t h = some (v, h, ent0) := by
            change finZ h ((bin op (ev t.env x) (ev t.env y)).map fun v => (v, h.hp, ent0)) = _
            rw [hb]; rfl
          rw [this]; rfl
noncomputable def guardI (d : Nat) (w : Bool) (dst : Option Nat) (a b : RI) : RI :=
  ⟨fun call yld t h l => Option.rec (motive := fun _ => Option (TR AV × HZ × List Ent)) none (fun q => Bool.rec (motive := fun _ => Option (TR AV × HZ × List Ent)) (b.go call yld (putE t dst (.sc undef)) h (ent0 :: l)) (a.go call yld t h l) q) (guardZ t d w)⟩
noncomputable def compItems (items : List AItem) : RI :=
  List.rec (motive := fun _ => RI) ⟨fun _ _ t h l => some (t, h, l)⟩ (fun it its ih => match it.guard with
    | none => fastI it.dst its it.op ih
    | some (d, w) => guardI d w it.dst (fastI it.dst its it.op ih) ih) items
theorem compItems_go (call yld : CallsZ) : ∀ (items : List AItem) (t : TR AV) (h : HZ) (l : List Ent), (compItems items).go call yld t h l = runItemsZ call yld items t h l
  | [], t, h, l => rfl
  | it :: its, t, h, l => by
    have cont : contI it.dst (compItems its) call yld t l ((compI it.dst its it.op).run call yld t h) = (match (compI it.dst its it.op).run call yld t h with
      | some r => runItemsZ call yld its (putE t it.dst r.1) r.2.1 (r.2.2 :: l)
      | none => none) := by
      unfold contI
      cases (compI it.dst its it.op).run call yld t h with
      | none => rfl
      | some r => exact compItems_go call yld its _ _ _
    rw [runItemsZ_cons]
    change RI.go (match it.guard with
      | none => fastI it.dst its it.op (compItems its)
      | some (d, w) => guardI d w it.dst (fastI it.dst its it.op (compItems its)) (compItems its)) call yld t h l = _
    cases hg : it.guard with
    | none =>
      simp only [guardOf]
      rw [fastI_go, cont]
    | some g =>
      obtain ⟨d, w⟩ := g
      simp only [guardI]
      rw [guardZ_eq]
      cases hq : guardOf t.env (some (d, w)) with
      | none => rfl
      | some b =>
        cases b with
        | true => simp only; rw [fastI_go, cont]
        | false => exact compItems_go call yld its _ _ _
noncomputable def seqZ (rn : AC → SZ → Option (AExit × SZ)) (a b : AC) (s : SZ) : Option (AExit × SZ) :=
  match rn a s with
  | some (.normal, s') => rn b s'
  | r => r
noncomputable def condZ (rn : AC → SZ → Option (AExit × SZ)) (c : Opd) (a b : AC) (s : SZ) : Option (AExit × SZ) :=
  match ev s.t.env c with
  | .bool true => rn a s
  | .bool false => rn b s
  | _ => none
noncomputable def blockZ (rn : AC → SZ → Option (AExit × SZ)) (id : Nat) (a : AC) (s : SZ) : Option (AExit × SZ) :=
  match rn a s with
  | some (.exit i, s') => match Nat.beq i id with
    | true => some (.normal, s')
    | false => some (.exit i, s')
  | r => r
noncomputable def loopZ (rn : AC → SZ → Option (AExit × SZ)) (a : AC) (s : SZ) : Option (AExit × SZ) :=
  match rn a s with
  | some (.normal, s') => rn (.loop a) s'
  | r => r
noncomputable def runSZ (rn : AC → SZ → Option (AExit × SZ)) (c : AC) (k : Nat) : AC → SZ → Option (AExit × SZ) :=
  Nat.rec (motive := fun _ => AC → SZ → Option (AExit × SZ)) (fun _ _ => none) (fun _ ih cur s => match rn cur s with
    | some (.goto l, s1) => match findL c l with
      | some rest => ih rest s1
      | none => some (.goto l, s1)
    | r => r) k
noncomputable def rfunZ (T : FT) (rn : List LR → RnZ) (L : List LR) (N : Nat) (g : Opd) (ps : List Nat) (x y : AC) (s : SZ) : Option (AExit × SZ) :=
  match ev s.t.env g with
  | .clo (.func fi) first caps => match T.get fi with
    | none => none
    | some F => match s.h.at s.h.n with
      | some _ => none
      | none => match Nat.ble (first ++ [AV.yld s.h.n] ++ caps).length F.N with
        | false => none
        | true =>
          match rn (⟨s.h.n, N, x, y⟩ :: L.filter fun r => !Nat.beq r.id s.h.n) F.N F.ac ⟨argsE (first ++ [AV.yld s.h.n] ++ caps) 0 (.leaf []), ⟨s.h.o.set 6 s.h.n (some (.loop N s.t.env ps .skip .skip .ready none)), s.h.n + 1, s.h.toks, s.h.m⟩⟩ with
          | some (e, s2) => match isEndB e, resOf F.ds s2.t.env s2.h.hp, s2.h.at s.h.n with
            | true, some _, some (.loop N2 _ ps2 _ _ st pd) => match Nat.beq N2 N && beqL ps2 ps && notBusy st && (Nat.ble (s.h.n + 1) s2.h.n && Nat.ble s.h.m s2.h.m), endLoop pd with
              | true, some e2 => some (e2, ⟨s.t, s2.h.set s.h.n none⟩)
              | _, _ => none
            | _, _, _ => none
          | none => none
  | _ => none
section
variable {P : Program} {T : FT}
def Near (full : Bool) (h h1 h1' h' : H) (en : Ent) : Prop := Touch h h1 h1' h' en ∨ (full = true ∧ h1 = h ∧ h1' = h' ∧ h.n ≤ h'.n ∧ h.m ≤ h'.m)
theorem Near.frun {N : Nat} {ops : Array Oper} {full : Bool} {i : Nat} {o : Oper} {t : Tm} {h h1 h1' h' : H} {x : AV} {en : Ent} (hn : Near full h h1 h1' h' en) (run : ItRun P ops i o t h1 x h1') : FRun P ops i o t h x h' := by
  rcases hn with tc | ⟨-, rfl, rfl, a, b⟩
  · exact FRun.of tc run
  · exact FRun.full ⟨a, b⟩ run
theorem Near.touch {h h1 h1' h' : H} {en : Ent} (hn : Near false h h1 h1' h' en) : Touch h h1 h1' h' en := by
  rcases hn with tc | ⟨a, -⟩
  · exact tc
  · cases a
def NamedF (P : Program) (f : Nat) : Prop := ∃ fn, P.funcs[f]? = some fn ∧ fn.body.isSome = true ∧ fn.name ≠ "runtime.NumGoroutine"
def PrimsOkZ (P : Program) (pr : PrimsZ) : Prop := ∀ σ f args h r h' en, pr f args h = some (r, h', en) → (∃ h1 h1', Touch (h.hp.sg σ) h1 h1' (h'.hp.sg σ) en ∧ ACalls P f args h1 r h1') ∧ NamedF P f
def RunsOkZ (P : Program) (σ : Sg) (rn : RnZ) : Prop := ∀ N c s e s', rn N c s = some (e, s') → Wp P N c (s.st.sg σ) fun e2 s2 => e2 = e ∧ s2 = s'.st.sg σ
theorem leZ_ok {h h' : HZ} (e : leZ h h' = true) : h.n ≤ h'.n ∧ h.m ≤ h'.m := by
  simp only [leZ, Bool.and_eq_true] at e
  exact ⟨Nat.le_of_ble_eq_true e.1, Nat.le_of_ble_eq_true e.2⟩
theorem endZ_def (ds : List RV) (r : Option (AExit × SZ)) : endZ ds r = (match r with
  | some (e, s) => match isEndB e, resOf ds s.t.env s.h.hp with
    | true, some x => some (x, s.h)
    | _, _ => none
  | none => none) := by
  unfold endZ
  simp only [resZ_eq]
theorem endZ_ok {σ : Sg} {rn : RnZ} (hr : RunsOkZ P σ rn) {f : Nat} {F : Fun} (hF : FnIs P f F.N F.ac F.ds) {args : List AV} (hl : args.length ≤ F.N) {h1 : HZ} {r : AV} {h' : HZ} (he : endZ F.ds (rn F.N F.ac ⟨argsE args 0 (.leaf []), h1⟩) = some (r, h')) : ACalls P f args (h1.hp.sg σ) r (h'.hp.sg σ) := by
  rw [endZ_def] at he
  split at he
  · rename_i e s hrun
    split at he
    · rename_i x h1 h2
      cases he
      obtain ⟨r', h', hc, e1, e2⟩ := hF.acalls (args := args) (h := _) (Q := fun q h => q = r ∧ h = s.h.hp.sg σ) hl (by
        have := hr _ _ _ _ _ hrun
        simp only [SZ.st, St.sg, argsE_init] at this
        exact Wp.mono this fun e2 s2 ⟨a, b⟩ => by
          subst a b
          exact ⟨isEndB_ok h1, r, resOf_sg h2, rfl, rfl⟩)
      subst e1 e2
      exact hc
    · cases he
  · cases he
theorem sg_patch (σ : Sg) (h h' : HZ) (h1 : H) (ids tk : List Nat) (hn : h1.n = h.n) (hi : ∀ j, (h1.objs j).isSome = (ids.contains j && (h.at j).isSome)) (ht : h1.toks = tk) : (h.patch ids tk h').hp.sg σ = (h.hp.patch h1 h'.hp).sg σ := by
  rw [HZ.patch_hp h h' h1 ids tk hn hi ht]
theorem cut_iff (h : H) (ids toks : List Nat) (j : Nat) : ((h.cut ids toks).objs j).isSome = (ids.contains j && (h.objs j).isSome) := by
  simp only [H.cut]
  split <;> simp_all
theorem touch_cut (σ : Sg) (h h2 : HZ) (ids tks : List Nat) (hb : h.n ≤ h2.n ∧ h.m ≤ h2.m) : Touch (h.hp.sg σ) ((h.hp.cut ids tks).sg σ) (h2.hp.sg σ) ((h.patch ids (h.cut ids tks).toks h2).hp.sg σ) ⟨[], ids ++ newIds h.n h2.n, (h.cut ids tks).toks ++ h2.toks⟩ := by
  have e := sg_patch σ h h2 (h.hp.cut ids tks) ids (h.cut ids tks).toks rfl (fun j => cut_iff _ _ _ j) rfl
  rw [e]
  exact touch_genY σ h.hp _ h2.hp (cut_sub h.hp _ _) rfl rfl (cut_ids h.hp _ _) hb.1 hb.2
theorem HZ.set_hp (h : HZ) (j : Nat) (x : Option Obj) : (h.set j x).hp = { h.hp with objs := upd h.hp.objs j x } := H.ext (fun i => by
  change (h.set j x).at i = upd h.at j x i
  rw [HZ.set_objs]) rfl rfl rfl
theorem yieldZ_ok {σ : Sg} {L : List LR} (hL : LkOk P σ L) {rn : RnZ} (hr : RunsOkZ P σ rn) {lr : LR} (hmem : lr ∈ L) {args : List AV} {h h' : HZ} {r : AV} (hc : yieldZ rn lr args h = some (r, h')) : YCalls P lr.id args (h.hp.sg σ) r (h'.hp.sg σ) := by
  obtain ⟨c1, c2, c3, c4⟩ := hL lr hmem
  unfold yieldZ at hc
  split at hc
  · rename_i M t ps a b ho
    split at hc
    · rename_i hcond
      simp only [Bool.and_eq_true, List.all_eq_true] at hcond
      have hM : M = lr.N := Nat.eq_of_beq_eq_true hcond.1.1
      have hlen : args.length = ps.length := Nat.eq_of_beq_eq_true hcond.1.2
      have hps : ∀ p ∈ ps, p < M := fun p hp => Nat.le_of_ble_eq_true (hcond.2 p hp)
      split at hc
      · rename_i s1 hrun1
        split at hc
        · rename_i M1 t1 ps1 a1 b1 ho1
          split at hc
          · rename_i hcond1
            simp only [Bool.and_eq_true] at hcond1
            have hM1 := Nat.eq_of_beq_eq_true hcond1.1
            have hp1 := beqL_eq hcond1.2
            subst hM1 hp1
            split at hc
            · rename_i e s2 hrun2
              split at hc
              · rename_i M2 t2 ps2 a2 b2 v st pd ho2 hre
                split at hc
                · rename_i hcond2
                  simp only [Bool.and_eq_true] at hcond2
                  have hM2 := Nat.eq_of_beq_eq_true hcond2.1
                  have hp2 := beqL_eq hcond2.2
                  subst hM2 hp2
                  simp only [Option.some.injEq, Prod.mk.injEq] at hc
                  obtain ⟨rfl, rfl⟩ := hc
                  subst hM
                  have w1 := hr _ _ _ _ _ hrun1
                  have w2 := hr _ _ _ _ _ hrun2
                  have ho : h.hp.objs lr.id = some (.loop lr.N t ps2 a b .ready none) := ho
                  have ho1 : s1.h.hp.objs lr.id = some (.loop lr.N t1 ps2 a1 b1 .ready none) := ho1
                  have ho2 : s2.h.hp.objs lr.id = some (.loop lr.N t2 ps2 a2 b2 .busy none) := ho2
                  have e0 : (H.sg σ h.hp).objs lr.id = some (.loop lr.N t ps2 (σ lr.id).1 (σ lr.id).2 .ready none) := by simp only [H.sg, ho]; rfl
                  have := ycalls_of (P := P) (id := lr.id) (M := lr.N) (n := h.hp.n) (m := h.hp.m) (f := (H.sg σ h.hp).objs) (T := h.hp.toks) (t := t) (ps := ps2) (args := args)
                    (Q := fun r' h'' => r' = .bool v ∧ h'' = H.sg σ { s2.h.hp with objs := upd s2.h.hp.objs lr.id (some (.loop lr.N t2 ps2 a b st pd)) }) e0 c1 c2 c3 c4 hlen hps (Wp.le (s' := (SZ.st ⟨tabE (putPs t ps2 args) lr.N, h⟩).sg σ) (tabE_le _ _ _) (Wp.mono w1 fun e' s' ⟨q1, q2⟩ => by
                      subst q1 q2
                      refine ⟨rfl, t1, by simp only [SZ.st, St.sg, H.sg, ho1]; rfl, ?_⟩
                      have e3 : (St.sg σ (SZ.st ⟨s1.t, s1.h.set lr.id (some (.loop lr.N t1 ps2 a b .busy none))⟩)) = ⟨(s1.st.sg σ).t, { (s1.st.sg σ).h with objs := upd (s1.st.sg σ).h.objs lr.id (some (.loop lr.N t1 ps2 (σ lr.id).1 (σ lr.id).2 .busy none)) }⟩ := by
                        simp only [SZ.st, St.sg, HZ.set_hp, H.sg, sg_upd_loop]
                      rw [e3] at w2
                      refine Wp.mono w2 fun e' s' ⟨q1, q2⟩ => ?_
                      subst q1 q2
                      refine ⟨t2, v, st, pd, by simp only [SZ.st, St.sg, H.sg, ho2]; rfl, roundB_ok hre, rfl, ?_⟩
                      simp only [SZ.st, St.sg, H.sg, sg_upd_loop]))
                  obtain ⟨r', h'', hy, rfl, rfl⟩ := this
                  rw [HZ.set_hp]
                  exact hy
                · cases hc
              · cases hc
            · cases hc
          · cases hc
        · cases hc
      · cases hc
    · cases hc
  · cases hc
theorem yldZ_ok {σ : Sg} {L : List LR} (hL : LkOk P σ L) {rn : RnZ} (hr : RunsOkZ P σ rn) {full : Bool} {id : Nat} {args : List AV} {h h' : HZ} {r : AV} {en : Ent} (hc : yldZ L rn full id args h = some (r, h', en)) :
    ∃ h1 h1', Near full (h.hp.sg σ) h1 h1' (h'.hp.sg σ) en ∧ YCalls P id args h1 r h1' := by
  unfold yldZ at hc
  split at hc
  · cases hc
  rename_i lr hlr
  obtain ⟨hmem, rfl⟩ := findLR_mem hlr
  split at hc
  · split at hc
    · rename_i v h2 hy
      have yc := yieldZ_ok hL hr hmem hy
      split at hc
      · rename_i hb
        have hb := leZ_ok hb
        cases hc
        exact ⟨_, _, .inr ⟨rfl, rfl, rfl, hb.1, hb.2⟩, yc⟩
      · cases hc
    · cases hc
  · simp only at hc
    split at hc
    · rename_i v h2 hy
      have yc := yieldZ_ok hL hr hmem hy
      rw [HZ.cut_hp] at yc
      split at hc
      · rename_i hb
        have hb := leZ_ok hb
        cases hc
        exact ⟨_, _, .inl (touch_cut σ h h2 _ _ hb), yc⟩
      · cases hc
    · cases hc
theorem compI_ok {σ : Sg} {full : Bool} {call yld : Nat → List AV → HZ → Option (AV × HZ × Ent)} (hcall : ∀ f args h r h' en, call f args h = some (r, h', en) → (∃ h1 h1', Near full (h.hp.sg σ) h1 h1' (h'.hp.sg σ) en ∧ ACalls P f args h1 r h1') ∧ NamedF P f)
    (hyld : ∀ id args h r h' en, yld id args h = some (r, h', en) → ∃ h1 h1', Near full (h.hp.sg σ) h1 h1' (h'.hp.sg σ) en ∧ YCalls P id args h1 r h1') {N : Nat} {ops : Array Oper} {i : Nat} {o : Oper} {it : AItem} {its : List AItem} {t : TR AV} {h h' : HZ} {x : AV} {en : Ent}
    (ho : ops[i]? = some o) (hit : cItem P N ops o = some it) (hg : guardOf t.env it.guard = some true) (hx : (compI it.dst its it.op).run call yld t h = some (x, h', en)) :
    (∃ h1 h1', Near full (h.hp.sg σ) h1 h1' (h'.hp.sg σ) en ∧ ItRun P ops i o t.env h1 x h1') ∧ (touchy it.op = false → en = ent0) := by
  obtain ⟨dst, g, op⟩ := it
  simp only at hg hx ⊢
  have plain : (plainZ dst its op).run call yld t h = some (x, h', en) → (∃ h1 h1', Near full (h.hp.sg σ) h1 h1' (h'.hp.sg σ) en ∧ ItRun P ops i o t.env h1 x h1') ∧ (touchy op = false → en = ent0) := by
    intro hx
    have hw : finZ h (aopW (ev t.env) h.hp dst its op) = some (x, h', en) := by
      unfold plainZ at hx
      split at hx
      · exact hx
      · rename_i hw
        simp only [compile_run] at hx
        rw [aopW_plain hw]; exact hx
    have hx := finZ_ok hw (fun x h' en e j hj => aopW_keep e hj)
    refine ⟨?_, fun ht => ?_⟩
    · rcases aopW_sg (σ := σ) hx with hx | ⟨hx | hx | hx | hx, -⟩
      · obtain ⟨h1, h1', tc, run⟩ := itrun_op ho hit hg hx; exact ⟨h1, h1', .inl tc, run⟩
      · obtain ⟨h1, h1', tc, run⟩ := itrun_opV ho hit hg hx; exact ⟨h1, h1', .inl tc, run⟩
      · obtain ⟨h1, h1', tc, run⟩ := itrun_opK ho hit hg hx; exact ⟨h1, h1', .inl tc, run⟩
      · obtain ⟨h1, h1', tc, run⟩ := itrun_opT ho hit hg hx; exact ⟨h1, h1', .inl tc, run⟩
      · obtain ⟨h1, h1', tc, run⟩ := itrun_opA ho hit hg hx; exact ⟨h1, h1', .inl tc, run⟩
    · rcases aopW_sg (σ := σ) hx with hx | ⟨-, ht'⟩
      · rcases aop_ent ht hx with h | ⟨n, y, h⟩
        · exact h
        · rw [h] at ht; simp [touchy] at ht
      · rw [ht'] at ht; cases ht
  cases op
  case call f args =>
    obtain ⟨⟨h1, h1', tc, ac⟩, -⟩ := hcall _ _ _ _ _ _ hx
    exact ⟨⟨h1, h1', tc, itrun_call ho hit hg rfl (VSubs.refl _) ac⟩, fun hh => by simp [touchy] at hh⟩
  case callv y args =>
    simp only [compI] at hx
    split at hx
    · rename_i f first caps hy
      obtain ⟨⟨h1, h1', tc, ac⟩, fn, f1, f2, f3⟩ := hcall _ _ _ _ _ _ hx
      exact ⟨⟨h1, h1', tc, itrun_callv ho hit hg rfl hy f1 f2 f3 (VSubs.refl _) ac⟩, fun hh => by simp [touchy] at hh⟩
    · rename_i id hy
      obtain ⟨h1, h1', tc, yc⟩ := hyld _ _ _ _ _ _ hx
      exact ⟨⟨h1, h1', tc, itrun_yield ho hit hg rfl hy (VSubs.refl _) yc⟩, fun hh => by simp [touchy] at hh⟩
    · cases hx
  all_goals exact plain hx
theorem runItemsZ_okF {σ : Sg} {call yld : Nat → List AV → HZ → Option (AV × HZ × Ent)} (hcall : ∀ f args h r h' en, call f args h = some (r, h', en) → (∃ h1 h1', Near true (h.hp.sg σ) h1 h1' (h'.hp.sg σ) en ∧ ACalls P f args h1 r h1') ∧ NamedF P f)
    (hyld : ∀ id args h r h' en, yld id args h = some (r, h', en) → ∃ h1 h1', Near true (h.hp.sg σ) h1 h1' (h'.hp.sg σ) en ∧ YCalls P id args h1 r h1') {N : Nat} {K : Tm → H → Prop} :
    ∀ {items : List AItem} {t t' : TR AV} {h h' : HZ} {log log' : List Ent}, runItemsZ call yld items t h log = some (t', h', log') → K t'.env (h'.hp.sg σ) → WpItemsF P N items t.env (h.hp.sg σ) K
  | [], t, t', h, h', log, log', hr, hk => by
    rw [runItemsZ_nil] at hr
    simp only [Option.some.injEq, Prod.mk.injEq] at hr
    obtain ⟨rfl, rfl, rfl⟩ := hr
    exact WpItemsF.nil hk
  | it :: its, t, t', h, h', log, log', hr, hk => by
    rw [runItemsZ_cons] at hr
    split at hr
    · rename_i hg
      split at hr
      · rename_i r hx
        obtain ⟨x, h2, en⟩ := r
        have ih := runItemsZ_okF (N := N) hcall hyld hr hk
        rw [putE_env] at ih
        refine WpItemsF.step (fun ops i o ho hit => ?_) ih
        obtain ⟨⟨h1, h1', tc, run⟩, -⟩ := compI_ok hcall hyld ho hit hg hx
        exact tc.frun (N := N) run
      · cases hr
    · rename_i hg
      have ih := runItemsZ_okF (N := N) hcall hyld hr hk
      rw [putE_env] at ih
      exact WpItemsF.step (fun ops i o ho hit => FRun.of (touch_none (h.hp.sg σ)) (itrun_skip ho hit hg)) ih
    · cases hr
theorem runItemsZ_ok {σ : Sg} {call yld : Nat → List AV → HZ → Option (AV × HZ × Ent)} (hcall : ∀ f args h r h' en, call f args h = some (r, h', en) → (∃ h1 h1', Near false (h.hp.sg σ) h1 h1' (h'.hp.sg σ) en ∧ ACalls P f args h1 r h1') ∧ NamedF P f)
    (hyld : ∀ id args h r h' en, yld id args h = some (r, h', en) → ∃ h1 h1', Near false (h.hp.sg σ) h1 h1' (h'.hp.sg σ) en ∧ YCalls P id args h1 r h1') {N : Nat} {K : Tm → H → List Ent → Prop} :
    ∀ {items : List AItem} {t t' : TR AV} {h h' : HZ} {log log' : List Ent}, runItemsZ call yld items t h log = some (t', h', log') → K t'.env (h'.hp.sg σ) log'.reverse → WpItems P N items t.env (h.hp.sg σ) log K
  | [], t, t', h, h', log, log', hr, hk => by
    rw [runItemsZ_nil] at hr
    simp only [Option.some.injEq, Prod.mk.injEq] at hr
    obtain ⟨rfl, rfl, rfl⟩ := hr
    exact WpItems.nil hk
  | it :: its, t, t', h, h', log, log', hr, hk => by
    rw [runItemsZ_cons] at hr
    split at hr
    · rename_i hg
      split at hr
      · rename_i r hx
        obtain ⟨x, h2, en⟩ := r
        have ih := runItemsZ_ok (N := N) hcall hyld hr hk
        rw [putE_env] at ih
        intro ops i hi hc
        obtain ⟨o, ho, hit, hi', hc'⟩ := items_cons hi hc
        obtain ⟨⟨h1, h1', tc, run⟩, hen0⟩ := compI_ok hcall hyld ho hit hg hx
        obtain ⟨recs, t', hh', ch, hk2, hen⟩ := ih ops (i + 1) hi' hc'
        refine ⟨⟨t.env, h.hp.sg σ, h1, h1', h2.hp.sg σ, x, en⟩ :: recs, t', hh', .cons ho rfl rfl tc.touch (fun _ => run) (by rw [← cItem_dst hit]; exact ch), by simpa using hk2, ?_⟩
        intro k r it' hr' hit' ht
        cases k with
        | zero =>
          simp at hr' hit'; subst hr' hit'
          exact hen0 ht
        | succ k => simp at hr' hit'; exact hen k r it' hr' hit' ht
      · cases hr
    · rename_i hg
      have ih := runItemsZ_ok (N := N) hcall hyld hr hk
      rw [putE_env] at ih
      exact WpItems.step (touch_none (h.hp.sg σ)) (fun ops i o ho hit => itrun_skip ho hit hg) (fun _ => rfl) ih
    · cases hr
theorem runSZ_zero (rn : AC → SZ → Option (AExit × SZ)) (c cur : AC) (s : SZ) : runSZ rn c 0 cur s = none := rfl
theorem runSZ_succ (rn : AC → SZ → Option (AExit × SZ)) (c : AC) (k : Nat) (cur : AC) (s : SZ) : runSZ rn c (k + 1) cur s = (match rn cur s with
    | some (.goto l, s1) => match findL c l with
      | some rest => runSZ rn c k rest s1
      | none => some (.goto l, s1)
    | r => r) := rfl
theorem runSZ_ok {σ : Sg} {rn : AC → SZ → Option (AExit × SZ)} {N : Nat} (hr : ∀ c s e s', rn c s = some (e, s') → Wp P N c (s.st.sg σ) fun e2 s2 => e2 = e ∧ s2 = s'.st.sg σ) {c : AC} :
    ∀ {k : Nat} {cur : AC} {s : SZ} {e : AExit} {s' : SZ}, runSZ rn c k cur s = some (e, s') → WpS P N c cur (s.st.sg σ) fun e2 s2 => e2 = e ∧ s2 = s'.st.sg σ
  | 0, _, _, _, _, h => by rw [runSZ_zero] at h; cases h
  | k + 1, cur, s, e, s', h => by
    rw [runSZ_succ] at h
    split at h
    · rename_i l s1 h1
      refine WpS.step (Wp.mono (hr _ _ _ _ h1) fun e2 s2 ⟨e1, e3⟩ => ?_)
      subst e1 e3
      simp only [AExit.within]
      split at h
      · rename_i rest hf
        simp only [hf]
        exact runSZ_ok hr h
      · rename_i hf
        simp only [hf]
        simp only [Option.some.injEq, Prod.mk.injEq] at h
        obtain ⟨rfl, rfl⟩ := h
        exact ⟨rfl, rfl⟩
    · rename_i hne
      refine WpS.step (Wp.mono (hr _ _ _ _ h) fun e2 s2 ⟨e1, e3⟩ => ?_)
      subst e1 e3
      cases e2 with
      | normal => exact ⟨rfl, rfl⟩
      | exit i => exact ⟨rfl, rfl⟩
      | goto l => exact absurd h (hne l _)
      | ret => exact ⟨rfl, rfl⟩
      | panic v => exact ⟨rfl, rfl⟩
theorem rfunZ_ok (ok : T.Ok P) (nm : T.named P = true) {σ : Sg} {rn : List LR → RnZ} (hr : ∀ {σ : Sg} (L : List LR), LkOk P σ L → RunsOkZ P σ (rn L)) {L : List LR} (hL : LkOk P σ L) {N : Nat} {g : Opd} {ps : List Nat} {x y : AC} {s : SZ} {e : AExit} {s' : SZ}
    (h : rfunZ T rn L N g ps x y s = some (e, s')) : Wp P N (.rfun g ps x y) (s.st.sg σ) fun e2 s2 => e2 = e ∧ s2 = s'.st.sg σ := by
  unfold rfunZ at h
  split at h
  · rename_i fi first caps hg
    split at h
    · cases h
    rename_i F hF
    obtain ⟨fx, fn, f1, f2, f3⟩ := FT.get_ok ok nm hF
    split at h
    · cases h
    rename_i hfresh
    split at h
    · cases h
    rename_i hl
    have hl := Nat.le_of_ble_eq_true hl
    split at h
    · rename_i e1 s2 hrun
      split at h
      · rename_i r N2 t2 ps2 a2 b2 st pd he hres ho2
        split at h
        · rename_i e2 hcond hend
          simp only [Bool.and_eq_true] at hcond
          have hN2 := Nat.eq_of_beq_eq_true hcond.1.1.1
          have hp2 := beqL_eq hcond.1.1.2
          subst hN2 hp2
          simp only [Option.some.injEq, Prod.mk.injEq] at h
          obtain ⟨rfl, rfl⟩ := h
          have hfresh : s.h.hp.objs s.h.hp.n = none := hfresh
          have ho2 : s2.h.hp.objs s.h.hp.n = some (.loop N2 t2 ps2 a2 b2 st pd) := ho2
          refine Wp.rfun (P := P) (t := s.t.env) (f := (s.h.hp.sg σ).objs) (n := s.h.hp.n) (m := s.h.hp.m) (T := s.h.hp.toks) hg f1 f2 f3 (by simp [H.sg, hfresh]) fun asg body c1 c2 c3 c4 => ?_
          have hL2 : LkOk P (upd σ s.h.n (asg, body)) (⟨s.h.n, N2, x, y⟩ :: L.filter fun r => !Nat.beq r.id s.h.n) := by
            intro r hr
            rcases List.mem_cons.1 hr with rfl | hr
            · simp only [upd, if_pos]
              exact ⟨c1, c2, c3, c4⟩
            · obtain ⟨h1, h2⟩ := List.mem_filter.1 hr
              have hne : r.id ≠ s.h.n := fun e => by rw [e, Nat.beq_refl] at h2; cases h2
              simp only [upd, if_neg hne]
              exact hL r h1
          have ac := endZ_ok (h' := s2.h) (r := r) (hr _ hL2) fx hl (by rw [hrun, endZ_def]; simp only [he, hres])
          have e1 : (H.sg (upd σ s.h.n (asg, body)) (HZ.hp ⟨s.h.o.set 6 s.h.n (some (.loop N2 s.t.env ps2 .skip .skip .ready none)), s.h.n + 1, s.h.toks, s.h.m⟩)) = ⟨upd (s.h.hp.sg σ).objs s.h.hp.n (some (.loop N2 s.t.env ps2 asg body .ready none)), s.h.hp.n + 1, s.h.hp.toks, s.h.hp.m⟩ := by
            refine H.ext (fun j => ?_) rfl rfl rfl
            have e2 : (HZ.hp ⟨s.h.o.set 6 s.h.n (some (.loop N2 s.t.env ps2 .skip .skip .ready none)), s.h.n + 1, s.h.toks, s.h.m⟩).objs j = upd s.h.hp.objs s.h.n (some (.loop N2 s.t.env ps2 .skip .skip .ready none)) j := by
              have := congrFun (HZ.set_objs s.h s.h.n (some (.loop N2 s.t.env ps2 .skip .skip .ready none))) j
              exact this
            simp only [H.sg, e2]
            change Option.map _ (upd s.h.hp.objs s.h.n _ j) = upd _ s.h.n _ j
            simp only [upd]
            by_cases e : j = s.h.n
            · simp only [if_pos e, Option.map_some, sgO]
            · simp only [if_neg e]
          rw [e1] at ac
          refine ⟨r, _, _, _, _, t2, st, pd, e2, ac, Nat.le_of_ble_eq_true hcond.2.1, Nat.le_of_ble_eq_true hcond.2.2, ?_, ?_, endLoop_ok hend, rfl, ?_⟩
          · change Option.map _ (s2.h.hp.objs s.h.hp.n) = _
            rw [ho2]
            simp only [Option.map_some, sgO, upd]
            simp only [if_pos (show s.h.hp.n = s.h.n from rfl)]
          · have := hcond.1.2
            intro e; rw [e] at this; cases this
          · rw [SZ.st]
            refine congrArg (St.mk s.t.env) ?_
            rw [HZ.set_hp]
            refine H.ext (fun j => ?_) rfl rfl rfl
            simp only [H.sg, upd]
            change (if j = s.h.n then none else Option.map (sgO (if j = s.h.n then (asg, body) else σ j)) (s2.h.hp.objs j)) = Option.map (sgO (σ j)) (if j = s.h.n then none else s2.h.hp.objs j)
            by_cases e : j = s.h.n
            · simp only [if_pos e, Option.map_none]
            · simp only [if_neg e]
        · cases h
      · cases h
    · cases h
  · cases h
def NoL (h : H) : Prop := ∀ j o, h.objs j = some o → ∀ σ, sgO σ o = o
theorem NoL.sg {h : H} (hn : NoL h) (σ : Sg) : h.sg σ = h := H.ext (fun j => by
  simp only [H.sg]
  cases e : h.objs j with
  | none => rfl
  | some o => simp [hn j o e]) rfl rfl rfl
theorem NoL.none {n : Nat} {T : List Nat} {m : Nat} : NoL (.only none' T n m) := fun j o h => by simp [H.only, none'] at h
theorem NoL.upd {f : Nat → Option Obj} {i : Nat} {cs : List AV} {n n' : Nat} {T T' : List Nat} {m m' : Nat} (h : NoL ⟨f, n, T, m⟩) : NoL ⟨Av.upd f i (some (.cells cs)), n', T', m'⟩ := fun j o e => by
  simp only [Av.upd] at e
  split at e
  · cases e; intro σ; rfl
  · exact h j o e
noncomputable def orPrimsZ (p q : PrimsZ) : PrimsZ := fun f args h => match p f args h with
  | some r => some r
  | none => q f args h
theorem orPrimsZ_ok {p q : PrimsZ} (hp : PrimsOkZ P p) (hq : PrimsOkZ P q) : PrimsOkZ P (orPrimsZ p q) := by
  intro σ f args h r h' en hx
  unfold orPrimsZ at hx
  split at hx
  · rename_i r0 h0
    cases hx
    exact hp σ _ _ _ _ _ _ h0
  · exact hq σ _ _ _ _ _ _ hx
noncomputable def purePrimZ (pp : Nat → List AV → Option AV) : PrimsZ := fun f args h => match pp f args with
  | some r => some (r, h, ent0)
  | none => none
theorem purePrimZ_ok {pp : Nat → List AV → Option AV} (hc : ∀ f args r, pp f args = some r → (∃ vals, VSubs args vals ∧ PCalls P f vals r) ∧ NamedF P f) : PrimsOkZ P (purePrimZ pp) := by
  intro σ f args h r h' en hx
  unfold purePrimZ at hx
  split at hx
  · rename_i r0 h0
    cases hx
    obtain ⟨⟨vals, h1, h2⟩, h3⟩ := hc _ _ _ h0
    exact ⟨⟨_, _, touch_none (h.hp.sg σ), fun G w vs hv R F => h2 _ _ G w vs (h1 G w vs hv) R F⟩, h3⟩
  · cases hx
end
end Go.Av
end
section
set_option linter.unusedVariables false
set_option linter.unusedSimpArgs false
namespace Go.Av
section
variable {P : Program} {N : Nat}
theorem WpItemsF.evA : ∀ {items its : List AItem} {t t' : Tm} {h h' : H} {log log' : List Ent} {K : Tm → H → Prop}, evalOps items t h log = (its, t', h', log') → WpItemsF P N its t' h' K → WpItemsF P N items t h K
  | [], its, t, t', h, h', log, log', K, he, hw => by simp only [evalOps, Prod.mk.injEq] at he; obtain ⟨rfl, rfl, rfl, rfl⟩ := he; exact hw
  | it :: items, its, t, t', h, h', log, log', K, he, hw => by
    simp only [evalOps] at he
    split at he
    · rename_i hg
      split at he
      · rename_i x h2 en hx
        refine WpItemsF.step (fun ops i o ho hit => ?_) (WpItemsF.evA he hw)
        obtain ⟨h1, h1', tc, run⟩ := itrun_op ho hit hg hx
        exact (Near.frun (N := N) (full := false) (.inl tc) run)
      · simp only [Prod.mk.injEq] at he; obtain ⟨rfl, rfl, rfl, rfl⟩ := he; exact hw
    · rename_i hg
      exact WpItemsF.step (fun ops i o ho hit => Near.frun (N := N) (full := false) (.inl (touch_none h)) (itrun_skip ho hit hg)) (WpItemsF.evA he hw)
    · simp only [Prod.mk.injEq] at he; obtain ⟨rfl, rfl, rfl, rfl⟩ := he; exact hw
theorem WpItemsF.evF {items its : List AItem} {t t' : Tm} {h h' : H} {log : List Ent} {K : Tm → H → Prop} (he : evalR items t h [] = some (its, t', h', log)) (hw : WpItemsF P N its t' h' K) : WpItemsF P N items t h K := WpItemsF.evA (evalR_ok he) hw
theorem Wp.itemsF {items its : List AItem} {s : St} {Q : AExit → St → Prop} {t' : Tm} {h' : H} {log : List Ent} (he : evalR items s.t s.h [] = some (its, t', h', log)) (h : WpItemsF P N its t' h' fun t h => Q .normal ⟨t, h⟩) : Wp P N (.reg items none) s Q := Wp.regF (WpItemsF.evF he h)
theorem Wp.seqItemsF {items its : List AItem} {y : AC} {s : St} {Q : AExit → St → Prop} {t' : Tm} {h' : H} {log : List Ent} (he : evalR items s.t s.h [] = some (its, t', h', log)) (h : WpItemsF P N its t' h' fun t h => Wp P N y ⟨t, h⟩ Q) : Wp P N (.seq (.reg items none) y) s Q := Wp.seq (Wp.itemsF he h)
theorem WpItemsF.acall {dst : Option Nat} {g : Option (Nat × Bool)} {f : FuncId} {l : List Opd} {its : List AItem} {t : Tm} {h h' : H} {K : Tm → H → Prop} {vals : List AV} {r : AV} (hg : guardOf t g = some true) (hs : VSubs (l.map (ev t)) vals) (hn : h.n ≤ h'.n ∧ h.m ≤ h'.m) (hc : ACalls P f vals h r h')
    (rest : WpItemsF P N its (putT t dst r) h' K) : WpItemsF P N (⟨dst, g, .call f l⟩ :: its) t h K :=
  WpItemsF.step (fun ops i o ho hit => FRun.full hn (itrun_call ho hit hg rfl hs hc)) rest
theorem WpItemsF.pcall {dst : Option Nat} {g : Option (Nat × Bool)} {f : FuncId} {l : List Opd} {its : List AItem} {t : Tm} {h : H} {K : Tm → H → Prop} {vals : List AV} {r : AV} (hg : guardOf t g = some true) (hs : VSubs (l.map (ev t)) vals) (hc : PCalls P f vals r)
    (rest : WpItemsF P N its (putT t dst r) h K) : WpItemsF P N (⟨dst, g, .call f l⟩ :: its) t h K :=
  WpItemsF.step (fun ops i o ho hit => Near.frun (N := N) (full := false) (.inl (touch_none h)) (itrun_call ho hit hg rfl hs (hc h.n h.m))) rest
theorem ACalls.frame {f : FuncId} {args : List AV} {h h1 h1' : H} {r : AV} (hs : h1.sub h) (hn : h1.n = h.n) (hm : h1.m = h.m) (ln : h1.n ≤ h1'.n) (lm : h1.m ≤ h1'.m) (hc : ACalls P f args h1 r h1') : ACalls P f args h r (h.patch h1 h1') := by
  intro G w vs hv R F
  have F1 : Fresh G h1 h1' := ⟨fun id a b => F.1 id (by omega) b, fun t a b => F.2 t (by omega) b⟩
  refine (hc G w vs hv (R.sub hs) F1).mono ?_
  rintro e w' ⟨v, G', rfl, T, R', V⟩
  obtain ⟨R2, T2⟩ := Av.frame R hs hn hm R' T F1
  exact ⟨v, G', rfl, T2, R2, V⟩
end
end Go.Av
end
section
set_option linter.unusedVariables false
set_option linter.unusedSimpArgs false
namespace Go.Av
section
variable {P : Program} {N : Nat}
end
end Go.Av
end
section
set_option linter.unusedSimpArgs false
set_option linter.unusedVariables false
set_option maxRecDepth 100000
namespace Go.Proofs.YtehhdhadmapplaaGreat.Tree
open Go Go.Av Go.Proofs Go.Proofs.YtehhdhadmapplaaGreat.C
theorem try_idle (p : Addr) (w : World) :
    CallsD Tryz.prog 139 #[.pointer (some p)] .returning w fun e u' w' => e = .returned (.tuple #[]) ∧ u' = .returning ∧ w' = w := by
  refine callsD_of_wpS Tryz.func139 rfl fun c₀ cs hu => ?_
  apply wpS_seq
  apply wpS_region
  simp [wpOpsS, go_sem, recoverD, hu, Tryz.ntmps139, Exit.thenS]
  apply wpS_seq
  apply wpS_seq
  apply wpS_region
  simp [wpOpsS, go_sem, Array.replicate]
  refine wpS_cond (t := true) (by simp [Act.eval]) ?_
  simp only [if_true]
  refine wpS_of_wp (wp_ret ?_)
  cases c₀
  simp_all [Exit.thenS, bodyPostS, results, Tryz.results139]
theorem assert_p (k : Int) (w : World) : (Instr.typeAssert (.iface 26 (.int .i64 k)) 20 26 true).run Tryz.prog w = .ok (.tuple #[.int .i64 k, .bool true]) w := by kernel_rfl
theorem try_caught (p : Addr) (x : Int) (k : Int) (w : World) (hc : w.cell? p = some (.int .i64 x)) (hz : w.frozen? p = false) :
    CallsD Tryz.prog 139 #[.pointer (some p)] (.panicking [{ v := .iface 26 (.int .i64 k), recovered := false }]) w fun e u' w' =>
      e = .returned (.tuple #[]) ∧ u' = .panicking [{ v := .iface 26 (.int .i64 k), recovered := true }] ∧ w' = w.setCell p (.int .i64 k) := by
  refine callsD_of_wpS Tryz.func139 rfl fun c₀ cs hu => ?_
  apply wpS_seq
  apply wpS_region
  simp [wpOpsS, go_sem, recoverD, hu, Tryz.ntmps139, Exit.thenS]
  apply wpS_seq
  apply wpS_seq
  apply wpS_region
  simp [wpOpsS, go_sem, Array.replicate]
  refine wpS_cond (t := false) (by simp [Act.eval]) ?_
  simp only [Bool.false_eq_true, if_false]
  refine wpS_of_wp (wp_skip ?_)
  simp only [Exit.thenS]
  apply wpS_seq
  apply wpS_region
  simp [wpOpsS, go_sem, Exit.thenS, assert_p]
  apply wpS_seq
  apply wpS_seq
  apply wpS_region
  simp [wpOpsS, go_sem]
  refine wpS_cond (t := false) (by simp [Act.eval]) ?_
  simp only [Bool.false_eq_true, if_false]
  refine wpS_of_wp (wp_skip ?_)
  simp only [Exit.thenS]
  apply wpS_region
  simp [wpOpsS, go_sem, hc, hz, bodyPostS, results, Tryz.results139]
theorem try_world {G G2 : Ghost} {w w1 w2 : World} {h h' : H} {x : Value} (k : Value) (R : RepH G h w) (T1 : Av.Trans G w h (ownB G w.heap.size) w1 h) (R1 : RepH (ownB G w.heap.size) h w1) (hs : w.heap.size < w1.heap.size) (n1 : ¬ h.O (ownB G w.heap.size) w.heap.size)
    (T2 : Av.Trans (ownB G w.heap.size) w1 h G2 w2 h') (R2 : RepH G2 h' w2) {T : TypeId} {fr : Nat × Nat} (hA : w2.heap[w.heap.size]? = some (.cells #[x] T fr)) :
    Av.Trans G w h G2 (w2.setCell ⟨w.heap.size, 0, none⟩ k) h' ∧ RepH G2 h' (w2.setCell ⟨w.heap.size, 0, none⟩ k) := by
  have ho : G2.own w.heap.size := (T2.own_keep _ hs n1).2 (.inl rfl)
  have t := setO_cell (x := k) hA ho
  exact ⟨(T1.trans R R1 T2).set t (Nat.le_refl _), R2.set t fun x => n1 (T2.O_new _ hs x)⟩
def OpenT (h : H) (id : Nat) : Prop := ∃ j o r, h.objs id = some (.cells [.ptr j o, r])
theorem opened_cell {h : H} {id : Nat} (ho : OpenT h id) {G : Ghost} {w : World} (R : RepH G h w) {T : TypeId} : ∃ ad, (w.alloc (.cells #[.int .i64 0] T)).cell? { block := G.ι id, off := 0 } = some (.pointer (some ad)) := by
  obtain ⟨j, o, r, ho⟩ := ho
  obtain ⟨-, -, d3, -⟩ := R.obj id _ ho
  obtain ⟨vs, rest, T0, fr, hg, hvs, hfr, hone⟩ := obj_cells R ho
  simp only [VRels, VRel] at hvs
  obtain ⟨v, us, rfl, ⟨-, rfl⟩, -⟩ := hvs
  refine ⟨⟨G.ι j, o, none⟩, ?_⟩
  have hp : Pushed w (w.alloc (.cells #[.int .i64 0] T)) (.cells #[.int .i64 0] T) := ⟨rfl, rfl, rfl⟩
  have hk : (w.alloc (.cells #[.int .i64 0] T)).heap[G.ι id]? = w.heap[G.ι id]? := by
    rw [show (w.alloc (.cells #[.int .i64 0] T)).heap = w.heap.push (.cells #[.int .i64 0] T) from rfl, Array.getElem?_push, if_neg (Nat.ne_of_lt d3)]
  unfold World.cell?
  simp [hk, hg]
theorem try_ok {id g : Nat} {fn : Func} {first caps : List AV} {h h' : H} {r : AV} (ho : OpenT h id) (hg : Tryz.prog.funcs[g]? = some fn) (hb : fn.body.isSome = true) (hn : fn.name ≠ "runtime.NumGoroutine")
    (hc : ACalls Tryz.prog g (first ++ caps) h r h') : ACalls Tryz.prog 51 [.ptr id 0, .clo (.func g) first caps] h (.int .i64 0) h' := by
  intro G w vs hv R F
  simp only [VRels, VRel] at hv
  obtain ⟨v0, us0, rfl, ⟨hd, rfl⟩, v, us, rfl, ⟨fv, cv, rfl, h1, h2⟩, rfl⟩ := hv
  have hmf : ∀ (fn : Fn) (first cap : Array Value) (w : World), (Instr.makeFunc fn first cap).run Tryz.prog w = .ok (.func fn first cap) w := fun _ _ _ _ => rfl
  obtain ⟨ad, hcl⟩ := opened_cell (T := 26) ho R
  go_enter_defers Tryz.func51, Tryz.ntmps51
  go_wp2
  rename_i Q' K1 k1 K2 k2
  rw [run_callFunc _ hg hb hn]
  let o : Go.Obj := .cells #[.int .i64 0] 26
  have hp : Pushed w (w.alloc o) o := ⟨rfl, rfl, rfl⟩
  obtain ⟨T1, R1, n1, n2⟩ := push_own R hp
  have F1 : Fresh (ownB G w.heap.size) h h' := F
  have hv1 : VRels (ownB G w.heap.size) (w.alloc o) (first ++ caps) (fv ++ cv) := (VRels.mono R T1 _ _ h1).append (VRels.mono R T1 _ _ h2)
  show Calls _ _ _ _ _
  refine (hc _ _ _ hv1 R1 F1).mono ?_
  rintro e w2 ⟨v2, G2, rfl, T2, R2, -⟩
  have hA : w2.heap[w.heap.size]? = some o := (T2.keep _ (by rw [hp.size]; omega) n1 n2).trans hp.new
  have hcell : w2.cell? { block := w.heap.size, off := 0 } = some (.int .i64 0) := by
    unfold World.cell?; simp only [hA, o]; rfl
  have hfz : w2.frozen? { block := w.heap.size, off := 0 } = false := by
    unfold World.frozen?; simp only [hA, o]; rfl
  apply k2
  go_wp2
  obtain ⟨T3, R3⟩ := try_world (.int .i64 0) R T1 R1 (by rw [hp.size]; omega) n1 T2 R2 hA
  have hB := set_new (x := .int .i64 0) hA
  refine leaves_cons (f := 139) (args := #[.pointer (some ⟨w.heap.size, 0, none⟩)]) (by simp) (by simp [go_sem]) ?_
  refine (try_idle ⟨w.heap.size, 0, none⟩ _).mono ?_
  rintro e u' w'' ⟨rfl, rfl, rfl⟩
  generalize w2.setCell ⟨w.heap.size, 0, none⟩ (.int .i64 0) = w3 at T3 R3 hB ⊢
  have hcell3 : w3.cell? { block := w.heap.size, off := 0 } = some (.int .i64 0) := by
    unfold World.cell?; simp only [hB]; rfl
  simp [Leaves, settle, results, Tryz.results51, go_sem, hcell3]
  exact ⟨G2, T3, R3, by simp [VRel]⟩
theorem try_pan {id g : Nat} {fn : Func} {first caps : List AV} {h h' : H} {k : Int} (ho : OpenT h id) (hg : Tryz.prog.funcs[g]? = some fn) (hb : fn.body.isSome = true) (hn : fn.name ≠ "runtime.NumGoroutine")
    (hc : PanCalls Tryz.prog g (first ++ caps) h (.iface 26 (.int .i64 k)) h') : ACalls Tryz.prog 51 [.ptr id 0, .clo (.func g) first caps] h (.int .i64 k) h' := by
  intro G w vs hv R F
  simp only [VRels, VRel] at hv
  obtain ⟨v0, us0, rfl, ⟨hd, rfl⟩, v, us, rfl, ⟨fv, cv, rfl, h1, h2⟩, rfl⟩ := hv
  have hmf : ∀ (fn : Fn) (first cap : Array Value) (w : World), (Instr.makeFunc fn first cap).run Tryz.prog w = .ok (.func fn first cap) w := fun _ _ _ _ => rfl
  obtain ⟨ad, hcl⟩ := opened_cell (T := 26) ho R
  go_enter_defers Tryz.func51, Tryz.ntmps51
  go_wp2
  rename_i Q' K1 k1 K2 k2
  rw [run_callFunc _ hg hb hn]
  let o : Go.Obj := .cells #[.int .i64 0] 26
  have hp : Pushed w (w.alloc o) o := ⟨rfl, rfl, rfl⟩
  obtain ⟨T1, R1, n1, n2⟩ := push_own R hp
  have F1 : Fresh (ownB G w.heap.size) h h' := F
  have hv1 : VRels (ownB G w.heap.size) (w.alloc o) (first ++ caps) (fv ++ cv) := (VRels.mono R T1 _ _ h1).append (VRels.mono R T1 _ _ h2)
  show Calls _ _ _ _ _
  refine (hc _ _ _ hv1 R1 F1).mono ?_
  rintro e w2 ⟨G2, rfl, T2, R2⟩
  have hA : w2.heap[w.heap.size]? = some o := (T2.keep _ (by rw [hp.size]; omega) n1 n2).trans hp.new
  have hcell : w2.cell? { block := w.heap.size, off := 0 } = some (.int .i64 0) := by
    unfold World.cell?; simp only [hA, o]; rfl
  have hfz : w2.frozen? { block := w.heap.size, off := 0 } = false := by
    unfold World.frozen?; simp only [hA, o]; rfl
  obtain ⟨T3, R3⟩ := try_world (.int .i64 k) R T1 R1 (by rw [hp.size]; omega) n1 T2 R2 hA
  have hB := set_new (x := .int .i64 k) hA
  show Leaves _ _ _ _ _ _ _
  refine leaves_cons (f := 139) (args := #[.pointer (some ⟨w.heap.size, 0, none⟩)]) (by simp) (by simp [go_sem]) ?_
  refine (try_caught ⟨w.heap.size, 0, none⟩ 0 k _ hcell hfz).mono ?_
  rintro e u' w'' ⟨rfl, rfl, rfl⟩
  generalize w2.setCell ⟨w.heap.size, 0, none⟩ (.int .i64 k) = w3 at T3 R3 hB ⊢
  have hcell3 : w3.cell? { block := w.heap.size, off := 0 } = some (.int .i64 k) := by
    unfold World.cell?; simp only [hB]; rfl
  simp [Leaves, settle, results, Tryz.results51, go_sem, hcell3]
  exact ⟨G2, T3, R3, by simp [VRel]⟩
end Go.Proofs.YtehhdhadmapplaaGreat.Tree
end
section
set_option linter.unusedVariables false
set_option linter.unusedSimpArgs false
namespace Go.Av
section
variable {P : Program} {N : Nat} {ops : Array Oper}
def FPan (P : Program) (ops : Array Oper) (i : Nat) (o : Oper) (t : Tm) (h : H) (v : Value) (h' : H) : Prop :=
  (h.n ≤ h'.n ∧ h.m ≤ h'.m) ∧ ∀ G w a, TRel G w t a → RepH G h w → Fresh G h h' → ∀ (K : Act → World → Prop) Q,
    (∀ G' w', Trans G w h G' w' h' → RepH G' h' w' → Q (.panic [{ v := v, recovered := false }]) a w') → ∀ ro, wpOpIn (rd ro) 0 P ops Q i K a w
theorem FPan.of {i : Nat} {o : Oper} {t : Tm} {h h1 h1' h' : H} {v : Value} {en : Ent} (tc : Touch h h1 h1' h' en) (run : PanRun P ops i o t h1 v h1') : FPan P ops i o t h v h' := by
  have e3 : h'.n = h1'.n := by rw [tc.eq]; rfl
  have e4 : h'.m = h1'.m := by rw [tc.eq]; rfl
  have e1 := tc.n
  have e2 := tc.m
  have l1 := tc.le
  have l2 := tc.lem
  refine ⟨⟨by omega, by omega⟩, fun G w a ht R U K Q hK ro => ?_⟩
  have F : Fresh G h1 h1' := U.sub (by omega) (by omega) (by omega) (by omega)
  refine run G w a (fun k _ => ht k) (R.sub tc.sub) F _ Q (fun G' w' T1 R1 => ?_) ro
  obtain ⟨R2, T2⟩ := frame R tc.sub tc.n tc.m R1 T1 F
  rw [← tc.eq] at R2 T2
  exact hK G' w' T2 R2
theorem FPan.full {i : Nat} {o : Oper} {t : Tm} {h h' : H} {v : Value} (hn : h.n ≤ h'.n ∧ h.m ≤ h'.m) (run : PanRun P ops i o t h v h') : FPan P ops i o t h v h' :=
  ⟨hn, fun G w a ht R U K Q hK ro => run G w a (fun k _ => ht k) R U K Q hK ro⟩
inductive PChain (P : Program) (ops : Array Oper) : Nat → Tm → H → Value → H → Prop where
  | here {i : Nat} {o : Oper} {t : Tm} {h h' : H} {v : Value} (ho : ops[i]? = some o) (run : FPan P ops i o t h v h') : PChain P ops i t h v h'
  | cons {i : Nat} {o : Oper} {t : Tm} {h h2 h' : H} {x : AV} {v : Value} (ho : ops[i]? = some o) (run : FRun P ops i o t h x h2) (rest : PChain P ops (i + 1) (putT t o.dst x) h2 v h') : PChain P ops i t h v h'
theorem PChain.nm {i : Nat} {t : Tm} {h h' : H} {v : Value} (c : PChain P ops i t h v h') : h.n ≤ h'.n ∧ h.m ≤ h'.m := by
  induction c with
  | here ho run => exact run.1
  | cons ho run rest ih => have := run.1; omega
theorem pchain_seq (ro : Option Nat) {Q : Exit → Act → World → Prop} (hN : ∀ (i : Nat) o d, ops[i]? = some o → o.dst = some d → d < N) : ∀ {i : Nat} {t : Tm} {h h' : H} {v : Value}, PChain P ops i t h v h' →
    ∀ (G : Ghost) (w : World) (a : Act), a.tmps.size = N → TRel G w t a → RepH G h w → Fresh G h h' →
      (∀ G' w' a', Trans G w h G' w' h' → RepH G' h' w' → a'.tmps.size = N → a'.defers = a.defers → Q (.panic [{ v := v, recovered := false }]) a' w') → wpOpsIn (rd ro) 0 P ops Q (List.range' i (ops.size - i)) a w := by
  intro i t h h' v hc
  induction hc with
  | @here i o t h h' v ho run =>
    intro G w a hs ht R U hq
    have hi : i < ops.size := (Array.getElem?_eq_some_iff.1 ho).1
    have : ops.size - i = (ops.size - (i + 1)) + 1 := by omega
    rw [this, List.range'_succ, wpOpsIn_cons]
    exact run.2 G w a ht R U _ Q (fun G' w' T R' => hq G' w' a T R' hs rfl) ro
  | @cons i o t h h2 h' x v ho run rest ih =>
    intro G w a hs ht R U hq
    have hi : i < ops.size := (Array.getElem?_eq_some_iff.1 ho).1
    have : ops.size - i = (ops.size - (i + 1)) + 1 := by omega
    rw [this, List.range'_succ, wpOpsIn_cons]
    have nm := rest.nm
    have nm2 := run.1
    refine run.2 G w a ht R (U.sub (Nat.le_refl _) nm.1 (Nat.le_refl _) nm.2) _ Q (fun G' w' y T2 R2 V => ?_) ro
    refine ih G' w' _ (by rw [put_size]; exact hs) (put_rel (ht.mono R T2) V fun k hk => by rw [hs]; exact hN i o k ho hk) R2 (U.step T2) fun G'' w'' a'' T3 h2 h3 h4 => ?_
    exact hq G'' w'' a'' (T2.trans R R2 T3) h2 h3 (h4.trans (put_defers _ _ _))
def WpItemsQ (P : Program) (N : Nat) (items : List AItem) (t : Tm) (h : H) (v : Value) (h' : H) : Prop :=
  ∀ ops i, i ≤ ops.size → cItems P N ops (ops.toList.drop i) = some items → PChain P ops i t h v h'
theorem WpItemsQ.step {it : AItem} {its : List AItem} {t : Tm} {h h2 h' : H} {x : AV} {v : Value}
    (run : ∀ (ops : Array Oper) i o, ops[i]? = some o → cItem P N ops o = some it → FRun P ops i o t h x h2) (rest : WpItemsQ P N its (putT t it.dst x) h2 v h') : WpItemsQ P N (it :: its) t h v h' := by
  intro ops i hi hc
  obtain ⟨o, ho, hit, hi', hc'⟩ := items_cons hi hc
  have ch := rest ops (i + 1) hi' hc'
  exact .cons ho (run ops i o ho hit) (by rw [← cItem_dst hit]; exact ch)
theorem WpItemsQ.here {it : AItem} {its : List AItem} {t : Tm} {h h' : H} {v : Value}
    (run : ∀ (ops : Array Oper) i o, ops[i]? = some o → cItem P N ops o = some it → FPan P ops i o t h v h') : WpItemsQ P N (it :: its) t h v h' := by
  intro ops i hi hc
  obtain ⟨o, ho, hit, hi', hc'⟩ := items_cons hi hc
  exact .here ho (run ops i o ho hit)
theorem Wp.regQ {items : List AItem} {s : St} {Q : AExit → St → Prop} {v : Value} {h' : H} (h : WpItemsQ P N items s.t s.h v h') (hq : Q (.panic v) ⟨fun _ => .any, h'⟩) : Wp P N (.reg items none) s Q := by
  intro code hc
  obtain ⟨id, ops, draw, rfl, hi, hd⟩ := code_reg hc
  have ch := h ops 0 (Nat.zero_le _) (by simpa using hi)
  have nm := ch.nm
  obtain ⟨cl, ci⟩ := cItems_len hi
  have hN : ∀ (i : Nat) o d, ops[i]? = some o → o.dst = some d → d < N := by
    intro i o d ho hdd
    have hlt : i < ops.size := (Array.getElem?_eq_some_iff.1 ho).1
    have hit : i < items.length := by rw [cl]; simpa using hlt
    have := ci i o items[i] (by simpa using ho) (List.getElem?_eq_getElem hit)
    generalize items[i] = it at this
    unfold cItem at this
    split at this
    · split at this <;> cases this
      rename_i hcond
      simp only [Bool.and_eq_true] at hcond
      have := hcond.1
      rw [hdd] at this
      simpa using this
    · cases this
  refine ⟨.panic v, ⟨fun _ => .any, h'⟩, ⟨nm, fun ro okc G w a r F => ?_⟩, hq⟩
  rcases hd with ⟨rfl, -⟩ | ⟨-, -, -, hn⟩
  · refine wpIn_region ?_
    rw [List.range_eq_range']
    have := pchain_seq ro (Q := fun e' a' w' => (AExit.panic v).says e' ∧ NewM w a.defers a'.defers ∧ ∃ G', Trans G w s.h G' w' h' ∧ Rel N ⟨fun _ => .any, h'⟩ G' w' a') hN ch G w a r.size r.t r.h F
      (fun G' w' a' T1 R1 s1 d1 => ⟨rfl, by rw [d1]; exact .refl, G', T1, ⟨s1, fun _ => by simp [VRel], R1, by rw [d1]; exact r.df.mono T1⟩⟩)
    simpa using this
  · cases hn
end
abbrev TryZ := Nat → List AV → (Nat → Option Obj) → Option (Nat × List AV)
noncomputable def panZ (e : AExit) : Option Value := match e with
  | .panic v => some v
  | _ => none
noncomputable def numOf (ty : Nat) (v : Value) : Option Int := match v with
  | .iface u (.int .i64 z) => match Nat.beq u ty with
    | true => some z
    | false => none
  | _ => none
noncomputable def pcallP (T : FT) (rn : RnZ) (f : Nat) (args : List AV) (h : HZ) : Option (Value × HZ) :=
  match getF f T with
  | none => none
  | some F => match Nat.ble args.length F.N with
    | false => none
    | true => match rn F.N F.ac ⟨argsE args 0 (.leaf []), h⟩ with
      | some (e, s) => match panZ e, leZ h s.h with
        | some v, true => some (v, s.h)
        | _, _ => none
      | none => none
noncomputable def panItem (pc : Nat → List AV → HZ → Option (Value × HZ)) (op : AOp) (t : TR AV) (h : HZ) : Option (Value × HZ) :=
  match op with
  | .call f args => pc f (args.map (ev t.env)) h
  | .callv y args => match ev t.env y with
    | .clo (.func f) first caps => pc f (first ++ args.map (ev t.env) ++ caps) h
    | _ => none
  | .pan y => match ev t.env y with
    | .ifc ty (.int k z) => some (.iface ty (.int k z), h)
    | _ => none
  | _ => none
noncomputable def panItems (call yld : Nat → List AV → HZ → Option (AV × HZ × Ent)) (pc : Nat → List AV → HZ → Option (Value × HZ)) (items : List AItem) : TR AV → HZ → Option (Value × HZ) :=
  List.rec (motive := fun _ => TR AV → HZ → Option (Value × HZ)) (fun _ _ => none) (fun it its ih t h => match guardOf t.env it.guard with
    | some true => match (compI it.dst its it.op).run call yld t h with
      | some r => ih (putE t it.dst r.1) r.2.1
      | none => panItem pc it.op t h
    | some false => ih (putE t it.dst (.sc undef)) h
    | none => none) items
noncomputable def tryEnd (ty : Nat) (r : Option (AExit × SZ)) (ds : List RV) : Option (AV × HZ) :=
  match r with
  | some (e, s) => match panZ e with
    | some v => match numOf ty v with
      | some z => some (.int .i64 z, s.h)
      | none => none
    | none => match isEndB e, resZ ds s.t s.h with
      | true, some _ => some (.int .i64 0, s.h)
      | _, _ => none
  | none => none
abbrev PrimsF := Nat → List AV → HZ → Option (AV × HZ)
noncomputable def thawZ (n : Nat) (r : Option (AV × HZ)) : Option (AV × HZ) := match r with
  | some (x, h') => some (unT h'.hp (fun j => Nat.ble n j && Nat.blt j h'.n) x, ⟨putAll (fun _ => none) (newIds n h'.n) h'.o, h'.n, h'.toks, h'.m⟩)
  | none => none
noncomputable def coreP (T : FT) (pf : PrimsF) (fz : Nat → Bool) (ty : Nat) (tr : TryZ) (rn : RnZ) (f : Nat) (args : List AV) (h : HZ) : Option (AV × HZ) :=
  match pf f args h with
  | some r => some r
  | none => match tr f args h.at with
    | some (g, args') => (match getF g T with
      | none => none
      | some F => match Nat.ble args'.length F.N with
        | false => none
        | true => tryEnd ty (rn F.N F.ac ⟨argsE args' 0 (.leaf []), h⟩) F.ds)
    | none => match getF f T with
      | none => none
      | some F => match Nat.ble args.length F.N with
        | false => none
        | true => match fz f with
          | true => thawZ h.n (endZ F.ds (rn F.N F.ac ⟨argsE args 0 (.leaf []), h⟩))
          | false => endZ F.ds (rn F.N F.ac ⟨argsE args 0 (.leaf []), h⟩)
noncomputable def callP (pr : PrimsZ) (core : Nat → List AV → HZ → Option (AV × HZ)) (full : Bool) (f : Nat) (args : List AV) (h : HZ) : Option (AV × HZ × Ent) :=
  match pr f args h with
  | some r => some r
  | none => match puresZ args with
    | true => (match core f args (HZ0 h.n h.m) with
      | some (r, h') => (match pureZ r with
        | true => some (r, h, ent0)
        | false => match leZ h h' with
          | true => some (r, h.patch [] [] h', ⟨[], newIds h.n h'.n, h'.toks⟩)
          | false => none)
      | none => none)
    | false => match full with
      | true => (match core f args h with
        | some (r, h') => (match leZ h h' with
          | true => some (r, h', ent0)
          | false => none)
        | none => none)
      | false =>
        let ids := reachZ h.at 1000000 (idsAs args) []
        let h1 := h.cut ids (toksAs args ++ toksInY h.at ids)
        match core f args h1 with
        | some (r, h') => (match leZ h h' with
          | true => some (r, h.patch ids h1.toks h', ⟨[], ids ++ newIds h.n h'.n, h1.toks ++ h'.toks⟩)
          | false => none)
        | none => none
noncomputable def regP (T : FT) (pr : PrimsZ) (pf : PrimsF) (fz : Nat → Bool) (ty : Nat) (tr : TryZ) (rn : RnZ) (L : List LR) (items : List AItem) (p : Option (List (Nat × Nat))) (s : SZ) : Option (AExit × SZ) :=
  match p with
  | none => match (compItems items).go (callP pr (coreP T pf fz ty tr rn) true) (yldZ L rn true) s.t s.h [] with
    | some r => some (.normal, ⟨r.1, r.2.1⟩)
    | none => match panItems (callP pr (coreP T pf fz ty tr rn) true) (yldZ L rn true) (pcallP T rn) items s.t s.h with
      | some (v, h) => some (.panic v, ⟨.leaf [], h⟩)
      | none => none
  | some q => match (compItems items).go (callP pr (coreP T pf fz ty tr rn) false) (yldZ L rn false) s.t s.h [] with
    | some r => match pairsB q r.2.2.reverse with
      | true => some (.normal, ⟨r.1, r.2.1⟩)
      | false => none
    | none => none
noncomputable def stepP (T : FT) (pr : PrimsZ) (pf : PrimsF) (fz : Nat → Bool) (ty : Nat) (tr : TryZ) (k : Nat) (rn : List LR → RnZ) (L : List LR) (N : Nat) (c : AC) (s : SZ) : Option (AExit × SZ) :=
  match c with
  | .skip => some (.normal, s)
  | .ret => some (.ret, s)
  | .exit i => some (.exit i, s)
  | .reg items p => regP T pr pf fz ty tr (rn L) L items p s
  | .seq a b => seqZ (rn L N) a b s
  | .cond c a b => condZ (rn L N) c a b s
  | .block id a => blockZ (rn L N) id a s
  | .loop a => loopZ (rn L N) a s
  | .label _ => some (.normal, s)
  | .goto l => some (.goto l, s)
  | .scope a => runSZ (rn L N) a k a s
  | .rfun g ps x y => rfunZ T rn L N g ps x y s
noncomputable def runP (T : FT) (pr : PrimsZ) (pf : PrimsF) (fz : Nat → Bool) (ty : Nat) (tr : TryZ) (k : Nat) : List LR → RnZ :=
  Nat.rec (motive := fun _ => List LR → RnZ) (fun _ _ _ _ => none) (fun k rn L N c s => stepP T pr pf fz ty tr k rn L N c s) k
theorem runP_zero (T : FT) (pr : PrimsZ) (pf : PrimsF) (fz : Nat → Bool) (ty : Nat) (tr : TryZ) (L : List LR) (N : Nat) (c : AC) (s : SZ) : runP T pr pf fz ty tr 0 L N c s = none := rfl
theorem runP_succ (T : FT) (pr : PrimsZ) (pf : PrimsF) (fz : Nat → Bool) (ty : Nat) (tr : TryZ) (k : Nat) (L : List LR) (N : Nat) (c : AC) (s : SZ) : runP T pr pf fz ty tr (k + 1) L N c s = stepP T pr pf fz ty tr k (runP T pr pf fz ty tr k) L N c s := rfl
section
variable {P : Program} {T : FT}
def TryOk (P : Program) (ty : Nat) (tr : TryZ) : Prop := ∀ σ f args (h : HZ) g args', tr f args h.at = some (g, args') → NamedF P f ∧ (NamedF P g → (∀ r h', ACalls P g args' (h.hp.sg σ) r h' → ACalls P f args (h.hp.sg σ) (.int .i64 0) h') ∧
  (∀ z h', PanCalls P g args' (h.hp.sg σ) (.iface ty (.int .i64 z)) h' → ACalls P f args (h.hp.sg σ) (.int .i64 z) h'))
theorem panZ_ok {e : AExit} {v : Value} (h : panZ e = some v) : e = .panic v := by
  cases e <;> simp_all [panZ]
theorem numOf_ok {ty : Nat} {v : Value} {z : Int} (h : numOf ty v = some z) : v = .iface ty (.int .i64 z) := by
  unfold numOf at h
  split at h
  · split at h
    · rename_i e
      cases h
      rw [Nat.eq_of_beq_eq_true e]
    · cases h
  · cases h
theorem pans_run {σ : Sg} {rn : RnZ} (hr : RunsOkZ P σ rn) {f : Nat} {F : Fun} (hF : FnIs P f F.N F.ac F.ds) {args : List AV} (hl : args.length ≤ F.N) {h1 : HZ} {v : Value} {s : SZ} (he : rn F.N F.ac ⟨argsE args 0 (.leaf []), h1⟩ = some (.panic v, s)) : PanCalls P f args (h1.hp.sg σ) v (s.h.hp.sg σ) := by
  obtain ⟨r', h', hc, e1, e2⟩ := hF.pans (args := args) (h := h1.hp.sg σ) (Q := fun q h => q = v ∧ h = s.h.hp.sg σ) hl (by
    have := hr _ _ _ _ _ he
    simp only [SZ.st, St.sg, argsE_init] at this
    exact Wp.mono this fun e2 s2 ⟨a, b⟩ => by
      subst a b
      exact ⟨v, rfl, rfl, rfl⟩)
  subst e1 e2
  exact hc
theorem pcallP_ok (ok : T.Ok P) (nm : T.named P = true) {σ : Sg} {rn : RnZ} (hr : RunsOkZ P σ rn) {f : Nat} {args : List AV} {h h' : HZ} {v : Value} (hc : pcallP T rn f args h = some (v, h')) :
    (h.n ≤ h'.n ∧ h.m ≤ h'.m) ∧ PanCalls P f args (h.hp.sg σ) v (h'.hp.sg σ) ∧ NamedF P f := by
  unfold pcallP at hc
  split at hc
  · cases hc
  · rename_i F hF
    rw [getF_eq] at hF
    obtain ⟨fi, fx⟩ := FT.get_ok ok nm hF
    split at hc
    · cases hc
    · rename_i hl
      have hl := Nat.le_of_ble_eq_true hl
      split at hc
      · rename_i e s he
        split at hc
        · rename_i v' hp hb
          cases hc
          rw [panZ_ok hp] at he
          exact ⟨leZ_ok hb, pans_run hr fi hl he, fx⟩
        · cases hc
      · cases hc
def PrimsOkF (P : Program) (pf : PrimsF) : Prop := ∀ σ f args h r h', pf f args h = some (r, h') → ACalls P f args (h.hp.sg σ) r (h'.hp.sg σ) ∧ NamedF P f
theorem unT_sg (σ : Sg) (h : H) (d : Nat → Bool) : (∀ x, unT (h.sg σ) d x = unT h d x) ∧ ∀ l, unTs (h.sg σ) d l = unTs h d l := by
  have hu : ∀ (x : AV), unT (h.sg σ) d x = unT h d x := by
    intro x
    refine AV.rec (motive_1 := fun x => unT (h.sg σ) d x = unT h d x) (motive_2 := fun l => unTs (h.sg σ) d l = unTs h d l) ?_ ?_ ?_ ?_ ?_ ?_ ?_ ?_ ?_ ?_ ?_ ?_ ?_ ?_ ?_ ?_ ?_ ?_ ?_ ?_ ?_ ?_ x
    all_goals (intros; try rfl)
    all_goals first
      | (simp only [unT, unTs, *]; done)
      | (simp only [unT, H.sg]
         generalize h.objs _ = q
         cases q with
         | none => rfl
         | some o => cases o <;> rfl)
  refine ⟨hu, fun l => ?_⟩
  induction l with
  | nil => rfl
  | cons x l ih => simp only [unTs, hu, ih]
theorem thawZ_ok {σ : Sg} {f : Nat} {args : List AV} {h h' : HZ} {n : Nat} {r : AV} {q : Option (AV × HZ)} (hq : ∀ r h', q = some (r, h') → ACalls P f args (h.hp.sg σ) r (h'.hp.sg σ)) (hc : thawZ n q = some (r, h')) : ACalls P f args (h.hp.sg σ) r (h'.hp.sg σ) := by
  unfold thawZ at hc
  split at hc
  · rename_i x h2
    cases hc
    have ac := (hq x h2 rfl).frz fun j => Nat.ble n j && Nat.blt j h2.n
    rw [(unT_sg σ h2.hp _).1] at ac
    have e : (⟨putAll (fun _ => none) (newIds n h2.n) h2.o, h2.n, h2.toks, h2.m⟩ : HZ).hp.sg σ = (h2.hp.sg σ).drop fun j => Nat.ble n j && Nat.blt j h2.n := by
      refine H.ext (fun j => ?_) rfl rfl rfl
      change ((⟨putAll (fun _ => none) (newIds n h2.n) h2.o, h2.n, h2.toks, h2.m⟩ : HZ).at j).map (sgO (σ j)) = if (Nat.ble n j && Nat.blt j h2.n) = true then none else (h2.at j).map (sgO (σ j))
      rw [HZ.at_putAll]
      have hm := @mem_newIds n h2.n j
      by_cases hj : j ∈ newIds n h2.n
      · rw [if_pos hj, if_pos]
        · rfl
        · have := hm.1 hj
          rw [Bool.and_eq_true]
          exact ⟨Nat.ble_eq_true_of_le this.1, Nat.ble_eq_true_of_le this.2⟩
      · rw [if_neg hj, if_neg]
        intro hb
        rw [Bool.and_eq_true] at hb
        exact hj (hm.2 ⟨Nat.le_of_ble_eq_true hb.1, Nat.le_of_ble_eq_true hb.2⟩)
    rw [e]
    exact ac
  · cases hc
theorem coreP_ok (ok : T.Ok P) (nm : T.named P = true) {σ : Sg} {pf : PrimsF} (hpf : PrimsOkF P pf) {fz : Nat → Bool} {ty : Nat} {tr : TryZ} (htr : TryOk P ty tr) {rn : RnZ} (hr : RunsOkZ P σ rn) {f : Nat} {args : List AV} {h h' : HZ} {r : AV} (hc : coreP T pf fz ty tr rn f args h = some (r, h')) :
    ACalls P f args (h.hp.sg σ) r (h'.hp.sg σ) ∧ NamedF P f := by
  unfold coreP at hc
  split at hc
  · rename_i q hq
    cases hc
    exact hpf σ _ _ _ _ _ hq
  split at hc
  · rename_i g args' ht
    obtain ⟨nf, hokp⟩ := htr σ _ _ _ _ _ ht
    refine ⟨?_, nf⟩
    split at hc
    · cases hc
    · rename_i F hF
      rw [getF_eq] at hF
      obtain ⟨fi, fx⟩ := FT.get_ok ok nm hF
      obtain ⟨hok, hpan⟩ := hokp fx
      split at hc
      · cases hc
      · rename_i hl
        have hl := Nat.le_of_ble_eq_true hl
        unfold tryEnd at hc
        split at hc
        · rename_i e s hrun
          split at hc
          · rename_i v hv
            split at hc
            · rename_i z hz
              cases hc
              have hv := panZ_ok hv
              have hz := numOf_ok hz
              subst hv hz
              exact hpan _ _ (pans_run hr fi hl hrun)
            · cases hc
          · split at hc
            · rename_i x h1 hx
              cases hc
              refine hok x _ ?_
              refine endZ_ok hr fi hl ?_
              rw [hrun]
              unfold endZ
              simp only [h1, hx]
            · cases hc
        · cases hc
  · split at hc
    · cases hc
    · rename_i F hF
      rw [getF_eq] at hF
      obtain ⟨fi, fx⟩ := FT.get_ok ok nm hF
      refine ⟨?_, fx⟩
      split at hc
      · cases hc
      · rename_i hl
        have hl := Nat.le_of_ble_eq_true hl
        split at hc
        · exact thawZ_ok (fun r h' he => endZ_ok hr fi hl he) hc
        · exact endZ_ok hr fi hl hc
theorem callP_ok {σ : Sg} {pr : PrimsZ} (hpr : PrimsOkZ P pr) {core : Nat → List AV → HZ → Option (AV × HZ)} (hco : ∀ f args h r h', core f args h = some (r, h') → ACalls P f args (h.hp.sg σ) r (h'.hp.sg σ) ∧ NamedF P f) {full : Bool} {f : Nat} {args : List AV} {h h' : HZ} {r : AV} {en : Ent} (hc : callP pr core full f args h = some (r, h', en)) :
    (∃ h1 h1', Near full (h.hp.sg σ) h1 h1' (h'.hp.sg σ) en ∧ ACalls P f args h1 r h1') ∧ NamedF P f := by
  unfold callP at hc
  split at hc
  · rename_i q hq
    cases hc
    obtain ⟨⟨h1, h1', tc, ac⟩, nf⟩ := hpr σ _ _ _ _ _ _ hq
    exact ⟨⟨h1, h1', .inl tc, ac⟩, nf⟩
  split at hc
  · rename_i hp
    rw [puresZ_eq] at hp
    split at hc
    · rename_i r' h2 he
      obtain ⟨ac, nf⟩ := hco _ _ _ _ _ he
      refine ⟨?_, nf⟩
      rw [HZ0_hp, H0_sg] at ac
      split at hc
      · rename_i hpr
        rw [pureZ_eq] at hpr
        cases hc
        exact ⟨_, _, .inl (touch_none (h.hp.sg σ)), ac.pure (allPure_ok _ hp) (VSub.refl _) (isPure_ok _ hpr)⟩
      · split at hc
        · rename_i hb
          have hb := leZ_ok hb
          cases hc
          refine ⟨_, _, .inl ?_, ac⟩
          have := touch_genY σ h.hp (H0 h.n h.m) h2.hp (ids := []) ⟨fun j o hj => by simp [H0, H.only, none'] at hj, fun t ht => by simp [H0, H.only] at ht⟩ rfl rfl (fun id hx => by simp [H0, H.only, none'] at hx) hb.1 hb.2
          rw [H0_sg, ← sg_patch σ h h2 (H0 h.n h.m) [] [] rfl (fun j => by simp [H0, H.only, none']) rfl] at this
          simp only [List.nil_append, H0, H.only] at this ⊢
          exact this
        · cases hc
    · cases hc
  · split at hc
    · split at hc
      · rename_i r' h2 he
        obtain ⟨ac, nf⟩ := hco _ _ _ _ _ he
        refine ⟨?_, nf⟩
        split at hc
        · rename_i hb
          have hb := leZ_ok hb
          cases hc
          exact ⟨_, _, .inr ⟨rfl, rfl, rfl, hb.1, hb.2⟩, ac⟩
        · cases hc
      · cases hc
    · simp only at hc
      split at hc
      · rename_i r' h2 he
        obtain ⟨ac, nf⟩ := hco _ _ _ _ _ he
        refine ⟨?_, nf⟩
        rw [HZ.cut_hp] at ac
        split at hc
        · rename_i hb
          have hb := leZ_ok hb
          cases hc
          exact ⟨_, _, .inl (touch_cut σ h h2 _ _ hb), ac⟩
        · cases hc
      · cases hc
theorem panItem_ok (ok : T.Ok P) (nm : T.named P = true) {σ : Sg} {rn : RnZ} (hr : RunsOkZ P σ rn) {N : Nat} {ops : Array Oper} {i : Nat} {o : Oper} {it : AItem} {t : TR AV} {h h' : HZ} {v : Value}
    (ho : ops[i]? = some o) (hit : cItem P N ops o = some it) (hg : guardOf t.env it.guard = some true) (hx : panItem (pcallP T rn) it.op t h = some (v, h')) : FPan P ops i o t.env (h.hp.sg σ) v (h'.hp.sg σ) := by
  obtain ⟨dst, g, op⟩ := it
  simp only at hg hx
  cases op
  case call f args =>
    obtain ⟨hb, pc, -⟩ := pcallP_ok (σ := σ) ok nm hr hx
    exact FPan.full hb (panrun_call ho hit hg rfl (VSubs.refl _) pc)
  case callv y args =>
    simp only [panItem] at hx
    split at hx
    · rename_i f first caps hy
      obtain ⟨hb, pc, fn, f1, f2, f3⟩ := pcallP_ok (σ := σ) ok nm hr hx
      exact FPan.full hb (panrun_callv ho hit hg rfl hy f1 f2 f3 (VSubs.refl _) pc)
    · cases hx
  case pan y =>
    simp only [panItem] at hx
    split at hx
    · rename_i ty k z hy
      cases hx
      exact FPan.of (touch_none (h.hp.sg σ)) (panrun_pan ho hit hg rfl hy)
    · cases hx
  all_goals (simp only [panItem] at hx; cases hx)
theorem panItems_ok (ok : T.Ok P) (nm : T.named P = true) {σ : Sg} {rn : RnZ} (hr : RunsOkZ P σ rn) {call yld : Nat → List AV → HZ → Option (AV × HZ × Ent)} (hcall : ∀ f args h r h' en, call f args h = some (r, h', en) → (∃ h1 h1', Near true (h.hp.sg σ) h1 h1' (h'.hp.sg σ) en ∧ ACalls P f args h1 r h1') ∧ NamedF P f)
    (hyld : ∀ id args h r h' en, yld id args h = some (r, h', en) → ∃ h1 h1', Near true (h.hp.sg σ) h1 h1' (h'.hp.sg σ) en ∧ YCalls P id args h1 r h1') {N : Nat} :
    ∀ {items : List AItem} {t : TR AV} {h h' : HZ} {v : Value}, panItems call yld (pcallP T rn) items t h = some (v, h') → WpItemsQ P N items t.env (h.hp.sg σ) v (h'.hp.sg σ)
  | [], t, h, h', v, hx => by
    simp only [panItems] at hx
    cases hx
  | it :: its, t, h, h', v, hx => by
    change (match guardOf t.env it.guard with
    | some true => match (compI it.dst its it.op).run call yld t h with
      | some r => panItems call yld (pcallP T rn) its (putE t it.dst r.1) r.2.1
      | none => panItem (pcallP T rn) it.op t h
    | some false => panItems call yld (pcallP T rn) its (putE t it.dst (.sc undef)) h
    | none => none) = _ at hx
    split at hx
    · rename_i hg
      split at hx
      · rename_i r hx2
        obtain ⟨x, h2, en⟩ := r
        have ih := panItems_ok ok nm hr (N := N) hcall hyld hx
        rw [putE_env] at ih
        refine WpItemsQ.step (fun ops i o ho hit => ?_) ih
        obtain ⟨⟨h1, h1', tc, run⟩, -⟩ := compI_ok hcall hyld ho hit hg hx2
        exact tc.frun (N := N) run
      · exact WpItemsQ.here fun ops i o ho hit => panItem_ok ok nm hr ho hit hg hx
    · rename_i hg
      have ih := panItems_ok ok nm hr (N := N) hcall hyld hx
      rw [putE_env] at ih
      exact WpItemsQ.step (fun ops i o ho hit => FRun.of (touch_none (h.hp.sg σ)) (itrun_skip ho hit hg)) ih
    · cases hx
theorem runP_ok (ok : T.Ok P) (nm : T.named P = true) {pr : PrimsZ} (hpr : PrimsOkZ P pr) {pf : PrimsF} (hpf : PrimsOkF P pf) {fz : Nat → Bool} {ty : Nat} {tr : TryZ} (htr : TryOk P ty tr) : ∀ k σ L, LkOk P σ L → RunsOkZ P σ (runP T pr pf fz ty tr k L) := by
  intro k
  induction k using Nat.strongRecOn with
  | _ k ih =>
    intro σ L hL N c s e s' h
    cases k with
    | zero => rw [runP_zero] at h; cases h
    | succ k =>
    have h0 := h
    rw [runP_succ] at h
    have ihk := ih k (Nat.lt_succ_self k) σ L hL
    cases c with
    | skip => simp only [stepP, Option.some.injEq, Prod.mk.injEq] at h; obtain ⟨rfl, rfl⟩ := h; exact Wp.skip ⟨rfl, rfl⟩
    | ret => simp only [stepP, Option.some.injEq, Prod.mk.injEq] at h; obtain ⟨rfl, rfl⟩ := h; exact Wp.ret ⟨rfl, rfl⟩
    | exit i => simp only [stepP, Option.some.injEq, Prod.mk.injEq] at h; obtain ⟨rfl, rfl⟩ := h; exact Wp.exit ⟨rfl, rfl⟩
    | label l => simp only [stepP, Option.some.injEq, Prod.mk.injEq] at h; obtain ⟨rfl, rfl⟩ := h; exact Wp.label ⟨rfl, rfl⟩
    | goto l => simp only [stepP, Option.some.injEq, Prod.mk.injEq] at h; obtain ⟨rfl, rfl⟩ := h; exact Wp.goto ⟨rfl, rfl⟩
    | rfun g ps x y =>
      simp only [stepP] at h
      exact rfunZ_ok ok nm (fun L hL => ih k (Nat.lt_succ_self k) _ L hL) hL h
    | reg items p =>
      simp only [stepP, regP, compItems_go] at h
      split at h
      · split at h
        · rename_i r hi
          obtain ⟨t, h2, l⟩ := r
          simp only [Option.some.injEq, Prod.mk.injEq] at h
          obtain ⟨rfl, rfl⟩ := h
          exact Wp.regF (runItemsZ_okF (σ := σ) (fun f args h r h' en hx => callP_ok hpr (fun f args h r h' hc => coreP_ok ok nm hpf htr ihk hc) hx) (fun id args h r h' en hx => yldZ_ok hL ihk hx) hi ⟨rfl, rfl⟩)
        · split at h
          · rename_i v h2 hp
            simp only [Option.some.injEq, Prod.mk.injEq] at h
            obtain ⟨rfl, rfl⟩ := h
            exact Wp.regQ (panItems_ok ok nm ihk (fun f args h r h' en hx => callP_ok hpr (fun f args h r h' hc => coreP_ok ok nm hpf htr ihk hc) hx) (fun id args h r h' en hx => yldZ_ok hL ihk hx) hp) ⟨rfl, rfl⟩
          · cases h
      · split at h
        · rename_i r hi
          obtain ⟨t, h2, l⟩ := r
          split at h
          · rename_i hp
            simp only [Option.some.injEq, Prod.mk.injEq] at h
            obtain ⟨rfl, rfl⟩ := h
            exact Wp.reg (runItemsZ_ok (σ := σ) (fun f args h r h' en hx => callP_ok hpr (fun f args h r h' hc => coreP_ok ok nm hpf htr ihk hc) hx) (fun id args h r h' en hx => yldZ_ok hL ihk hx) hi ⟨pairsB_ok hp, rfl, rfl⟩)
          · cases h
        · cases h
    | seq a b =>
      simp only [stepP, seqZ] at h
      split at h
      · rename_i s1 ha
        refine Wp.seq (Wp.mono (ihk _ _ _ _ _ ha) fun e2 s2 ⟨e1, e3⟩ => ?_)
        subst e1 e3
        exact ihk _ _ _ _ _ h
      · rename_i hne
        refine Wp.seq (Wp.mono (ihk _ _ _ _ _ h) fun e2 s2 ⟨e1, e3⟩ => ?_)
        subst e1 e3
        cases e2 with
        | normal => exact absurd h (hne _)
        | exit i => exact ⟨rfl, rfl⟩
        | goto l => exact ⟨rfl, rfl⟩
        | ret => exact ⟨rfl, rfl⟩
        | panic v => exact ⟨rfl, rfl⟩
    | scope a =>
      simp only [stepP] at h
      exact Wp.scope (runSZ_ok (fun c s e s' => ihk N c s e s') h)
    | cond c a b =>
      simp only [stepP, condZ] at h
      split at h
      · rename_i hb; exact Wp.cond_true hb (ihk _ _ _ _ _ h)
      · rename_i hb; exact Wp.cond_false hb (ihk _ _ _ _ _ h)
      · cases h
    | block id a =>
      simp only [stepP, blockZ] at h
      split at h
      · rename_i i s1 ha
        refine Wp.block (Wp.mono (ihk _ _ _ _ _ ha) fun e2 s2 ⟨e1, e3⟩ => ?_)
        subst e1 e3
        split at h
        · rename_i hid
          have hid := Nat.eq_of_beq_eq_true hid
          simp only [Option.some.injEq, Prod.mk.injEq] at h
          obtain ⟨rfl, rfl⟩ := h
          simp only [AExit.inBlock, hid, if_true, and_self]
        · rename_i hid
          have hid := Nat.ne_of_beq_eq_false hid
          simp only [Option.some.injEq, Prod.mk.injEq] at h
          obtain ⟨rfl, rfl⟩ := h
          simp only [AExit.inBlock, if_neg hid, and_self]
      · rename_i hne
        refine Wp.block (Wp.mono (ihk _ _ _ _ _ h) fun e2 s2 ⟨e1, e3⟩ => ?_)
        subst e1 e3
        cases e2 with
        | normal => exact ⟨rfl, rfl⟩
        | exit i => exact absurd h (hne i _)
        | goto l => exact ⟨rfl, rfl⟩
        | ret => exact ⟨rfl, rfl⟩
        | panic v => exact ⟨rfl, rfl⟩
    | loop a =>
      refine Wp.loop (β := Nat × SZ) (fun b => b.2.st.sg σ) (fun b => b.1 ≤ k ∧ runP T pr pf fz ty tr (b.1 + 1) L N (.loop a) b.2 = some (e, s')) (fun b => b.1) (k, s) ⟨Nat.le_refl _, h0⟩ (StLe.refl _) ?_
      rintro ⟨j, s0⟩ ⟨hj, hb⟩
      rw [runP_succ] at hb
      simp only [stepP, loopZ] at hb
      simp only at hj
      have ihj := ih j (by omega) σ L hL
      split at hb
      · rename_i s1 ha
        refine Wp.mono (ihj _ _ _ _ _ ha) fun e2 s2 ⟨e1, e3⟩ => ?_
        subst e1 e3
        cases j with
        | zero => rw [runP_zero] at hb; cases hb
        | succ j => exact ⟨(j, s1), ⟨by simp only; omega, hb⟩, Nat.lt_succ_self _, StLe.refl _⟩
      · rename_i hne
        refine Wp.mono (ihj _ _ _ _ _ hb) fun e2 s2 ⟨e1, e3⟩ => ?_
        subst e1 e3
        cases e2 with
        | normal => exact absurd hb (hne _)
        | exit i => exact ⟨rfl, rfl⟩
        | goto l => exact ⟨rfl, rfl⟩
        | ret => exact ⟨rfl, rfl⟩
        | panic v => exact ⟨rfl, rfl⟩
noncomputable def runBoolQ (T : FT) (pr : PrimsZ) (pf : PrimsF) (fz : Nat → Bool) (ty : Nat) (tr : TryZ) (k f : Nat) (args : List AV) (b : Bool) : Bool :=
  match allPure args, callP pr (coreP T pf fz ty tr (runP T pr pf fz ty tr k [])) true f args (HZ0 0 0) with
  | true, some (.bool x, _, _) => match x, b with
    | true, true => true
    | false, false => true
    | _, _ => false
  | _, _ => false
theorem pcalls_runQ (ok : T.Ok P) (nm : T.named P = true) {pr : PrimsZ} (hpr : PrimsOkZ P pr) {pf : PrimsF} (hpf : PrimsOkF P pf) {fz : Nat → Bool} {ty : Nat} {tr : TryZ} (htr : TryOk P ty tr) {k f : Nat} {args : List AV} {b : Bool} (h : runBoolQ T pr pf fz ty tr k f args b = true) : PCalls P f args (.bool b) := by
  unfold runBoolQ at h
  split at h
  · rename_i x h' en hp hc
    have e0 : x = b := by cases x <;> cases b <;> first | rfl | cases h
    subst e0
    obtain ⟨⟨h1, h1', tc, ac⟩, -⟩ := callP_ok (σ := fun _ => (.skip, .skip)) hpr (fun f args h r h' hc => coreP_ok ok nm hpf htr (runP_ok ok nm hpr hpf htr k _ [] (fun r h => by cases h)) hc) hc
    rw [HZ0_hp, H0_sg] at tc
    have e : h1 = H0 0 0 := by
      rcases tc with tc | ⟨-, e, -⟩
      · refine H.ext (fun j => ?_) tc.n ?_ tc.m
        · cases hj : h1.objs j with
          | none => rfl
          | some o => have := tc.sub.1 j o hj; simp [H0, H.only, none'] at this
        · cases ht : h1.toks with
          | nil => rfl
          | cons t l => have := tc.sub.2 t (by rw [ht]; simp); simp [H0, H.only] at this
      · exact e
    subst e
    exact ac.pure0 (allPure_ok _ hp) (VSub.refl _) (isPure_ok _ rfl)
  · cases h
end
end Go.Av
end
section
set_option linter.unusedSimpArgs false
set_option linter.unusedVariables false
set_option maxRecDepth 100000
namespace Go.Proofs.YtehhdhadmapplaaGreat.Tree
open Go Go.Av Go.Proofs Go.Proofs.YtehhdhadmapplaaGreat.C
noncomputable def tryZ : TryZ := fun f args obs => match Nat.beq f 51 with
  | true => match args with
    | [.ptr id 0, .clo (.func g) first caps] => match obs id with
      | some (.cells [.ptr _ _, _]) => some (g, first ++ caps)
      | _ => none
    | _ => none
  | false => none
theorem tryZ_ok : TryOk Tryz.prog 26 tryZ := by
  intro σ f args h g args' ht
  unfold tryZ at ht
  split at ht
  · rename_i e
    have e := Nat.eq_of_beq_eq_true e
    subst e
    split at ht
    · rename_i id g' first caps
      split at ht
      · rename_i j o r ho
        cases ht
        have ho' : OpenT (h.hp.sg σ) id := ⟨j, o, r, by
          change (h.at id).map (sgO (σ id)) = _
          rw [ho]; rfl⟩
        refine ⟨⟨_, Tryz.func51, of_decide_eq_true (by kernel_rfl), of_decide_eq_true (by kernel_rfl)⟩, fun ⟨fn, hg, hb, hn⟩ => ⟨fun r h' hc => try_ok ho' hg hb hn hc, fun z h' hc => try_pan ho' hg hb hn hc⟩⟩
      · cases ht
    · cases ht
  · cases ht
end Go.Proofs.YtehhdhadmapplaaGreat.Tree
end
section
set_option linter.unusedSimpArgs false
set_option linter.unusedVariables false
set_option maxRecDepth 10000
namespace Go.Proofs.YtehhdhadmapplaaGreat.Page
open Go Go.Av Go.Proofs Go.Proofs.YtehhdhadmapplaaGreat.C
structure Node where
  leaf : Bool
  keys : List (List UInt8)
  vals : List (List UInt8)
  kids : List Int
def tot (l : List (List UInt8)) : Nat := (l.map List.length).sum
def size (n : Node) : Nat := if n.leaf then 3 + 3 * n.keys.length + tot n.keys + tot n.vals else 7 + 5 * n.keys.length + tot n.keys
structure Nb (n : Node) : Prop where
  k : n.keys.length ≤ 17592186044416
  v : n.vals.length ≤ 17592186044416
  i : n.kids.length ≤ 17592186044416
  tk : tot n.keys ≤ 1152921504606846976
  tv : tot n.vals ≤ 1152921504606846976
end Go.Proofs.YtehhdhadmapplaaGreat.Page
end
section
set_option linter.unusedSimpArgs false
set_option linter.unusedVariables false
set_option maxRecDepth 10000
namespace Go.Proofs.YtehhdhadmapplaaGreat.Page
open Go Go.Av Go.Proofs Go.Proofs.YtehhdhadmapplaaGreat.C
end Go.Proofs.YtehhdhadmapplaaGreat.Page
end
section
set_option linter.unusedSimpArgs false
set_option linter.unusedVariables false
set_option maxRecDepth 10000
namespace Go.Proofs.YtehhdhadmapplaaGreat.Page
open Go Go.Av Go.Proofs Go.Proofs.YtehhdhadmapplaaGreat.C
def ix {α : Type} (p : α → Bool) (l : List α) : Int := if l.any p then (l.findIdx p : Nat) else -1
theorem ix_found {α : Type} {p : α → Bool} {l : List α} {j : Nat} (hj : j < l.length) (h : p l[j] = true) (hs : ∀ i (hi : i < l.length), i < j → p l[i] = false) : ix p l = j := by
  have h1 : l.any p = true := List.any_eq_true.2 ⟨l[j], List.getElem_mem hj, h⟩
  have h2 : l.findIdx p = j := (List.findIdx_eq hj).2 ⟨h, fun i hi => hs i (by omega) hi⟩
  simp [ix, h1, h2]
theorem ix_none {α : Type} {p : α → Bool} {l : List α} (hs : ∀ i (hi : i < l.length), p l[i] = false) : ix p l = -1 := by
  have h1 : l.any p = false := by
    rw [List.any_eq_false]
    intro x hx
    obtain ⟨i, hi, rfl⟩ := List.mem_iff_getElem.1 hx
    simp [hs i hi]
  simp [ix, h1]
theorem ix_nonneg {α : Type} {p : α → Bool} {l : List α} : decide (0 ≤ ix p l) = l.any p := by
  unfold ix
  cases l.any p <;> simp
theorem cells_of_cell {x : AV} (h : isCell x = true) : cellsOf x = [x] := by cases x <;> simp_all [isCell, cellsOf]
theorem index_gen {f : FuncId} (hF : FnIs Tryz.prog f 19 c299 [.tmp 4]) {α : Type} (enc : α → AV) (hpure : ∀ x, isPure (enc x) = true) (hcell : ∀ x, isCell (enc x) = true) (l : List α) (hl : l.length ≤ 4611686018427387904)
    (p : α → Bool) {g : FuncId} {fn : Func} (hf : Tryz.prog.funcs[g]? = some fn) (hb : fn.body.isSome = true) (hn : fn.name ≠ "runtime.NumGoroutine") (hp : ∀ x ∈ l, PCalls Tryz.prog g [enc x] (.bool (p x))) :
    PCalls Tryz.prog f [.sl 1 (l.map enc) .any, .clo (.func g) [] []] (.int .i64 (ix p l)) := by
  refine hF.pcalls (by simp) (allPure_ok _ (by simp [allPure, isPure, capPure, allPure_map hpure])) (isPure_ok _ rfl) fun k m => ?_
  unfold c299
  refine Wp.seqReg (by simp only [go_sem, reduceIte, Nat.reduceEqDiff, Nat.reduceAdd, bx]; exact rfl) (by trivial) ?_
  refine Wp.seq ?_
  refine Wp.seqReg (by simp only [go_sem, reduceIte, Nat.reduceEqDiff, Nat.reduceAdd, bx, List.length_map]; exact rfl) (by trivial) ?_
  refine Wp.block ?_
  refine Wp.loopK [0, 1, 7] (by simp only [go_sem, reduceIte, Nat.reduceEqDiff, Nat.reduceAdd, bx, List.map]; exact rfl) (fun j : Nat => [(8, .int .i64 j)]) (fun j => j ≤ l.length ∧ ∀ i (hi : i < l.length), i < j → p l[i] = false) (fun j => l.length - j) 0 ⟨Nat.zero_le _, fun i hi h => absurd h (by omega)⟩ ?_ ?_
  · simp only [AllSub, go_sem, reduceIte, Nat.reduceEqDiff, Nat.reduceAdd, bx]; and_intros <;> first | exact trivial | exact VSub.refl _ | exact VSub.any _ | (refine VSub.int ?_; omega)
  · intro j hj
    obtain ⟨hj, hs⟩ := hj
    refine Wp.seqReg (by simp only [go_sem, reduceIte, Nat.reduceEqDiff, Nat.reduceAdd, bx]; exact rfl) (by trivial) ?_
    refine Wp.seq ?_
    refine Wp.cond_split (b := decide ((j : Int) < (l.length : Int))) (by simp only [go_sem, reduceIte, Nat.reduceEqDiff, Nat.reduceAdd, bx]) (fun hc => ?_) (fun hc => ?_)
    · have h1 : (0 : Int) ≤ (j : Int) := by omega
      have h2 : (j : Int) < (l.length : Int) := by simpa using hc
      have h3 : j < l.length := by omega
      have h4 : (l.map enc).getD j .any = enc l[j] := by simp [List.getD, h3]
      have hI := hcell l[j]
      have hC := cells_of_cell hI
      simp only [isCell] at hI
      simp only [cellsOf] at hC
      refine Wp.skip ?_
      refine Wp.seq ?_
      refine Wp.block ?_
      refine Wp.seqReg (by simp only [go_sem, reduceIte, Nat.reduceEqDiff, Nat.reduceAdd, bx]; exact rfl) (by trivial) ?_
      refine Wp.seqItems (by simp only [go_sem, reduceIte, Nat.reduceEqDiff, Nat.reduceAdd, bx, List.length_map, h1, h2, and_self, if_true, Int.toNat_natCast, h4, hI, hC]; exact rfl) ?_
      refine WpItems.pcallv (r := .bool (p l[j])) (by simp only [go_sem]) (by simp only [go_sem, reduceIte, Nat.reduceEqDiff]; exact rfl) hf hb hn (by simp only [go_sem, reduceIte, Nat.reduceEqDiff, List.map]; exact VSubs.refl _) (hp _ (List.getElem_mem h3)) ?_
      refine WpItems.eval (by simp only [go_sem, reduceIte, Nat.reduceEqDiff, Nat.reduceAdd, bx]; exact rfl) ?_
      refine WpItems.nil ⟨by trivial, ?_⟩
      refine Wp.cond_split (b := p l[j]) (by simp only [go_sem, reduceIte, Nat.reduceEqDiff, Nat.reduceAdd, bx]) (fun hd => ?_) (fun hd => ?_)
      · refine Wp.seqReg (by simp only [go_sem, reduceIte, Nat.reduceEqDiff, Nat.reduceAdd, bx]; exact rfl) (by trivial) ?_
        refine Wp.ret ⟨trivial, _, rfl, ?_⟩
        simp only [go_sem, reduceIte, Nat.reduceEqDiff, Nat.reduceAdd, bx]
        rw [ix_found h3 hd hs]
        exact VSub.refl _
      · refine Wp.skip ?_
        refine Wp.reg1 (by simp only [go_sem, reduceIte, Nat.reduceEqDiff, Nat.reduceAdd, bx]; simp (disch := omega) only [IntWalk.i64_in]; exact rfl) (by trivial) ?_
        refine ⟨j + 1, ⟨by omega, fun i hi h => ?_⟩, by omega, ?_⟩
        · by_cases he : i = j
          · subst he; exact hd
          · exact hs i hi (by omega)
        · refine StLe.tm (by simp only [AllSub, go_sem, reduceIte, Nat.reduceEqDiff, Nat.reduceAdd, bx]; and_intros <;> first | exact trivial | exact VSub.refl _ | exact VSub.any _ | (refine VSub.int ?_; omega))
    · have : ¬ (j : Int) < (l.length : Int) := by simpa using hc
      refine Wp.exit ?_
      refine Wp.seqReg (by simp only [go_sem, reduceIte, Nat.reduceEqDiff, Nat.reduceAdd, bx]; exact rfl) (by trivial) ?_
      refine Wp.ret ⟨trivial, _, rfl, ?_⟩
      simp only [go_sem, reduceIte, Nat.reduceEqDiff, Nat.reduceAdd, bx]
      rw [ix_none fun i hi => hs i hi (by omega)]
      exact VSub.refl _
theorem contains_gen {f f' : FuncId} (hF : FnIs Tryz.prog f 9 (.seq (.reg [⟨some 4, none, .mov (.c (.bool false))⟩] none) (.seq (.reg [⟨some 5, none, .mov (.t 0)⟩, ⟨some 6, none, .mov (.t 1)⟩, ⟨some 7, none, .call f' [(.t 5), (.t 6)]⟩, ⟨some 8, none, .bin .geq (.t 7) (.c (.int .i64 0))⟩, ⟨some 4, none, .mov (.t 8)⟩] none) .ret)) [.tmp 4])
    {α : Type} (enc : α → AV) (hpure : ∀ x, isPure (enc x) = true) (l : List α) (p : α → Bool) {g : FuncId} (hi : PCalls Tryz.prog f' [.sl 1 (l.map enc) .any, .clo (.func g) [] []] (.int .i64 (ix p l))) :
    PCalls Tryz.prog f [.sl 1 (l.map enc) .any, .clo (.func g) [] []] (.bool (l.any p)) := by
  refine hF.pcalls (by simp) (allPure_ok _ (by simp [allPure, isPure, capPure, allPure_map hpure])) (isPure_ok _ rfl) fun k m => ?_
  refine Wp.seqReg (by simp only [go_sem, reduceIte, Nat.reduceEqDiff, Nat.reduceAdd, bx]; exact rfl) (by trivial) ?_
  refine Wp.seqItems (by simp only [go_sem, reduceIte, Nat.reduceEqDiff, Nat.reduceAdd, bx]; exact rfl) ?_
  refine WpItems.pcall (by simp only [go_sem, reduceIte, Nat.reduceEqDiff, Nat.reduceAdd, bx]) (by simp only [go_sem, reduceIte, Nat.reduceEqDiff, Nat.reduceAdd, bx, List.map]; exact VSubs.refl _) (hi) ?_
  refine WpItems.eval (by simp only [go_sem, reduceIte, Nat.reduceEqDiff, Nat.reduceAdd, bx]; exact rfl) ?_
  refine WpItems.nil ⟨by trivial, ?_⟩
  refine Wp.ret ⟨trivial, _, rfl, ?_⟩
  simp only [go_sem, reduceIte, Nat.reduceEqDiff, Nat.reduceAdd, bx]
  rw [← ix_nonneg]
  exact VSub.refl _
end Go.Proofs.YtehhdhadmapplaaGreat.Page
end
section
set_option linter.unusedVariables false
open Go Go.Lib Go.RowKit
namespace Go.Proofs.YtehhdhadmapplaaGreat.Page
def lays22_ren : Go.Shelf.Ren := ⟨fun | 22 => 154 | 29 => 252 | 30 => 253 | 36 => 311 | 17 => 358 | n => n, fun | 24 => 59 | 9 => 9 | 3 => 3 | 4 => 4 | 0 => 0 | n => n, fun | n => n⟩
theorem lays22 : Lays2.n22 Tryz.prog lays22_ren where
  mixed := by kernel_rfl
  f17 := Tryz.func358.trans (congrArg some (by kernel_rfl))
  f22 := Tryz.func154.trans (congrArg some (by kernel_rfl))
  f29 := Tryz.func252.trans (congrArg some (by kernel_rfl))
  f30 := Tryz.func253.trans (congrArg some (by kernel_rfl))
  f36 := Tryz.func311.trans (congrArg some (by kernel_rfl))
  t0 := Tryz.underlying0
  a0 := Tryz.isAgg0
  z0 := Tryz.sizeOf0
  v0 := Tryz.zeroValue0
  t3 := Tryz.underlying3
  a3 := Tryz.isAgg3
  z3 := Tryz.sizeOf3
  v3 := Tryz.zeroValue3
  t4 := Tryz.underlying4
  a4 := Tryz.isAgg4
  z4 := Tryz.sizeOf4
  v4 := Tryz.zeroValue4
  t9 := Tryz.underlying9
  a9 := Tryz.isAgg9
  z9 := Tryz.sizeOf9
  v9 := Tryz.zeroValue9
  t24 := Tryz.underlying59
  a24 := Tryz.isAgg59
  z24 := Tryz.sizeOf59
  v24 := Tryz.zeroValue59
  i9 := by kernel_rfl
def lays24_ren : Go.Shelf.Ren := ⟨fun | 24 => 159 | n => n, fun | 24 => 59 | 9 => 9 | 3 => 3 | 4 => 4 | 0 => 0 | n => n, fun | n => n⟩
theorem lays24 : Lays2.n24 Tryz.prog lays24_ren where
  mixed := by kernel_rfl
  f24 := Tryz.func159.trans (congrArg some (by kernel_rfl))
  t0 := Tryz.underlying0
  a0 := Tryz.isAgg0
  z0 := Tryz.sizeOf0
  v0 := Tryz.zeroValue0
  t3 := Tryz.underlying3
  a3 := Tryz.isAgg3
  z3 := Tryz.sizeOf3
  v3 := Tryz.zeroValue3
  t4 := Tryz.underlying4
  a4 := Tryz.isAgg4
  z4 := Tryz.sizeOf4
  v4 := Tryz.zeroValue4
  t9 := Tryz.underlying9
  a9 := Tryz.isAgg9
  z9 := Tryz.sizeOf9
  v9 := Tryz.zeroValue9
  t24 := Tryz.underlying59
  a24 := Tryz.isAgg59
  z24 := Tryz.sizeOf59
  v24 := Tryz.zeroValue59
  i9 := by kernel_rfl
end Go.Proofs.YtehhdhadmapplaaGreat.Page
end
section
set_option linter.unusedSimpArgs false
set_option linter.unusedVariables false
set_option maxRecDepth 10000
namespace Go.Proofs.YtehhdhadmapplaaGreat.Page
open Go Go.Av Go.Proofs Go.Proofs.YtehhdhadmapplaaGreat.C
def sv (l : List (List UInt8)) : List Value := l.map fun s => .string ⟨s.toArray⟩
theorem sv_length (l : List (List UInt8)) : (sv l).length = l.length := by simp [sv]
theorem sv_of {G : Ghost} {w : World} : ∀ {l : List (List UInt8)} {vs : List Value}, VRels G w (strs l) vs → vs = sv l
  | [], vs, h => by simpa [strs, VRels, sv] using h
  | s :: l, vs, h => by
    simp only [strs, List.map_cons, VRels, VRel] at h
    obtain ⟨v, us, rfl, rfl, h⟩ := h
    rw [sv_of (l := l) h]
    rfl
theorem sv_elems (l : List (List UInt8)) (G : Ghost) (w : World) : VElems G w 1 (strs l) (sv l) := by
  induction l with
  | nil => simp [strs, sv, VElems]
  | cons s l ih =>
    simp only [strs, sv, List.map_cons, VElems]
    exact ⟨.string ⟨s.toArray⟩, sv l, rfl, rfl, by simp [VRel], ih⟩
theorem sv_one {l : List (List UInt8)} {v : Value} (h : v ∈ sv l) : One v := by
  obtain ⟨s, _, rfl⟩ := List.mem_map.1 h
  exact ⟨(fun _ e => by cases e), (fun _ e => by cases e)⟩
theorem sv_one' {l : List (List UInt8)} {v : Value} (h : v ∈ sv l) : v.oneCell' = true := by
  obtain ⟨s, _, rfl⟩ := List.mem_map.1 h
  rfl
theorem cell_of {w : World} {B : Nat} {T : TypeId} {fr : Nat × Nat} {L R : List Value} (hg : w.heap[B]? = some (.cells (L ++ R).toArray T fr)) (j : Nat) (v : Value) (h : L[j]? = some v) : w.cell? ⟨B, 0 + j, none⟩ = some v := by
  have hj := (List.getElem?_eq_some_iff.1 h).1
  unfold World.cell?
  simp only [hg, Nat.zero_add]
  simpa [List.getElem?_append_left hj] using h
theorem sv_insert (l : List (List UInt8)) (i : Nat) (x : List UInt8) : sv (l.take i ++ x :: l.drop i) = (sv l).take i ++ .string ⟨x.toArray⟩ :: (sv l).drop i := by simp [sv]
theorem ins_end {A R : List Value} {X : Value} {n : Nat} (hn : A.length = n) : (A ++ R).take (0 + n) ++ [X] ++ (A ++ R).drop (0 + n + 1) = A.take n ++ X :: A.drop n ++ R.drop 1 := by
  subst hn
  rw [Nat.zero_add, List.take_left, List.take_length, List.drop_length, List.drop_append, List.drop_eq_nil_of_le (by omega)]
  simp
theorem ins_mid {A R : List Value} {X : Value} {n i : Nat} (hn : A.length = n) (hi : i < n) :
    ((A ++ R).take (0 + (i + 1)) ++ A.drop i ++ (A ++ R).drop (0 + (i + 1) + (A.drop i).length)).take (0 + i) ++ [X] ++ ((A ++ R).take (0 + (i + 1)) ++ A.drop i ++ (A ++ R).drop (0 + (i + 1) + (A.drop i).length)).drop (0 + i + 1) = A.take i ++ X :: A.drop i ++ (A ++ R).drop (n + 1) := by
  subst hn
  have e2 : ((A ++ R).take (i + 1)).length = i + 1 := by simp; omega
  have e1 : ((A ++ R).take (i + 1)).take i = A.take i := by
    rw [List.take_take, Nat.min_eq_left (by omega), List.take_append_of_le_length (by omega)]
  have e3 : i + 1 + (A.drop i).length = A.length + 1 := by simp; omega
  rw [Nat.zero_add, Nat.zero_add, e3]
  have c1 : ((A ++ R).take (i + 1) ++ A.drop i ++ (A ++ R).drop (A.length + 1)).take i = A.take i := by
    rw [List.append_assoc, List.take_append_of_le_length (by omega), e1]
  have c2 : ((A ++ R).take (i + 1) ++ A.drop i ++ (A ++ R).drop (A.length + 1)).drop (i + 1) = A.drop i ++ (A ++ R).drop (A.length + 1) := by
    rw [List.append_assoc, List.drop_append, e2, List.drop_eq_nil_of_le (by omega), Nat.sub_self, List.drop_zero, List.nil_append]
  rw [c1, c2]
  simp
theorem ins_grow {A Z : List Value} {X : Value} {n i : Nat} (hn : A.length = n) (hi : i < n) :
    ((A.take i ++ Z).take i ++ [X] ++ (A.take i ++ Z).drop (i + 1)).take (i + 1) ++ A.drop i ++ ((A.take i ++ Z).take i ++ [X] ++ (A.take i ++ Z).drop (i + 1)).drop (i + 1 + (A.drop i).length) = A.take i ++ X :: A.drop i ++ ((A.take i ++ Z).take i ++ [X] ++ (A.take i ++ Z).drop (i + 1)).drop (i + 1 + (A.drop i).length) := by
  subst hn
  have e2 : (A.take i).length = i := by simp; omega
  have e1 : (A.take i ++ Z).take i = A.take i := by
    rw [List.take_append_of_le_length (by omega), List.take_take, Nat.min_self]
  have e4 : ((A.take i ++ Z).take i ++ [X] ++ (A.take i ++ Z).drop (i + 1)).take (i + 1) = A.take i ++ [X] := by
    rw [e1, List.take_append_of_le_length (by simp; omega), List.take_of_length_le (by simp; omega)]
  rw [e4]
  simp
theorem insert_a (l : List (List UInt8)) (i : Nat) (x : List UInt8) (hi : i ≤ l.length) (hl : l.length < 1099511627776) (h0 : 0 < l.length) {id id2 : Nat} (hne : id ≠ id2) {h : H} (ho : h.objs id = some (.cells (strs l))) (ho2 : h.objs id2 = some (.cells [.str x])) (htk : h.toks = []) :
    ACalls Tryz.prog 154 [.tsl 1 id 0 l.length none, .int .i64 i, .tsl 1 id2 0 1 none] h (.sl 1 (strs (l.take i ++ x :: l.drop i)) .any) (h.less id) := by
  intro G w vs hv R F
  simp only [VRels, VRel] at hv
  obtain ⟨v1, _, rfl, ⟨hd1, hv1⟩, v2, _, rfl, rfl, v3, _, rfl, ⟨hd2, hv3⟩, rfl⟩ := hv
  obtain ⟨C, c, T, fr, rfl, ⟨hnC, hc63⟩, -, hg, hroom⟩ | ⟨hz, -⟩ := hv1
  rotate_left
  · omega
  obtain ⟨C2, c2, T2, fr2, rfl, ⟨hnC2, -⟩, -, hg2, hroom2⟩ | ⟨hz, -⟩ := hv3
  rotate_left
  · omega
  obtain ⟨-, hown, hB, us, rest, T', fr', hg', hvs, hfr, -⟩ := R.obj id _ ho
  obtain ⟨-, hown2, hB2, us2, rest2, T2', fr2', hg2', hvs2, hfr2, -⟩ := R.obj id2 _ ho2
  have hus := sv_of hvs
  subst hus
  have hus2 : us2 = [.string ⟨x.toArray⟩] := by
    simp only [VRels, VRel] at hvs2
    obtain ⟨v, _, rfl, rfl, rfl⟩ := hvs2
    rfl
  subst hus2
  have hbb : G.ι id2 ≠ G.ι id := fun e => hne (R.inj _ _ _ _ ho ho2 e.symm)
  rw [hg] at hg'
  obtain ⟨rfl, rfl, rfl⟩ : c = (sv l ++ rest).toArray ∧ T = T' ∧ fr = fr' := by simpa using hg'
  rw [hg2] at hg2'
  obtain ⟨rfl, rfl, rfl⟩ : c2 = ([Value.string ⟨x.toArray⟩] ++ rest2).toArray ∧ T2 = T2' ∧ fr2 = fr2' := by simpa using hg2'
  have hsl := sv_length l
  have hrl : C ≤ l.length + rest.length := by simpa [hsl] using hroom
  have hcs : ∀ (j : Nat) v, (sv l)[j]? = some v → w.cell? ⟨G.ι id, 0 + j, none⟩ = some v := fun j v => cell_of hg j v
  have hvs' : ∀ (j : Nat) v, ([Value.string ⟨x.toArray⟩] : List Value)[j]? = some v → w.cell? ⟨G.ι id2, 0 + j, none⟩ = some v := fun j v => cell_of hg2 j v
  have h1v : ∀ v ∈ ([Value.string ⟨x.toArray⟩] : List Value), v.oneCell' = true := by simp [Value.oneCell']
  have hsome : ∀ j, j < C → (w.cell? ⟨G.ι id, 0 + j, none⟩).isSome = true := fun j hj => by
    unfold World.cell?; simp only [hg]; simp [hsl]; omega
  have hfz : ∀ j, w.frozen? ⟨G.ι id, j, none⟩ = false := fun j => by
    unfold World.frozen?; simp only [hg]
    have := hfr
    simp; omega
  have hfz2 : ∀ j, w.frozen? ⟨G.ι id2, j, none⟩ = false := fun j => by
    unfold World.frozen?; simp only [hg2]
    have := hfr2
    simp; omega
  have hout : (strs (l.take i ++ x :: l.drop i)).length = l.length + 1 := by simp [strs]; omega
  have hso : (sv (l.take i ++ x :: l.drop i)).length = l.length + 1 := by rw [sv_length]; simp; omega
  -- a world in which the row stands in a new block
  have newb : ∀ (w' : World) (L2 : List Value) (T0 : TypeId) (C0 : Nat), l.length + 1 ≤ C0 → w'.heap[w.heap.size]? = some (.cells (sv (l.take i ++ x :: l.drop i) ++ L2).toArray T0 (0, 0)) → w.heap.size ≤ w'.heap.size → w'.os = w.os → w'.output = w.output → (∀ b, b < w.heap.size → w'.heap[b]? = w.heap[b]?) →
      ∃ v G', Ending.returned (.slice (some ⟨w.heap.size, 0, none⟩) (l.length + 1) C0) = .returned v ∧ Trans G w h G' w' (h.less id) ∧ RepH G' (h.less id) w' ∧ VRel G' w' (.sl 1 (strs (l.take i ++ x :: l.drop i)) .any) v := by
    intro w' L2 T0 C0 q1 q2 q3 q4 q5 q6
    obtain ⟨G', T1, R1, V⟩ := row_end (B := w.heap.size) (off := 0) (C := C0) (w' := w') R ho htk q3 q4 q5 (fun b hb _ => q6 b hb) (by rw [q6 _ hB]; exact SameForm.refl _) (.inr (Nat.le_refl _)) (by rw [hout]; exact q1) (by rw [hso, hout]) (sv_elems _) (fun v hv => sv_one hv) (cell_of q2)
    exact ⟨_, G', rfl, T1, R1, by rw [hout] at V; exact V⟩
  -- a world in which it stands in its own block
  have inpl : ∀ (w' : World) (L2 : List Value), w'.heap[G.ι id]? = some (.cells (sv (l.take i ++ x :: l.drop i) ++ L2).toArray T fr) → (sv (l.take i ++ x :: l.drop i) ++ L2).length = (sv l ++ rest).length → w'.heap.size = w.heap.size → w'.os = w.os → w'.output = w.output → (∀ b, b ≠ G.ι id → w'.heap[b]? = w.heap[b]?) → l.length + 1 ≤ C →
      ∃ v G', Ending.returned (.slice (some ⟨G.ι id, 0, none⟩) (l.length + 1) C) = .returned v ∧ Trans G w h G' w' (h.less id) ∧ RepH G' (h.less id) w' ∧ VRel G' w' (.sl 1 (strs (l.take i ++ x :: l.drop i)) .any) v := by
    intro w' L2 q1 q2 q3 q4 q5 q6 q7
    obtain ⟨G', T1, R1, V⟩ := row_end (B := G.ι id) (off := 0) (C := C) (w' := w') R ho htk (Nat.le_of_eq q3.symm) q4 q5 (fun b _ hb => q6 b hb) (by rw [hg, q1]; exact ⟨_, _, rfl, by simpa using q2, fun _ _ h => h⟩) (.inl rfl) (by rw [hout]; exact q7) (by rw [hso, hout]) (sv_elems _) (fun v hv => sv_one hv) (cell_of q1)
    exact ⟨_, G', rfl, T1, R1, by rw [hout] at V; exact V⟩
  by_cases hfit : l.length + 1 ≤ C
  · by_cases hie : i = l.length
    · subst hie
      refine (Any2.slices_Insert_string_end_room lays22 (G.ι id) 0 l.length C (G.ι id2) 0 1 C2 [.string ⟨x.toArray⟩] w (by omega) hfit hc63 rfl (fun j hj => by have := hsome (l.length + j) (by omega); rwa [← Nat.add_assoc] at this) (fun j hj => hfz _) hvs' h1v).mono ?_
      rintro e w' ⟨rfl, rfl⟩
      obtain ⟨a1, a2, a3, a4, a5⟩ := setCells_heap (G.ι id) T fr [.string ⟨x.toArray⟩] (0 + l.length) (sv l ++ rest) w hg (by simp [hsl]; omega)
      refine inpl _ (rest.drop 1) ?_ ?_ a3 a4 a5 a2 hfit
      · rw [a1, sv_insert, List.length_singleton, ins_end hsl]
      · rw [List.length_append, List.length_append, hso, hsl, List.length_drop]; omega
    · have hlt : i < l.length := by omega
      refine (Any2.slices_Insert_string_shift lays22 (G.ι id) 0 l.length C i (G.ι id2) 0 1 C2 (sv l) [.string ⟨x.toArray⟩] w hlt (by omega) hfit hc63 hbb hsl rfl hcs (fun j hj => hsome j (by omega)) (fun j hj => hfz _) hvs' (fun v hv => sv_one' hv) h1v T2 T ([Value.string ⟨x.toArray⟩] ++ rest2).toArray.size (sv l ++ rest).toArray.size (by unfold World.shape?; simp only [hg2]) (by unfold World.shape?; simp only [hg]) (by rw [List.size_toArray, List.length_append, hsl]; omega) (hfz2 _) (hfz2 _)).mono ?_
      rintro e w' ⟨rfl, rfl⟩
      obtain ⟨a1, a2, a3, a4, a5⟩ := setCells_heap (G.ι id) T fr ((sv l).drop i) (0 + (i + 1)) (sv l ++ rest) w.drew hg (by simp [hsl]; omega)
      obtain ⟨b1, b2, b3, b4, b5⟩ := setCells_heap (G.ι id) T fr [.string ⟨x.toArray⟩] (0 + i) _ _ a1 (by simp [hsl]; omega)
      refine inpl _ ((sv l ++ rest).drop (l.length + 1)) ?_ ?_ (b3.trans a3) (b4.trans a4) (b5.trans a5) (fun b hb => (b2 b hb).trans (a2 b hb)) hfit
      · rw [b1, sv_insert, List.length_singleton, ins_mid hsl hlt]
      · rw [List.length_append, hso, List.length_drop, List.length_append, hsl]; omega
  · have hCl : C = l.length := by omega
    subst hCl
    have hbig : (l.length + 1) * 16 ≤ 140737488355328 := by omega
    have hgc : ∀ e, l.length + 1 ≤ grownCap w (l.length + 1) l.length e := fun e => by simp [grownCap, Question.cut]
    by_cases hie : i = l.length
    · subst hie
      refine (Any2.slices_Insert_string_end_grow lays22 (some ⟨G.ι id, 0, none⟩) l.length l.length (G.ι id2) 0 1 C2 (sv l) [.string ⟨x.toArray⟩] w (by omega) (Nat.le_refl _) (by omega) hbig hsl rfl (fun e => by cases e) (fun a ha j v hj => by cases ha; rw [Addr.add_lit]; exact hcs j v hj) hvs' h1v).mono ?_
      rintro e w' ⟨rfl, rfl⟩
      have hgc' := hgc (lays22_ren.t 9)
      generalize grownCap w (l.length + 1) l.length (lays22_ren.t 9) = C0 at hgc' ⊢
      generalize Builtin.zeroCells (Value.string ⟨#[]⟩).cells (C0 - (l.length + 1)) = Zc
      refine newb _ Zc.toList (lays22_ren.t 9) _ hgc' ?_ ?_ rfl rfl ?_
      · show (w.heap.push _)[w.heap.size]? = _
        rw [Array.getElem?_push_size]
        refine congrArg some (congrArg (fun c => Go.Obj.cells c _ (0, 0)) (Array.ext' ?_))
        simp only [Array.toList_append, sv_insert, ← hsl, List.take_length, List.drop_length]
      · show _ ≤ (w.heap.push _).size
        rw [Array.size_push]; omega
      · intro b hb
        show (w.heap.push _)[b]? = _
        rw [Array.getElem?_push, if_neg (Nat.ne_of_lt hb)]
    · have hlt : i < l.length := by omega
      refine (Any2.slices_Insert_string_grow lays22 (G.ι id) 0 l.length l.length i (G.ι id2) 0 1 C2 (sv l) [.string ⟨x.toArray⟩] w hlt (by omega) (Nat.le_refl _) (by omega) hbig hsl rfl hcs hvs' (fun v hv => sv_one' hv) h1v).mono ?_
      rintro e w' ⟨rfl, rfl⟩
      generalize hC0 : grownCap w (l.length + 1) l.length (lays22_ren.t 9) = C0
      have hC1 : l.length + 1 ≤ C0 := hC0 ▸ hgc _
      generalize hA : w.alloc (.cells (((sv l).take i).toArray ++ Builtin.zeroCells (Value.string ⟨#[]⟩).cells (l.length + 1 - i) ++ Builtin.zeroCells (Value.string ⟨#[]⟩).cells (C0 - (l.length + 1))) (lays22_ren.t 9)) = A0
      obtain ⟨Z, hZl, g1⟩ : ∃ Z : List Value, Z.length = C0 - i ∧ A0.drew.heap[w.heap.size]? = some (.cells ((sv l).take i ++ Z).toArray (lays22_ren.t 9) (0, 0)) := by
        refine ⟨(Builtin.zeroCells (Value.string ⟨#[]⟩).cells (l.length + 1 - i) ++ Builtin.zeroCells (Value.string ⟨#[]⟩).cells (C0 - (l.length + 1))).toList, ?_, ?_⟩
        · have hz : (Value.string ⟨#[]⟩).cells.size = 1 := rfl
          generalize (Value.string ⟨#[]⟩).cells = zc at hz
          simp [Builtin.zeroCells, hz]; omega
        · subst hA
          show (w.heap.push _)[w.heap.size]? = _
          rw [Array.getElem?_push_size]
          refine congrArg some (congrArg (fun c => Go.Obj.cells c _ (0, 0)) (Array.ext' ?_))
          simp only [Array.toList_append, List.append_assoc]
      have k3 : A0.heap.size = w.heap.size + 1 := by
        rw [← hA]
        show (w.heap.push _).size = _
        rw [Array.size_push]
      have k4 : A0.os = w.os := by rw [← hA]; rfl
      have k5 : A0.output = w.output := by rw [← hA]; rfl
      have k2 : ∀ b, b < w.heap.size → A0.heap[b]? = w.heap[b]? := fun b hb => by
        rw [← hA]
        show (w.heap.push _)[b]? = _
        rw [Array.getElem?_push, if_neg (Nat.ne_of_lt hb)]
      clear hA
      have hT' : ((sv l).take i).length = i := by rw [List.length_take, hsl]; omega
      have hD : ((sv l).drop i).length = l.length - i := by rw [List.length_drop, hsl]
      obtain ⟨a1, a2, a3, a4, a5⟩ := setCells_heap w.heap.size _ (0, 0) [.string ⟨x.toArray⟩] i _ A0.drew g1 (by rw [List.length_append, hT', hZl, List.length_singleton]; omega)
      obtain ⟨b1, b2, b3, b4, b5⟩ := setCells_heap w.heap.size _ (0, 0) ((sv l).drop i) (i + 1) _ (World.setCells A0.drew w.heap.size i [.string ⟨x.toArray⟩]).drew a1 (by simp only [List.length_append, List.length_take, List.length_drop, hsl, hZl, List.length_singleton]; omega)
      rw [List.length_singleton, ins_grow hsl hlt, ← sv_insert] at b1
      refine newb _ _ _ _ hC1 b1 ?_ ?_ ?_ ?_
      · rw [b3]; show _ ≤ (World.setCells A0.drew _ _ _).heap.size; rw [a3]; show _ ≤ A0.heap.size; omega
      · rw [b4]; show (World.setCells A0.drew _ _ _).os = _; rw [a4]; exact k4
      · rw [b5]; show (World.setCells A0.drew _ _ _).output = _; rw [a5]; exact k5
      · intro b hb
        rw [b2 b (Nat.ne_of_lt hb)]; show (World.setCells A0.drew _ _ _).heap[b]? = _
        rw [a2 b (Nat.ne_of_lt hb)]
        exact k2 b hb
theorem delete_a (l : List (List UInt8)) (i : Nat) (hi : i < l.length) (hl : l.length < 1099511627776) {id : Nat} {h : H} (ho : h.objs id = some (.cells (strs l))) (htk : h.toks = []) :
    ACalls Tryz.prog 159 [.tsl 1 id 0 l.length none, .int .i64 i, .int .i64 ((i + 1 : Nat) : Int)] h (.sl 1 (strs (l.take i ++ l.drop (i + 1))) .any) (h.less id) := by
  intro G w vs hv R F
  simp only [VRels, VRel] at hv
  obtain ⟨v1, _, rfl, ⟨hd1, hv1⟩, v2, _, rfl, rfl, v3, _, rfl, rfl, rfl⟩ := hv
  obtain ⟨C, c, T, fr, rfl, ⟨hnC, hc63⟩, -, hg, hroom⟩ | ⟨hz, -⟩ := hv1
  rotate_left
  · omega
  obtain ⟨-, hown, hB, us, rest, T', fr', hg', hvs, hfr, -⟩ := R.obj id _ ho
  have hus := sv_of hvs
  subst hus
  rw [hg] at hg'
  obtain ⟨rfl, rfl, rfl⟩ : c = (sv l ++ rest).toArray ∧ T = T' ∧ fr = fr' := by simpa using hg'
  have hsl := sv_length l
  have hfz : ∀ j, w.frozen? ⟨G.ι id, j, none⟩ = false := fun j => by
    unfold World.frozen?; simp only [hg]
    have := hfr
    simp; omega
  have hout : (strs (l.take i ++ l.drop (i + 1))).length = l.length - (i + 1 - i) := by simp [strs]; omega
  have hcell : ∀ j, j < l.length → w.cell? ⟨G.ι id, 0 + j, none⟩ = some (.string (⟨(l.getD j []).toArray⟩ : ByteArray)) := fun j hj => cell_of hg j _ (by
    simp [sv, List.getElem?_map, List.getElem?_eq_getElem hj, List.getD_eq_getElem?_getD])
  have hS : Lib.strsOf (fun j => (⟨(l.getD j []).toArray⟩ : ByteArray)) l.length = l := by
    refine List.ext_getElem (Lib.strsOf_length _ _) fun j h1 h2 => ?_
    simp [Lib.strsOf, List.getD_eq_getElem?_getD, List.getElem?_eq_getElem h2]
  refine (Any.slices_Delete_string_cells lays24 (G.ι id) 0 l.length C i (i + 1) (fun j => (⟨(l.getD j []).toArray⟩ : ByteArray)) w hnC hc63 (by omega) (by omega) hcell (fun j hj => hfz _)).mono ?_
  rintro e w' ⟨rfl, q, rfl⟩
  rw [hS]
  have hm : ∀ m : List (List UInt8), m.map encStr = sv m := fun m => rfl
  rw [hm]
  have hsv : sv (l.take i ++ l.drop (i + 1) ++ List.replicate (i + 1 - i) []) = sv (l.take i ++ l.drop (i + 1)) ++ [.string ⟨#[]⟩] := by
    rw [show i + 1 - i = 1 by omega]; simp [sv]
  have hlen : (sv (l.take i ++ l.drop (i + 1) ++ List.replicate (i + 1 - i) [])).length = l.length := by rw [sv_length]; simp; omega
  obtain ⟨a1, a2, a3, a4, a5⟩ := setCells_heap (G.ι id) T fr (sv (l.take i ++ l.drop (i + 1) ++ List.replicate (i + 1 - i) [])) 0 (sv l ++ rest) (w.drewN q) hg (by rw [hlen, List.length_append, hsl]; omega)
  have e1 : (sv l ++ rest).take 0 ++ sv (l.take i ++ l.drop (i + 1) ++ List.replicate (i + 1 - i) []) ++ (sv l ++ rest).drop (0 + (sv (l.take i ++ l.drop (i + 1) ++ List.replicate (i + 1 - i) [])).length) = sv (l.take i ++ l.drop (i + 1)) ++ (Value.string ⟨#[]⟩ :: rest) := by
    rw [hlen, hsv, Nat.zero_add, ← hsl, List.drop_left, List.take_zero]; simp
  rw [e1] at a1
  obtain ⟨G', T1, R1, V⟩ := row_end (B := G.ι id) (off := 0) (C := C) (xs := strs (l.take i ++ l.drop (i + 1))) (vs := sv (l.take i ++ l.drop (i + 1))) R ho htk (Nat.le_of_eq a3.symm) a4 a5 (fun b _ hb => a2 b hb) (by
    rw [hg, a1]
    refine ⟨_, _, rfl, ?_, fun _ _ h => h⟩
    simp only [List.size_toArray, List.length_append, sv_length, List.length_cons, List.length_take, List.length_drop]
    omega) (.inl rfl) (by rw [hout]; omega) (by rw [hout, sv_length]; simp; omega) (sv_elems _) (fun v hv => sv_one hv) (cell_of a1)
  exact ⟨_, G', rfl, T1, R1, by rw [hout] at V; exact V⟩
end Go.Proofs.YtehhdhadmapplaaGreat.Page
end
section
set_option linter.unusedSimpArgs false
set_option linter.unusedVariables false
set_option maxRecDepth 10000
namespace Go.Proofs.YtehhdhadmapplaaGreat.Page
open Go Go.Av Go.Proofs Go.Proofs.YtehhdhadmapplaaGreat.C
def keyOk (l : List (List UInt8)) (i : Nat) : Bool := decide ((l.getD i []).length ≤ 128) && (decide (i = 0) || Op.bytesLess (l.getD (i - 1) []) (l.getD i []))
def keysOk (l : List (List UInt8)) : Bool := (List.range l.length).all (keyOk l)
def long (v : List UInt8) : Bool := decide (200 < v.length)
def stray (k : Int) : Bool := decide (k < 0) || decide (16384 ≤ k)
def right (n : Node) : Bool := keysOk n.keys && (if n.leaf then decide (n.vals.length = n.keys.length) && decide (n.kids.length = 0) && !n.vals.any long
  else decide (n.vals.length = 0) && decide (n.kids.length = n.keys.length + 1) && !n.kids.any stray)
end Go.Proofs.YtehhdhadmapplaaGreat.Page
end
section
set_option linter.unusedSimpArgs false
set_option linter.unusedVariables false
set_option maxRecDepth 10000
namespace Go.Proofs.YtehhdhadmapplaaGreat.Page
open Go Go.Av Go.Proofs Go.Proofs.YtehhdhadmapplaaGreat.C
end Go.Proofs.YtehhdhadmapplaaGreat.Page
end
section
set_option linter.unusedSimpArgs false
set_option linter.unusedVariables false
set_option maxRecDepth 10000
namespace Go.Proofs.YtehhdhadmapplaaGreat.Page
open Go Go.Av Go.Proofs Go.Proofs.YtehhdhadmapplaaGreat.C
def be : Nat → Nat → List UInt8
  | 0, _ => []
  | b + 1, v => UInt8.ofNat (v / 256 ^ b) :: be b v
end Go.Proofs.YtehhdhadmapplaaGreat.Page
end
section
set_option linter.unusedSimpArgs false
set_option linter.unusedVariables false
set_option maxRecDepth 10000
namespace Go.Proofs.YtehhdhadmapplaaGreat.Page
open Go Go.Av Go.Proofs Go.Proofs.YtehhdhadmapplaaGreat.C
def row (n : Node) (i : Nat) : List UInt8 :=
  be 1 (n.keys.getD i []).length ++ n.keys.getD i [] ++ (if n.leaf then be 2 (n.vals.getD i []).length ++ n.vals.getD i [] else be 4 (n.kids.getD (i + 1) 0).toNat)
def rows (n : Node) : Nat → List UInt8
  | 0 => []
  | j + 1 => rows n j ++ row n j
def head (n : Node) : List UInt8 := (if n.leaf then [76] else [73]) ++ be 2 n.keys.length ++ (if n.leaf then [] else be 4 (n.kids.getD 0 0).toNat)
def text (n : Node) : List UInt8 := head n ++ rows n n.keys.length
def bytesOf (n : Node) : List UInt8 := text n ++ List.replicate (1024 - size n) 0
structure Right (n : Node) : Prop where
  keys : ∀ i, i < n.keys.length → (n.keys.getD i []).length ≤ 128
  vals : n.leaf = true → n.vals.length = n.keys.length
  kids : n.leaf = false → n.kids.length = n.keys.length + 1
  val : n.leaf = true → ∀ i, i < n.keys.length → (n.vals.getD i []).length ≤ 200
  kid : n.leaf = false → ∀ i, i < n.keys.length + 1 → 0 ≤ n.kids.getD i 0 ∧ n.kids.getD i 0 < 16384
end Go.Proofs.YtehhdhadmapplaaGreat.Page
end
section
set_option linter.unusedSimpArgs false
set_option linter.unusedVariables false
set_option maxRecDepth 10000
namespace Go.Proofs.YtehhdhadmapplaaGreat.Page
open Go Go.Av Go.Proofs Go.Proofs.YtehhdhadmapplaaGreat.C
end Go.Proofs.YtehhdhadmapplaaGreat.Page
end
section
set_option linter.unusedSimpArgs false
set_option linter.unusedVariables false
set_option maxRecDepth 10000
namespace Go.Proofs.YtehhdhadmapplaaGreat.Page
open Go Go.Av Go.Proofs Go.Proofs.YtehhdhadmapplaaGreat.C
end Go.Proofs.YtehhdhadmapplaaGreat.Page
end
section
set_option linter.unusedSimpArgs false
set_option linter.unusedVariables false
set_option maxRecDepth 10000
namespace Go.Proofs.YtehhdhadmapplaaGreat.Page
open Go Go.Av Go.Proofs Go.Proofs.YtehhdhadmapplaaGreat.C
end Go.Proofs.YtehhdhadmapplaaGreat.Page
end
section
set_option linter.unusedSimpArgs false
set_option linter.unusedVariables false
set_option maxRecDepth 10000
namespace Go.Proofs.YtehhdhadmapplaaGreat.Page
open Go Go.Av Go.Proofs Go.Proofs.YtehhdhadmapplaaGreat.C
end Go.Proofs.YtehhdhadmapplaaGreat.Page
end
section
set_option linter.unusedSimpArgs false
set_option linter.unusedVariables false
set_option maxRecDepth 10000
namespace Go.Proofs.YtehhdhadmapplaaGreat.Page
open Go Go.Av Go.Proofs Go.Proofs.YtehhdhadmapplaaGreat.C
end Go.Proofs.YtehhdhadmapplaaGreat.Page
end
section
set_option linter.unusedSimpArgs false
set_option linter.unusedVariables false
set_option maxRecDepth 10000
namespace Go.Proofs.YtehhdhadmapplaaGreat.Page
open Go Go.Av Go.Proofs Go.Proofs.YtehhdhadmapplaaGreat.C
end Go.Proofs.YtehhdhadmapplaaGreat.Page
end
section
set_option linter.unusedSimpArgs false
set_option linter.unusedVariables false
set_option maxRecDepth 10000
namespace Go.Proofs.YtehhdhadmapplaaGreat.Page
open Go Go.Av Go.Proofs Go.Proofs.YtehhdhadmapplaaGreat.C
end Go.Proofs.YtehhdhadmapplaaGreat.Page
end
section
set_option linter.unusedSimpArgs false
set_option linter.unusedVariables false
set_option maxRecDepth 10000
namespace Go.Proofs.YtehhdhadmapplaaGreat.Page
open Go Go.Av Go.Proofs Go.Proofs.YtehhdhadmapplaaGreat.C
def least (key k : List UInt8) : Bool := !Op.bytesLess k key
def above (key k : List UInt8) : Bool := !(Op.bytesLess k key || decide (k = key))
def place (n : Node) (key : List UInt8) : Nat := if n.leaf then n.keys.findIdx (least key) else n.keys.findIdx (above key)
end Go.Proofs.YtehhdhadmapplaaGreat.Page
end
section
set_option linter.unusedSimpArgs false
set_option linter.unusedVariables false
set_option maxRecDepth 10000
namespace Go.Proofs.YtehhdhadmapplaaGreat.Page
open Go Go.Av Go.Proofs Go.Proofs.YtehhdhadmapplaaGreat.C
end Go.Proofs.YtehhdhadmapplaaGreat.Page
end
section
set_option linter.unusedSimpArgs false
set_option linter.unusedVariables false
set_option maxRecDepth 10000
namespace Go.Proofs.YtehhdhadmapplaaGreat.Page
open Go Go.Av Go.Proofs Go.Proofs.YtehhdhadmapplaaGreat.C
end Go.Proofs.YtehhdhadmapplaaGreat.Page
end
section
set_option linter.unusedSimpArgs false
set_option linter.unusedVariables false
set_option maxRecDepth 10000
namespace Go.Proofs.YtehhdhadmapplaaGreat.Page
open Go Go.Av Go.Proofs Go.Proofs.YtehhdhadmapplaaGreat.C
def part (n : Node) (a b : Nat) : Node := ⟨n.leaf, (n.keys.take b).drop a, if n.leaf then (n.vals.take b).drop a else [], if n.leaf then [] else (n.kids.take (b + 1)).drop a⟩
structure Ns (n : Node) : Prop where
  k : n.keys.length ≤ 1000
  v : n.vals.length ≤ 1000
  i : n.kids.length ≤ 1001
end Go.Proofs.YtehhdhadmapplaaGreat.Page
end
section
set_option linter.unusedSimpArgs false
set_option linter.unusedVariables false
set_option maxRecDepth 10000
namespace Go.Proofs.YtehhdhadmapplaaGreat.Page
open Go Go.Av Go.Proofs Go.Proofs.YtehhdhadmapplaaGreat.C
theorem insert_e (x : List UInt8) {id2 : Nat} {h : H} (ho2 : h.objs id2 = some (.cells [.str x])) (htk : h.toks = []) :
    ACalls Tryz.prog 154 [.sl 1 [] (.exact 0), .int .i64 0, .tsl 1 id2 0 1 none] h (.sl 1 (strs [x]) .any) (h.less id2) := by
  intro G w vs hv R F
  simp only [VRels] at hv
  obtain ⟨v1, _, rfl, hv1, v2, _, rfl, hv2, v3, _, rfl, hv3, rfl⟩ := hv
  have hbase : ∃ a0, v1 = .slice a0 0 0 := by
    simp only [VRel, CapOk] at hv1
    rcases hv1 with ⟨-, h, -⟩ | ⟨B, off, C, vs, q1, -, -, -, -, q6⟩
    · exact h
    · subst q6; exact ⟨_, by simpa using q1⟩
  obtain ⟨a0, rfl⟩ := hbase
  simp only [VRel] at hv2 hv3
  subst hv2
  obtain ⟨hd2, hv3⟩ := hv3
  obtain ⟨C2, c2, T2, fr2, rfl, ⟨hnC2, -⟩, -, hg2, hroom2⟩ | ⟨hz, -⟩ := hv3
  rotate_left
  · omega
  obtain ⟨-, hown2, hB2, us2, rest2, T2', fr2', hg2', hvs2, hfr2, -⟩ := R.obj id2 _ ho2
  have hus2 : us2 = [.string ⟨x.toArray⟩] := by
    simp only [VRels, VRel] at hvs2
    obtain ⟨v, _, rfl, rfl, rfl⟩ := hvs2
    rfl
  subst hus2
  rw [hg2] at hg2'
  obtain ⟨rfl, rfl, rfl⟩ : c2 = ([Value.string ⟨x.toArray⟩] ++ rest2).toArray ∧ T2 = T2' ∧ fr2 = fr2' := by simpa using hg2'
  have hvs' : ∀ (j : Nat) v, ([Value.string ⟨x.toArray⟩] : List Value)[j]? = some v → w.cell? ⟨G.ι id2, 0 + j, none⟩ = some v := fun j v => cell_of hg2 j v
  have h1v : ∀ v ∈ ([Value.string ⟨x.toArray⟩] : List Value), v.oneCell' = true := by simp [Value.oneCell']
  have key := Any2.slices_Insert_string_end_grow lays22 a0 0 0 (G.ι id2) 0 1 C2 [] [.string ⟨x.toArray⟩] w (by omega) (Nat.le_refl _) (by omega) (by omega) rfl rfl (fun _ => rfl) (fun a ha j v hj => by simp at hj) hvs' h1v
  refine key.mono ?_
  rintro e w' ⟨rfl, rfl⟩
  have hgc' : 0 + 1 ≤ grownCap w (0 + 1) 0 (lays22_ren.t 9) := by simp [grownCap, Question.cut]
  generalize grownCap w (0 + 1) 0 (lays22_ren.t 9) = C0 at hgc' ⊢
  generalize Builtin.zeroCells (Value.string ⟨#[]⟩).cells (C0 - (0 + 1)) = Zc
  have hs : (w.drew.alloc (.cells (([] ++ [Value.string ⟨x.toArray⟩]).toArray ++ Zc) (lays22_ren.t 9))).heap.size = w.heap.size + 1 := by
    show (w.heap.push _).size = _
    rw [Array.size_push]
  have hold : ∀ b, b < w.heap.size → (w.drew.alloc (.cells (([] ++ [Value.string ⟨x.toArray⟩]).toArray ++ Zc) (lays22_ren.t 9))).heap[b]? = w.heap[b]? := fun b hb => by
    show (w.heap.push _)[b]? = _
    rw [Array.getElem?_push, if_neg (Nat.ne_of_lt hb)]
  have hnew : (w.drew.alloc (.cells (([] ++ [Value.string ⟨x.toArray⟩]).toArray ++ Zc) (lays22_ren.t 9))).heap[w.heap.size]? = some (.cells (sv [x] ++ Zc.toList).toArray (lays22_ren.t 9) (0, 0)) := by
    show (w.heap.push _)[w.heap.size]? = _
    rw [Array.getElem?_push_size]
    refine congrArg some (congrArg (fun c => Go.Obj.cells c _ (0, 0)) (Array.ext' ?_))
    simp only [Array.toList_append]
    rfl
  obtain ⟨G', T1, R1, V⟩ := row_end (w' := w.drew.alloc (.cells (([] ++ [Value.string ⟨x.toArray⟩]).toArray ++ Zc) (lays22_ren.t 9))) (B := w.heap.size) (off := 0) (C := C0) (xs := strs [x]) (vs := sv [x]) R ho2 htk (by omega) rfl rfl (fun b hb _ => hold b hb) (by rw [hold _ hB2]; exact SameForm.refl _) (.inr (Nat.le_refl _)) (by simpa [strs] using hgc') rfl (sv_elems _) (fun v hv => sv_one hv) (cell_of hnew)
  exact ⟨_, G', rfl, T1, R1, V⟩
theorem strs_shaped (l : List (List UInt8)) : (strs l).all shaped = true := by
  simp [strs, shaped, isCell]
theorem strs_cells (l : List (List UInt8)) : (strs l).flatMap cellsOf = strs l := by
  induction l with
  | nil => rfl
  | cons s l ih => simp only [strs, List.map_cons, List.flatMap_cons] at ih ⊢; rw [ih]; rfl
theorem insert_x (l : List (List UInt8)) (i : Nat) (x : List UInt8) (hi : i ≤ l.length) (hl : l.length < 1099511627776) (h0 : 0 < l.length) :
    ACalls Tryz.prog 154 [.tsl 1 0 0 l.length none, .int .i64 i, .tsl 1 1 0 1 none] ⟨upd (upd none' 0 (some (.cells ((strs l).flatMap cellsOf)))) 1 (some (.cells [.str x])), 2, [], 0⟩ (.sl 1 (strs (l.take i ++ x :: l.drop i)) .any) (H.less ⟨upd (upd none' 0 (some (.cells ((strs l).flatMap cellsOf)))) 1 (some (.cells [.str x])), 2, [], 0⟩ 0) :=
  insert_a l i x hi hl h0 (id2 := 1) (by decide) (by simp [upd, strs_cells]) (by simp [upd]) rfl
theorem with_p (l : List (List UInt8)) (i : Nat) (x : List UInt8) (hi : i ≤ l.length) (hl : l.length < 1099511627776) :
    PCalls Tryz.prog 249 [.sl 1 (strs l) .any, .int .i64 i, .str x] (.sl 1 (strs (l.take i ++ x :: l.drop i)) .any) := by
  refine f249.pcalls0 (by simp) (by simp [allPure, isPure, capPure, strs_pure]) (by simp [isPure, capPure, strs_pure]) ?_
  unfold c249
  refine Wp.seqReg (by simp only [go_sem, reduceIte, Nat.reduceEqDiff, Nat.reduceAdd, bx]; exact rfl) (by trivial) ?_
  refine Wp.seq (Wp.regN ?_)
  refine WpItemsN.op (by simp only [go_sem, reduceIte, Nat.reduceEqDiff, Nat.reduceAdd, bx]) (by simp only [go_sem, reduceIte, Nat.reduceEqDiff, Nat.reduceAdd, bx]; exact rfl) ?_
  cases l with
  | nil =>
    have hi0 : i = 0 := by simpa using hi
    subst hi0
    refine WpItemsN.pcall (by simp only [go_sem]) (by simp only [go_sem, List.map]; exact VSubs.refl _) (cloneE_gen (sz := 1) (bytes := 16) f208) ?_
    refine WpItemsN.op (by simp only [go_sem, reduceIte, Nat.reduceEqDiff, Nat.reduceAdd, bx]) (by simp only [go_sem, reduceIte, Nat.reduceEqDiff, Nat.reduceAdd, bx]; exact rfl) ?_
    refine WpItemsN.op (by simp only [go_sem, reduceIte, Nat.reduceEqDiff, Nat.reduceAdd, bx]) (by simp only [go_sem, reduceIte, Nat.reduceEqDiff, Nat.reduceAdd, bx]; exact rfl) ?_
    refine WpItemsN.opT (by simp only [go_sem, reduceIte, Nat.reduceEqDiff, Nat.reduceAdd, bx]) (by simp only [aopT, go_sem, reduceIte, Nat.reduceEqDiff, Nat.reduceAdd, bx, List.all_cons, List.all_nil, List.length_cons, List.length_nil, Nat.reduceMul, Nat.reduceLeDiff, and_self, if_true, decide_true, Bool.and_self]; exact rfl) ?_
    refine WpItemsN.acall (by simp only [go_sem]) (by simp only [go_sem, List.map]; exact VSubs.refl _) (insert_e x (by simp [upd, cellsOf]) rfl) (touch_gen _ _ _ (ids := [0]) ?_ rfl rfl ?_ (Nat.le_refl _) (Nat.le_refl _)) ?_
    · exact ⟨fun j o h => h, fun t h => h⟩
    · intro id h; simp only [H0, H.only, upd, none'] at h; split at h <;> simp_all
    refine WpItemsN.op (by simp only [go_sem, reduceIte, Nat.reduceEqDiff, Nat.reduceAdd, bx]) (by simp only [go_sem, reduceIte, Nat.reduceEqDiff, Nat.reduceAdd, bx]; exact rfl) ?_
    refine WpItems.toN (log := []) (WpItems.nil ?_)
    refine Wp.ret ⟨trivial, _, rfl, ?_⟩
    simp only [go_sem, reduceIte, Nat.reduceEqDiff, Nat.reduceAdd, bx]
    exact VSub.refl _
  | cons s l =>
    simp only [List.length_cons] at hi hl
    refine WpItemsN.acall (by simp only [go_sem]) (by simp only [go_sem, List.map]; exact VSubs.refl _) (cloneT_gen (sz := 1) (bytes := 16) f208 (.str s) (strs l) (strs_shaped (s :: l)) (by rw [strs_length]; omega) (by rw [strs_length]; omega) 0 0) (touch_new (H0 0 0) _) ?_
    refine WpItemsN.op (by simp only [go_sem, reduceIte, Nat.reduceEqDiff, Nat.reduceAdd, bx]) (by simp only [go_sem, reduceIte, Nat.reduceEqDiff, Nat.reduceAdd, bx]; exact rfl) ?_
    refine WpItemsN.op (by simp only [go_sem, reduceIte, Nat.reduceEqDiff, Nat.reduceAdd, bx]) (by simp only [go_sem, reduceIte, Nat.reduceEqDiff, Nat.reduceAdd, bx]; exact rfl) ?_
    refine WpItemsN.opT (by simp only [go_sem, reduceIte, Nat.reduceEqDiff, Nat.reduceAdd, bx]) (by simp only [aopT, go_sem, reduceIte, Nat.reduceEqDiff, Nat.reduceAdd, bx, List.all_cons, List.all_nil, List.length_cons, List.length_nil, Nat.reduceMul, Nat.reduceLeDiff, and_self, if_true, decide_true, Bool.and_self]; exact rfl) ?_
    refine WpItemsN.acall (by simp only [go_sem]) (by simp only [go_sem, List.map]; exact VSubs.refl _) (insert_x (s :: l) i x hi (by simpa using hl) (by simp)) (touch_gen _ _ _ (ids := [0, 1]) ?_ rfl rfl ?_ (Nat.le_refl _) (Nat.le_refl _)) ?_
    · exact ⟨fun j o h => h, fun t h => h⟩
    · intro id h; simp only [H0, H.only, upd, none'] at h; split at h <;> simp_all
    refine WpItemsN.op (by simp only [go_sem, reduceIte, Nat.reduceEqDiff, Nat.reduceAdd, bx]) (by simp only [go_sem, reduceIte, Nat.reduceEqDiff, Nat.reduceAdd, bx]; exact rfl) ?_
    refine WpItems.toN (log := []) (WpItems.nil ?_)
    refine Wp.ret ⟨trivial, _, rfl, ?_⟩
    simp only [go_sem, reduceIte, Nat.reduceEqDiff, Nat.reduceAdd, bx]
    exact VSub.refl _
theorem delete_x (l : List (List UInt8)) (i : Nat) (hi : i < l.length) (hl : l.length < 1099511627776) :
    ACalls Tryz.prog 159 [.tsl 1 0 0 l.length none, .int .i64 i, .int .i64 ((i + 1 : Nat) : Int)] (.only (upd none' 0 (some (.cells ((strs l).flatMap cellsOf)))) [] 1 0) (.sl 1 (strs (l.take i ++ l.drop (i + 1))) .any) (H.less (.only (upd none' 0 (some (.cells ((strs l).flatMap cellsOf)))) [] 1 0) 0) :=
  delete_a l i hi hl (by simp [H.only, upd, strs_cells]) rfl
theorem without_p (l : List (List UInt8)) (i : Nat) (hi : i < l.length) (hl : l.length < 1099511627776) :
    PCalls Tryz.prog 256 [.sl 1 (strs l) .any, .int .i64 i] (.sl 1 (strs (l.take i ++ l.drop (i + 1))) .any) := by
  refine f256.pcalls0 (by simp) (by simp [allPure, isPure, capPure, strs_pure]) (by simp [isPure, capPure, strs_pure]) ?_
  unfold c256
  have hw : IntKind.i64.wrap ((i : Int) + 1) = ((i + 1 : Nat) : Int) := by rw [IntWalk.i64_in _ (by omega)]; rfl
  refine Wp.seqReg (by simp only [go_sem, reduceIte, Nat.reduceEqDiff, Nat.reduceAdd, bx]; exact rfl) (by trivial) ?_
  refine Wp.seq (Wp.regN ?_)
  refine WpItemsN.op (by simp only [go_sem, reduceIte, Nat.reduceEqDiff, Nat.reduceAdd, bx]) (by simp only [go_sem, reduceIte, Nat.reduceEqDiff, Nat.reduceAdd, bx]; exact rfl) ?_
  cases l with
  | nil => simp at hi
  | cons s l =>
    simp only [List.length_cons] at hi hl
    refine WpItemsN.acall (by simp only [go_sem]) (by simp only [go_sem, List.map]; exact VSubs.refl _) (cloneT_gen (sz := 1) (bytes := 16) f208 (.str s) (strs l) (strs_shaped (s :: l)) (by rw [strs_length]; omega) (by rw [strs_length]; omega) 0 0) (touch_new (H0 0 0) _) ?_
    refine WpItemsN.op (by simp only [go_sem, reduceIte, Nat.reduceEqDiff, Nat.reduceAdd, bx]) (by simp only [go_sem, reduceIte, Nat.reduceEqDiff, Nat.reduceAdd, bx, hw]; exact rfl) ?_
    refine WpItemsN.op (by simp only [go_sem, reduceIte, Nat.reduceEqDiff, Nat.reduceAdd, bx]) (by simp only [go_sem, reduceIte, Nat.reduceEqDiff, Nat.reduceAdd, bx, hw]; exact rfl) ?_
    refine WpItemsN.op (by simp only [go_sem, reduceIte, Nat.reduceEqDiff, Nat.reduceAdd, bx]) (by simp only [go_sem, reduceIte, Nat.reduceEqDiff, Nat.reduceAdd, bx, hw]; exact rfl) ?_
    refine WpItemsN.acall (by simp only [go_sem]) (by simp only [go_sem, List.map]; exact VSubs.refl _) (delete_x (s :: l) i hi (by simpa using hl)) (touch_gen _ _ _ (ids := [0]) ?_ rfl rfl ?_ (Nat.le_refl _) (Nat.le_refl _)) ?_
    · exact ⟨fun j o h => h, fun t h => h⟩
    · intro id h; simp only [H0, H.only, upd, none'] at h; split at h <;> simp_all
    refine WpItemsN.op (by simp only [go_sem, reduceIte, Nat.reduceEqDiff, Nat.reduceAdd, bx]) (by simp only [go_sem, reduceIte, Nat.reduceEqDiff, Nat.reduceAdd, bx]; exact rfl) ?_
    refine WpItems.toN (log := []) (WpItems.nil ?_)
    refine Wp.ret ⟨trivial, _, rfl, ?_⟩
    simp only [go_sem, reduceIte, Nat.reduceEqDiff, Nat.reduceAdd, bx]
    exact VSub.refl _
end Go.Proofs.YtehhdhadmapplaaGreat.Page
end
section
set_option linter.unusedSimpArgs false
set_option linter.unusedVariables false
set_option maxRecDepth 100000
namespace Go.Proofs.YtehhdhadmapplaaGreat.Tree
open Go Go.Av Go.Proofs Go.Proofs.YtehhdhadmapplaaGreat.C Go.Proofs.YtehhdhadmapplaaGreat.Page
theorem blank_p (c : UInt8) : PCalls Tryz.prog 227 [byte c] (.bool (decide (c ≠ 0))) := by
  refine f227.pcalls0 (by simp) rfl rfl ?_
  unfold c227
  have e : decide (((c.toNat : Nat) : Int) = 0) = decide (c = 0) := decide_eq_decide.2 ⟨fun h => UInt8.toNat_inj.1 (by omega : c.toNat = 0), fun h => by rw [h]; rfl⟩
  repeat (first
    | ((first | apply Wp.seqItems | apply Wp.items); (· simp only [go_sem, reduceIte, Nat.reduceEqDiff, Nat.reduceAdd, bx, ax, if_true, if_false, Nat.reduceMul, Nat.reduceLeDiff, byte, e]; exact rfl))
    | (refine WpItems.nil ⟨?_, ?_⟩; (· first | trivial | simp [pairsQ, pairsOk, apart, ent0]))
    | (apply Wp.cond_lit; (· simp only [go_sem, reduceIte, Nat.reduceEqDiff, Nat.reduceAdd, bx, ax, if_true, if_false, Nat.reduceMul, Nat.reduceLeDiff, byte, e]; exact rfl); (· rfl))
    | refine Wp.skip ?_
    | refine Wp.label ?_
    | refine Wp.block ?_
    | refine Wp.exit ?_
    | refine Wp.seq ?_)
  refine Wp.ret ⟨trivial, _, rfl, ?_⟩
  simp only [go_sem, reduceIte, Nat.reduceEqDiff, Nat.reduceAdd, bx]
  refine VSub.of_eq ?_
  simp
theorem anyBlank_p (l : List UInt8) (hl : l.length ≤ 4611686018427387904) : PCalls Tryz.prog 229 [.sl 1 (bytesAV l) .any, .clo (.func 227) [] []] (.bool (l.any (fun c => decide (c ≠ 0)))) :=
  contains_gen f229 byte (fun _ => rfl) l _ (index_gen f298 byte (fun _ => rfl) (fun _ => rfl) l hl _ Tryz.func227 rfl (of_decide_eq_true (by kernel_rfl)) fun x _ => blank_p x)
noncomputable def nzs (l : List AV) : Nat → Bool → Option (Nat × Bool) :=
  List.rec (motive := fun _ => Nat → Bool → Option (Nat × Bool)) (fun n b => some (n, b)) (fun x _ ih n b => match x with
    | .int .u8 (.ofNat k) => (match Nat.ble k 255 with
      | true => (match Nat.beq k 0 with
        | true => ih (Nat.succ n) b
        | false => ih (Nat.succ n) true)
      | false => none)
    | _ => none) l
theorem nzs_ok : ∀ {l : List AV} {n : Nat} {b : Bool} {r : Nat × Bool}, nzs l n b = some r → ∃ bs : List UInt8, l = bytesAV bs ∧ r = (n + bs.length, b || bs.any fun c => decide (c ≠ 0))
  | [], n, b, r, h => by
    simp only [nzs, Option.some.injEq] at h
    exact ⟨[], rfl, by simp [← h]⟩
  | x :: l, n, b, r, h => by
    change (match x with
    | .int .u8 (.ofNat k) => (match Nat.ble k 255 with
      | true => (match Nat.beq k 0 with
        | true => nzs l (Nat.succ n) b
        | false => nzs l (Nat.succ n) true)
      | false => none)
    | _ => none) = _ at h
    split at h
    · rename_i k
      split at h
      · rename_i hk
        have hk := Nat.le_of_ble_eq_true hk
        have hx : AV.int .u8 (Int.ofNat k) = byte (UInt8.ofNat k) := by simp [byte]; omega
        have hz : (UInt8.ofNat k = 0) ↔ k = 0 := by
          constructor
          · intro e
            have := congrArg UInt8.toNat e
            simp at this
            omega
          · rintro rfl; rfl
        split at h
        · rename_i e
          have e := Nat.eq_of_beq_eq_true e
          obtain ⟨bs, rfl, hr⟩ := nzs_ok h
          refine ⟨UInt8.ofNat k :: bs, by simp [bytesAV, ← hx], ?_⟩
          rw [hr]
          simp [hz.2 e]
          omega
        · rename_i e
          have e := Nat.ne_of_beq_eq_false e
          obtain ⟨bs, rfl, hr⟩ := nzs_ok h
          refine ⟨UInt8.ofNat k :: bs, by simp [bytesAV, ← hx], ?_⟩
          have : decide (UInt8.ofNat k ≠ 0) = true := decide_eq_true fun q => e (hz.1 q)
          rw [hr]
          simp only [List.any_cons, this, List.length_cons, Bool.true_or, Bool.or_true, Prod.mk.injEq, and_true]
          omega
      · cases h
    · cases h
noncomputable def unStrs (l : List AV) : Option (List (List UInt8)) :=
  List.rec (motive := fun _ => Option (List (List UInt8))) (some []) (fun x _ ih => match x with
    | .str s => (match ih with
      | some r => some (s :: r)
      | none => none)
    | _ => none) l
theorem unStrs_ok : ∀ {l : List AV} {r : List (List UInt8)}, unStrs l = some r → l = strs r
  | [], r, h => by cases h; rfl
  | x :: l, r, h => by
    change (match x with
    | .str s => (match unStrs l with
      | some r => some (s :: r)
      | none => none)
    | _ => none) = _ at h
    split at h
    · split at h
      · rename_i hr
        cases h
        rw [unStrs_ok hr]; rfl
      · cases h
    · cases h
noncomputable def treePP (f : Nat) (args : List AV) : Option AV :=
  match Nat.beq f 229 with
  | true => (match args with
    | [.sl s xs _, .clo (.func g) [] []] => (match Nat.beq g 227 && Nat.beq s 1 with
      | true => (match nzs xs 0 false with
        | some (n, b) => (match Nat.ble n 4611686018427387904 with
          | true => some (.bool b)
          | false => none)
        | none => none)
      | false => none)
    | _ => none)
  | false => match Nat.beq f 249 with
    | true => (match args with
      | [.sl s xs _, .int .i64 (.ofNat i), .str x] => (match unStrs xs with
        | some l => (match (Nat.beq s 1 || l.isEmpty) && Nat.ble i l.length && Nat.blt l.length 1099511627776 with
          | true => some (.sl 1 (strs (l.take i ++ x :: l.drop i)) .any)
          | false => none)
        | none => none)
      | _ => none)
    | false => match Nat.beq f 256 with
      | true => (match args with
        | [.sl s xs _, .int .i64 (.ofNat i)] => (match unStrs xs with
          | some l => (match Nat.beq s 1 && Nat.blt i l.length && Nat.blt l.length 1099511627776 with
            | true => some (.sl 1 (strs (l.take i ++ l.drop (i + 1))) .any)
            | false => none)
          | none => none)
        | _ => none)
      | false => none
theorem treePP_ok {f : Nat} {args : List AV} {r : AV} (h : treePP f args = some r) : (∃ vals, VSubs args vals ∧ PCalls Tryz.prog f vals r) ∧ NamedF Tryz.prog f := by
  unfold treePP at h
  split at h
  · rename_i e
    have e := Nat.eq_of_beq_eq_true e
    subst e
    refine ⟨?_, ⟨_, Tryz.func229, of_decide_eq_true (by kernel_rfl), of_decide_eq_true (by kernel_rfl)⟩⟩
    split at h
    · split at h
      · rename_i hc
        simp only [Bool.and_eq_true] at hc
        have c1 := Nat.eq_of_beq_eq_true hc.1
        have c2 := Nat.eq_of_beq_eq_true hc.2
        subst c1 c2
        split at h
        · rename_i n b hn
          split at h
          · rename_i hl
            cases h
            obtain ⟨bs, rfl, hr⟩ := nzs_ok hn
            simp only [Nat.zero_add, Bool.false_or, Prod.mk.injEq] at hr
            obtain ⟨rfl, rfl⟩ := hr
            exact ⟨_, VSubs.cons VSub.cap (VSubs.refl _), anyBlank_p bs (Nat.le_of_ble_eq_true hl)⟩
          · cases h
        · cases h
      · cases h
    · cases h
  split at h
  · rename_i e
    have e := Nat.eq_of_beq_eq_true e
    subst e
    refine ⟨?_, ⟨_, Tryz.func249, of_decide_eq_true (by kernel_rfl), of_decide_eq_true (by kernel_rfl)⟩⟩
    split at h
    · split at h
      · rename_i l hl
        split at h
        · rename_i hc
          cases h
          simp only [Bool.and_eq_true, Bool.or_eq_true] at hc
          have hl := unStrs_ok hl
          subst hl
          have c2 := Nat.le_of_ble_eq_true hc.1.2
          have c3 := Nat.le_of_ble_eq_true hc.2
          refine ⟨_, VSubs.cons ?_ (VSubs.refl _), with_p l _ _ c2 c3⟩
          rcases hc.1.1 with e | e
          · rw [Nat.eq_of_beq_eq_true e]; exact VSub.cap
          · rw [List.isEmpty_iff.1 e]; exact VSub.nil
        · cases h
      · cases h
    · cases h
  split at h
  · rename_i e
    have e := Nat.eq_of_beq_eq_true e
    subst e
    refine ⟨?_, ⟨_, Tryz.func256, of_decide_eq_true (by kernel_rfl), of_decide_eq_true (by kernel_rfl)⟩⟩
    split at h
    · split at h
      · rename_i l hl
        split at h
        · rename_i hc
          cases h
          simp only [Bool.and_eq_true] at hc
          have hl := unStrs_ok hl
          subst hl
          have c1 := Nat.eq_of_beq_eq_true hc.1.1
          have c2 := Nat.le_of_ble_eq_true hc.1.2
          have c3 := Nat.le_of_ble_eq_true hc.2
          subst c1
          exact ⟨_, VSubs.cons VSub.cap (VSubs.refl _), without_p l _ c2 c3⟩
        · cases h
      · cases h
    · cases h
  · cases h
noncomputable def noPF : PrimsF := fun _ _ _ => none
theorem noPF_ok : PrimsOkF Tryz.prog noPF := fun _ _ _ _ _ _ h => by cases h
noncomputable def thawed (f : Nat) : Bool := Nat.beq f 224 || Nat.beq f 141
end Go.Proofs.YtehhdhadmapplaaGreat.Tree
end
section
set_option linter.unusedSimpArgs false
set_option linter.unusedVariables false
set_option maxRecDepth 100000
namespace Go.Proofs.YtehhdhadmapplaaGreat.Arch
open Go Go.Av Go.Proofs Go.Proofs.YtehhdhadmapplaaGreat.C
theorem wrap32 {n : Nat} (h : n < 4294967296) : IntKind.u32.wrap (n : Int) = n := by
  simp [IntKind.wrap, IntKind.bits, IntKind.signed]; omega
theorem ofInt32 {n : Nat} (h : n < 4294967296) : (BitVec.ofInt IntKind.u32.bits (n : Int)).toNat = n := by
  rw [BitVec.ofInt_natCast, BitVec.toNat_ofNat]
  exact Nat.mod_eq_of_lt h
theorem xor32 {a b : Nat} (ha : a < 4294967296) (hb : b < 4294967296) : xorI .u32 (a : Int) (b : Int) = ((a ^^^ b : Nat) : Int) := by
  unfold xorI
  rw [BitVec.toNat_xor, ofInt32 ha, ofInt32 hb]
  exact wrap32 (Nat.xor_lt_two_pow (n := 32) ha hb)
theorem and32 {a b : Nat} (ha : a < 4294967296) (hb : b < 4294967296) : andI .u32 (a : Int) (b : Int) = ((a &&& b : Nat) : Int) := by
  unfold andI
  rw [BitVec.toNat_and, ofInt32 ha, ofInt32 hb]
  exact wrap32 (Nat.and_lt_two_pow (n := 32) a hb)
theorem and1 {a : Nat} (ha : a < 4294967296) : andI .u32 (a : Int) 1 = ((a % 2 : Nat) : Int) := by
  rw [show (1 : Int) = ((1 : Nat) : Int) from rfl, and32 ha (by decide), Nat.and_one_is_mod]
def bitN (c : Nat) : Nat := if c % 2 = 1 then (c / 2) ^^^ 2197175160 else c / 2
def itN : Nat → Nat → Nat
  | 0, c => c
  | k + 1, c => bitN (itN k c)
theorem bitN_lt {c : Nat} (h : c < 4294967296) : bitN c < 4294967296 := by
  unfold bitN
  split
  · exact Nat.xor_lt_two_pow (n := 32) (by omega) (by decide)
  · omega
theorem itN_lt {c : Nat} (h : c < 4294967296) : ∀ k, itN k c < 4294967296
  | 0 => h
  | k + 1 => bitN_lt (itN_lt h k)
def byteN (c : Nat) (b : UInt8) : Nat := itN 8 (c ^^^ b.toNat)
theorem byteN_lt {c : Nat} (h : c < 4294967296) (b : UInt8) : byteN c b < 4294967296 := by
  refine itN_lt (Nat.xor_lt_two_pow (n := 32) h ?_) 8
  have := b.toNat_lt
  omega
def goN (l : List UInt8) : Nat := l.foldl byteN 4294967295
theorem foldl_lt : ∀ (l : List UInt8) (c : Nat), c < 4294967296 → l.foldl byteN c < 4294967296
  | [], c, h => h
  | b :: l, c, h => foldl_lt l _ (byteN_lt h b)
theorem goN_lt (l : List UInt8) : goN l < 4294967296 := foldl_lt l _ (by decide)
theorem goN_snoc (l : List UInt8) (b : UInt8) : goN (l ++ [b]) = byteN (goN l) b := by simp [goN, List.foldl_append]
def sumN (l : List UInt8) : Nat := goN l ^^^ 4294967295
theorem shr1 (c : Nat) : (c : Int).fdiv (2 ^ (min (Int.toNat 1) 32)) = ((c / 2 : Nat) : Int) := by
  rw [show (min (Int.toNat 1) 32) = 1 from rfl, show (2 : Int) ^ 1 = 2 from rfl, Int.fdiv_eq_ediv_of_nonneg _ (by decide)]
  rfl
theorem neg0 : IntKind.u32.wrap (0 - ((0 : Nat) : Int)) = 0 := by decide
theorem neg1 : IntKind.u32.wrap (0 - ((1 : Nat) : Int)) = 4294967295 := by decide
theorem fin32 {c : Nat} (h : c < 4294967296) : IntKind.i64.wrap (xorI .u32 (if IntKind.u32.signed = true then -1 else IntKind.u32.max) (c : Int)) = ((c ^^^ 4294967295 : Nat) : Int) := by
  rw [show (if IntKind.u32.signed = true then (-1 : Int) else IntKind.u32.max) = ((4294967295 : Nat) : Int) from rfl, xor32 (by decide) h, Nat.xor_comm]
  have := Nat.xor_lt_two_pow (n := 32) h (show 4294967295 < 2 ^ 32 by decide)
  exact IntWalk.i64_in _ (by omega)
theorem take_snoc {l : List UInt8} {j : Nat} (h : j < l.length) (d : UInt8) : l.take (j + 1) = l.take j ++ [l.getD j d] := by
  rw [List.take_add_one, List.getD, List.getElem?_eq_getElem h]; simp
theorem byte_i (b : UInt8) : IntKind.u32.wrap (b.toNat : Int) = (b.toNat : Int) := wrap32 (by have := b.toNat_lt; omega)
theorem bits_if (c : Nat) (h : c < 4294967296) : xorI .u32 ((c / 2 : Nat) : Int) (andI .u32 2197175160 (IntKind.u32.wrap (0 - ((c % 2 : Nat) : Int)))) = ((bitN c : Nat) : Int) := by
  have h2 : c / 2 < 4294967296 := by omega
  unfold bitN
  rcases Nat.mod_two_eq_zero_or_one c with e | e
  · rw [e, neg0, show (andI .u32 2197175160 0) = ((0 : Nat) : Int) by decide, xor32 h2 (by decide), if_neg (by decide), Nat.xor_zero]
  · rw [e, neg1, show (andI .u32 2197175160 4294967295) = ((2197175160 : Nat) : Int) by decide, xor32 h2 (by decide), if_pos rfl]
theorem sum_p (l : List UInt8) (hl : l.length ≤ 4611686018427387904) : PCalls Tryz.prog 171 [.sl 1 (bytesAV l) .any] (.int .i64 (sumN l : Nat)) := by
  refine f171.pcalls0 (by simp) (by
    have : allPure (bytesAV l) = true := Av.allPure_map (fun a => rfl) l
    simp [allPure, isPure, capPure, this]) rfl ?_
  unfold c171
  have hil : (bytesAV l).length = l.length := by simp [bytesAV]
  repeat (first
    | refine WpItemsF.nil ?_
    | ((first | apply Wp.seqItemsF | apply Wp.itemsF); (· simp only [go_sem, reduceIte, Nat.reduceEqDiff, Nat.reduceAdd, bx, ax, if_true, if_false, Nat.reduceMul, Nat.reduceLeDiff, hil]; exact rfl))
    | (apply Wp.cond_lit; (· simp only [go_sem, reduceIte, Nat.reduceEqDiff, Nat.reduceAdd, bx, ax, if_true, if_false, Nat.reduceMul, Nat.reduceLeDiff, hil]; exact rfl); (· rfl))
    | refine Wp.skip ?_
    | refine Wp.label ?_
    | refine Wp.block ?_
    | refine Wp.exit ?_
    | refine Wp.seq ?_)
  refine Wp.loopK [6, 7] (by simp only [go_sem, reduceIte, Nat.reduceEqDiff, Nat.reduceAdd, bx, List.map]; exact rfl) (fun j : Nat => [(3, .int .u32 (goN (l.take j) : Nat)), (8, .int .i64 (j : Nat))]) (fun j => j ≤ l.length) (fun j => l.length - j) 0 (Nat.zero_le _) ?_ ?_
  · simp only [AllSub, go_sem, reduceIte, Nat.reduceEqDiff, Nat.reduceAdd, bx]; and_intros <;> first | exact trivial | exact VSub.refl _ | exact VSub.any _ | (refine VSub.int ?_; omega)
  intro j hj
  by_cases hcj : j < l.length
  · have d1 : decide ((j : Int) < (l.length : Int)) = true := decide_eq_true (by omega)
    have h2 : (0 : Int) ≤ (j : Int) := Int.natCast_nonneg _
    have h3 : (j : Int) < (l.length : Int) := by omega
    have e1 : IntKind.i64.wrap ((j : Int) + 1) = ((j + 1 : Nat) : Int) := by rw [IntWalk.i64_in _ (by omega)]; omega
    have hat : ∀ d, (bytesAV l).getD j d = byte (l.getD j 0) := fun d => bytes_getD l j d hcj
    have hsn := take_snoc hcj 0
    generalize hx : l.getD j 0 = x at hat hsn
    have hlt := goN_lt (l.take j)
    have hx8 : x.toNat < 4294967296 := by have := x.toNat_lt; omega
    have hxor := xor32 hlt hx8
    have hc0 : goN (l.take j) ^^^ x.toNat < 4294967296 := Nat.xor_lt_two_pow (n := 32) hlt hx8
    have hwx := byte_i x
    repeat (first
      | refine WpItemsF.nil ?_
      | ((first | apply Wp.seqItemsF | apply Wp.itemsF); (· simp only [go_sem, reduceIte, Nat.reduceEqDiff, Nat.reduceAdd, bx, ax, if_true, if_false, Nat.reduceMul, Nat.reduceLeDiff, hil, d1, h2, h3, Int.toNat_natCast, and_self, hat, byte, hxor, hwx]; exact rfl))
      | (apply Wp.cond_lit; (· simp only [go_sem, reduceIte, Nat.reduceEqDiff, Nat.reduceAdd, bx, ax, if_true, if_false, Nat.reduceMul, Nat.reduceLeDiff, hil, d1, h2, h3, Int.toNat_natCast, and_self, hat, byte, hxor, hwx]; exact rfl); (· rfl))
      | refine Wp.skip ?_
      | refine Wp.label ?_
      | refine Wp.block ?_
      | refine Wp.exit ?_
      | refine Wp.seq ?_)
    refine Wp.loopK [6, 7, 8] (by simp only [go_sem, reduceIte, Nat.reduceEqDiff, Nat.reduceAdd, bx, List.map]; exact rfl) (fun k : Nat => [(3, .int .u32 (itN k (goN (l.take j) ^^^ x.toNat) : Nat)), (16, .int .i64 (k : Nat))]) (fun k => k ≤ 8) (fun k => 8 - k) 0 (Nat.zero_le _) ?_ ?_
    · simp only [AllSub, go_sem, reduceIte, Nat.reduceEqDiff, Nat.reduceAdd, bx]; and_intros <;> first | exact trivial | exact VSub.refl _ | exact VSub.any _ | (refine VSub.int ?_; omega)
    intro k hk
    by_cases hk8 : k < 8
    · have d2 : decide ((k : Int) < 8) = true := decide_eq_true (by omega)
      have e2 : IntKind.i64.wrap ((k : Int) + 1) = ((k + 1 : Nat) : Int) := by rw [IntWalk.i64_in _ (by omega)]; omega
      have hit := itN_lt hc0 k
      have hb := bits_if _ hit
      have ha := and1 hit
      have hs1 := shr1 (itN k (goN (l.take j) ^^^ x.toNat))
      repeat (first
        | refine WpItemsF.nil ?_
        | ((first | apply Wp.seqItemsF | apply Wp.itemsF); (· simp only [go_sem, reduceIte, Nat.reduceEqDiff, Nat.reduceAdd, bx, ax, if_true, if_false, Nat.reduceMul, Nat.reduceLeDiff, d2, e2, hs1, ha, hb]; exact rfl))
        | (apply Wp.cond_lit; (· simp only [go_sem, reduceIte, Nat.reduceEqDiff, Nat.reduceAdd, bx, ax, if_true, if_false, Nat.reduceMul, Nat.reduceLeDiff, d2, e2, hs1, ha, hb]; exact rfl); (· rfl))
        | refine Wp.skip ?_
        | refine Wp.label ?_
        | refine Wp.block ?_
        | refine Wp.exit ?_
        | refine Wp.seq ?_)
      refine ⟨k + 1, by omega, by omega, ?_⟩
      refine StLe.tm (by simp only [AllSub, go_sem, reduceIte, Nat.reduceEqDiff, Nat.reduceAdd, bx]; and_intros <;> first | exact trivial | exact VSub.refl _ | exact VSub.any _ | (refine VSub.int ?_; omega))
    · obtain rfl : k = 8 := by omega
      repeat (first
        | refine WpItemsF.nil ?_
        | ((first | apply Wp.seqItemsF | apply Wp.itemsF); (· simp only [go_sem, reduceIte, Nat.reduceEqDiff, Nat.reduceAdd, bx, ax, if_true, if_false, Nat.reduceMul, Nat.reduceLeDiff, e1]; exact rfl))
        | (apply Wp.cond_lit; (· simp only [go_sem, reduceIte, Nat.reduceEqDiff, Nat.reduceAdd, bx, ax, if_true, if_false, Nat.reduceMul, Nat.reduceLeDiff, e1]; exact rfl); (· rfl))
        | refine Wp.skip ?_
        | refine Wp.label ?_
        | refine Wp.block ?_
        | refine Wp.exit ?_
        | refine Wp.seq ?_)
      refine ⟨j + 1, by omega, by omega, ?_⟩
      refine StLe.tm (by simp only [AllSub, go_sem, reduceIte, Nat.reduceEqDiff, Nat.reduceAdd, bx]; and_intros <;> first | exact trivial | exact VSub.refl _ | exact VSub.any _ | exact VSub.of_eq (by rw [hsn, goN_snoc]; rfl) | (refine VSub.int ?_; omega))
  · obtain rfl : j = l.length := by omega
    have d1 : decide ((l.length : Int) < (l.length : Int)) = false := decide_eq_false (by omega)
    repeat (first
      | refine WpItemsF.nil ?_
      | ((first | apply Wp.seqItemsF | apply Wp.itemsF); (· simp only [go_sem, reduceIte, Nat.reduceEqDiff, Nat.reduceAdd, bx, ax, if_true, if_false, Nat.reduceMul, Nat.reduceLeDiff, d1]; exact rfl))
      | (apply Wp.cond_lit; (· simp only [go_sem, reduceIte, Nat.reduceEqDiff, Nat.reduceAdd, bx, ax, if_true, if_false, Nat.reduceMul, Nat.reduceLeDiff, d1]; exact rfl); (· rfl))
      | refine Wp.skip ?_
      | refine Wp.label ?_
      | refine Wp.block ?_
      | refine Wp.exit ?_
      | refine Wp.seq ?_)
    refine Wp.ret ⟨trivial, _, rfl, ?_⟩
    simp only [go_sem, reduceIte, Nat.reduceEqDiff, Nat.reduceAdd, bx]
    exact VSub.of_eq (by rw [List.take_length, fin32 (goN_lt l)]; rfl)
end Go.Proofs.YtehhdhadmapplaaGreat.Arch
end
section
set_option linter.unusedSimpArgs false
set_option linter.unusedVariables false
set_option maxRecDepth 100000
namespace Go.Proofs.YtehhdhadmapplaaGreat.Tree
open Go Go.Av Go.Proofs Go.Proofs.YtehhdhadmapplaaGreat.C
theorem place_a {h : H} {id : Nat} {a b c d e : AV} {fr n q : Nat} (ho : h.objs id = some (.cells [a, .int .i64 fr, .int .i64 n, b, c, d, e])) (hn : 0 < n) (hs : fr + q % n ≤ 9223372036854775807) : ACalls Tryz.prog 180 [.ptr id 0, .int .i64 q] h (.int .i64 (fr + q % n : Nat)) h := by
  obtain ⟨r, h', hc, e1, e2⟩ := f180.acalls (args := [.ptr id 0, .int .i64 q]) (h := h) (Q := fun r h' => r = .int .i64 (fr + q % n : Nat) ∧ h' = h) (by simp) (by
    unfold c180
    have h1 : ¬ ((n : Int) = 0) := by omega
    have h2 : (q : Int).tmod (n : Int) = ((q % n : Nat) : Int) := (Int.ofNat_tmod q n).symm
    have h3 : IntKind.i64.wrap ((fr : Int) + ((q % n : Nat) : Int)) = ((fr + q % n : Nat) : Int) := by rw [IntWalk.i64_in _ (by omega)]; omega
    repeat (first
      | ((first | apply Wp.seqItemsR | apply Wp.itemsR); (· simp only [go_sem, reduceIte, Nat.reduceEqDiff, Nat.reduceAdd, bx, ax, if_true, if_false, Nat.reduceMul, Nat.reduceLeDiff, ho, h1, h2, h3]; exact rfl))
      | (refine WpItems.nil ⟨?_, ?_⟩; (· first | trivial | simp [pairsQ, pairsOk, apart, ent0]))
      | (apply Wp.cond_lit; (· simp only [go_sem, reduceIte, Nat.reduceEqDiff, Nat.reduceAdd, bx, ax, if_true, if_false, Nat.reduceMul, Nat.reduceLeDiff, ho, h1, h2, h3]; exact rfl); (· rfl))
      | refine Wp.skip ?_
      | refine Wp.label ?_
      | refine Wp.block ?_
      | refine Wp.exit ?_
      | refine Wp.seq ?_)
    refine Wp.ret ⟨trivial, _, ?_, rfl, rfl⟩
    simp only [go_sem]
    exact rfl)
  subst e1 e2
  exact hc
theorem sg_cells {σ : Sg} {h : HZ} {id : Nat} {cs : List AV} (ho : h.at id = some (.cells cs)) : (h.hp.sg σ).objs id = some (.cells cs) := by
  change (h.at id).map (sgO (σ id)) = _
  rw [ho]; rfl
theorem only_at {id n m : Nat} {T : List Nat} {ob : Av.Obj} : (H.only (upd none' id (some ob)) T n m).objs id = some ob := by simp [H.only, upd]
noncomputable def placeZ : PrimsZ := fun f args h => match Nat.beq f 180 with
  | true => match args with
    | [.ptr id 0, .int .i64 (.ofNat q)] => (match h.at id with
      | some (.cells [a, .int .i64 (.ofNat fr), .int .i64 (.ofNat n), b, c, d, e]) => (match Nat.blt 0 n && Nat.ble (fr + q % n) 9223372036854775807 with
        | true => some (.int .i64 (Int.ofNat (fr + q % n)), h, ⟨[id], [], []⟩)
        | false => none)
      | _ => none)
    | _ => none
  | false => none
theorem placeZ_ok : PrimsOkZ Tryz.prog placeZ := by
  intro σ f args h r h' en hx
  unfold placeZ at hx
  split at hx
  · rename_i e
    have e := Nat.eq_of_beq_eq_true e
    subst e
    refine ⟨?_, ⟨_, Tryz.func180, of_decide_eq_true (by kernel_rfl), of_decide_eq_true (by kernel_rfl)⟩⟩
    split at hx
    · split at hx
      · rename_i ho
        split at hx
        · rename_i hc
          simp only [Bool.and_eq_true] at hc
          cases hx
          exact ⟨_, _, touch_read _ (sg_cells ho), place_a only_at (Nat.le_of_ble_eq_true hc.1) (Nat.le_of_ble_eq_true hc.2)⟩
        · cases hx
      · cases hx
    · cases hx
  · cases hx
end Go.Proofs.YtehhdhadmapplaaGreat.Tree
end
section
set_option linter.unusedSimpArgs false
set_option linter.unusedVariables false
set_option maxRecDepth 100000
namespace Go.Proofs.YtehhdhadmapplaaGreat.Tree
open Go Go.Av Go.Proofs Go.Proofs.YtehhdhadmapplaaGreat.C Go.Proofs.YtehhdhadmapplaaGreat.Arch
noncomputable def sumK (l : List AV) : Nat → Nat → Option (Nat × Nat) :=
  List.rec (motive := fun _ => Nat → Nat → Option (Nat × Nat)) (fun n c => some (n, c)) (fun x _ ih n c => match x with
    | .int .u8 (.ofNat k) => (match Nat.ble k 255 && Nat.beq c c with
      | true => ih (Nat.succ n) (itN 8 (c ^^^ k))
      | false => none)
    | _ => none) l
theorem sumK_ok : ∀ {l : List AV} {n c : Nat} {r : Nat × Nat}, sumK l n c = some r → ∃ bs : List UInt8, l = bytesAV bs ∧ r = (n + bs.length, bs.foldl byteN c)
  | [], n, c, r, h => by
    simp only [sumK, Option.some.injEq] at h
    exact ⟨[], rfl, by simp [← h]⟩
  | x :: l, n, c, r, h => by
    change (match x with
    | .int .u8 (.ofNat k) => (match Nat.ble k 255 && Nat.beq c c with
      | true => sumK l (Nat.succ n) (itN 8 (c ^^^ k))
      | false => none)
    | _ => none) = _ at h
    split at h
    · rename_i k
      split at h
      · rename_i hk
        simp only [Bool.and_eq_true] at hk
        have hk := Nat.le_of_ble_eq_true hk.1
        have hx : AV.int .u8 (Int.ofNat k) = byte (UInt8.ofNat k) := by simp [byte]; omega
        have hk2 : (UInt8.ofNat k).toNat = k := by simp; omega
        obtain ⟨bs, rfl, hr⟩ := sumK_ok h
        refine ⟨UInt8.ofNat k :: bs, by simp [bytesAV, ← hx], ?_⟩
        rw [hr]
        simp only [List.length_cons, List.foldl_cons, byteN, hk2, Prod.mk.injEq, and_true]
        omega
      · cases h
    · cases h
noncomputable def storePP (f : Nat) (args : List AV) : Option AV :=
  match Nat.beq f 171 with
  | true => (match args with
    | [.sl s xs _] => (match Nat.beq s 1, sumK xs 0 4294967295 with
      | true, some (n, c) => (match Nat.ble n 4611686018427387904 with
        | true => some (.int .i64 (Int.ofNat (c ^^^ 4294967295)))
        | false => none)
      | _, _ => none)
    | _ => none)
  | false => match Nat.beq f 185 with
    | true => cloneE [(185, 3)] f args
    | false => treePP f args
theorem cloneRec_p : PCalls Tryz.prog 185 [.sl 3 [] .any] (.sl 3 [] (.exact 0)) := cloneE_gen (sz := 3) (bytes := 32) f185
theorem storePP_ok {f : Nat} {args : List AV} {r : AV} (h : storePP f args = some r) : (∃ vals, VSubs args vals ∧ PCalls Tryz.prog f vals r) ∧ NamedF Tryz.prog f := by
  unfold storePP at h
  split at h
  · rename_i e
    have e := Nat.eq_of_beq_eq_true e
    subst e
    refine ⟨?_, ⟨_, Tryz.func171, of_decide_eq_true (by kernel_rfl), of_decide_eq_true (by kernel_rfl)⟩⟩
    split at h
    · split at h
      · rename_i n c hs hn
        split at h
        · rename_i hl
          cases h
          have hs := Nat.eq_of_beq_eq_true hs
          subst hs
          obtain ⟨bs, rfl, hr⟩ := sumK_ok hn
          simp only [Nat.zero_add, Prod.mk.injEq] at hr
          obtain ⟨rfl, rfl⟩ := hr
          exact ⟨_, VSubs.cons VSub.cap VSubs.nil, sum_p bs (Nat.le_of_ble_eq_true hl)⟩
        · cases h
      · cases h
    · cases h
  split at h
  · rename_i e
    have e := Nat.eq_of_beq_eq_true e
    subst e
    refine ⟨cloneE_ok h fun p hp => ?_, ⟨_, Tryz.func185, of_decide_eq_true (by kernel_rfl), of_decide_eq_true (by kernel_rfl)⟩⟩
    simp only [List.mem_singleton] at hp
    subst hp
    exact cloneRec_p
  · exact treePP_ok h
theorem storeP_ok : PrimsOkZ Tryz.prog (orPrimsZ placeZ (purePrimZ storePP)) := orPrimsZ_ok placeZ_ok (purePrimZ_ok fun f args r h => storePP_ok h)
end Go.Proofs.YtehhdhadmapplaaGreat.Tree
end
section
set_option linter.unusedVariables false
set_option linter.unusedSimpArgs false
namespace Go.Av
open Go.ChangeShapes Go.WideShapes Go.ChangeAt Go.RowKit
section
variable {H : Type} {enc : TypeId × Value → H} {P : Program} {w : World}
def G0 : Ghost := ⟨fun _ => False, fun _ => 0, fun _ => False, fun _ => none, fun _ => False, fun _ => none⟩
def wrapE (P : Program) (e : TypeId) (cs : List AV) : AV := if isAggT P e then .agg cs else cs.headD .any
/- how many values and letters stand in a value -/
mutual
def bulkA : AV → Nat
  | .int _ _ => 1
  | .bool _ => 1
  | .str l => l.length + 1
  | .sl _ xs _ => bulkAs xs + 1
  | .agg cs => bulkAs cs
  | _ => 0
def bulkAs : List AV → Nat
  | [] => 0
  | x :: xs => bulkA x + bulkAs xs
end
theorem bulkAs_append : ∀ l m : List AV, bulkAs (l ++ m) = bulkAs l + bulkAs m
  | [], m => by simp [bulkAs]
  | x :: l, m => by simp [bulkAs, bulkAs_append l m]; omega
theorem bulk_wrap (P : Program) (e : TypeId) (cs : List AV) : bulkA (wrapE P e cs) ≤ bulkAs cs := by
  unfold wrapE
  split
  · simp [bulkA]
  · cases cs with
    | nil => simp [bulkA, bulkAs]
    | cons x cs => simp [bulkAs]
structure Bulk (B : DataW H → Nat) (BL : List (DataW H) → Nat) : Prop where
  str : ∀ l, B (.lit (.string l)) = l.length + 1
  int : ∀ k n, B (.lit (.int k n)) = 1
  bool : ∀ b, B (.lit (.bool b)) = 1
  nil : B .nil = 1
  slice : ∀ a b, B (.slice a b) = BL a + BL b + 1
  agg : ∀ a, B (.agg a) = BL a + 1
  nils : BL [] = 0
  cons : ∀ d l, BL (d :: l) = B d + BL l
theorem Bulk.snoc {B : DataW H → Nat} {BL : List (DataW H) → Nat} (hB : Bulk B BL) : ∀ (l : List (DataW H)) (d : DataW H), BL (l ++ [d]) = BL l + B d
  | [], d => by simp [hB.cons, hB.nils]
  | x :: l, d => by simp [hB.cons, Bulk.snoc hB l d]; omega
theorem Bulk.take {B : DataW H → Nat} {BL : List (DataW H) → Nat} (hB : Bulk B BL) : ∀ (l : List (DataW H)) (m : Nat), BL (l.take m) ≤ BL l
  | [], m => by simp
  | x :: l, 0 => by simp [hB.nils]
  | x :: l, m + 1 => by simp [hB.cons, Bulk.take hB l m]
theorem weights_mem_all {P : Program} {e : TypeId} {n : Nat} : ∀ {l : List (DataW H)} {d : DataW H}, d ∈ l → n ∈ d.weights P e → n ∈ DataW.weightsAll P e l
  | x :: l, d, h, hn => by
    simp only [DataW.weightsAll, List.mem_append]
    rcases List.mem_cons.1 h with rfl | h
    · exact .inl hn
    · exact .inr (weights_mem_all h hn)
inductive All2 {α β : Type} (R : α → β → Prop) : List α → List β → Prop
  | nil : All2 R [] []
  | cons {a b l m} : R a b → All2 R l m → All2 R (a :: l) (b :: m)
def Fits (P : Program) : Nat → TypeId → List AV → Prop
  | 0, _, _ => False
  | k + 1, t, xs => match P.underlying t with
    | some .bool => ∃ b, xs = [.bool b]
    | some (.int q) => ∃ n, xs = [.int q n] ∧ (Lit.int q n).wf = true
    | some .string => ∃ l, xs = [.str l] ∧ l.length ≤ reachBytes
    | some (.slice e) => ∃ ys, xs = [.sl (P.cellsOf e) ys .any] ∧ ys.length * P.bytesOf e ≤ reachBytes ∧ ∀ y ∈ ys, ∃ cs, Fits P k e cs ∧ y = wrapE P e cs
    | some (.struct fs) => ∃ xss, xs = xss.flatten ∧ All2 (fun (f : Field) cs => Fits P k f.type cs) fs.toList xss
    | _ => False
def plainT (P : Program) : Nat → TypeId → Bool
  | 0, _ => false
  | k + 1, t => match P.underlying t with
    | some .bool | some (.int _) | some .string => true
    | some (.slice e) => decide (e < P.types.size) && decide (0 < P.cellsOf e) && (isAggT P e || decide (P.cellsOf e = 1)) && plainT P k e
    | some (.struct fs) => decide (t < P.types.size) && fs.all fun f => plainT P k f.type
    | _ => false
theorem cell_spot {a : Addr} {v : Value} (h : w.cell? a = some v) : a.spot = none := by
  unfold World.cell? at h
  split at h
  · split at h
    · cases h
    · rename_i hs; cases hh : a.spot with
      | none => rfl
      | some x => simp [hh] at hs
  · cases h
theorem one_of_bool (b : Bool) : One (.bool b) := ⟨fun _ => by simp, fun _ => by simp⟩
theorem one_of_int (k : IntKind) (n : Int) : One (.int k n) := ⟨fun _ => by simp, fun _ => by simp⟩
theorem one_of_str (s : ByteArray) : One (.string s) := ⟨fun _ => by simp, fun _ => by simp⟩
theorem one_of_sl (a : Option Addr) (l c : Nat) : One (.slice a l c) := ⟨fun _ => by simp, fun _ => by simp⟩
theorem fields_split {R : Field → List AV → Prop} {G : Ghost} {B : DataW H → Nat} {BL : List (DataW H) → Nat} (hB : Bulk B BL) (full : List Value) (rd : Field → List Value → DataW H → Prop)
    (hrd : ∀ f cs d, rd f cs d → ∃ xs, R f xs ∧ VRels G w xs cs ∧ (∀ v ∈ cs, One v) ∧ bulkAs xs ≤ B d) : ∀ (fs : List Field) (ds : List (DataW H)) (off : Nat), ds.length = fs.length →
    (∀ (j : Nat) f, fs[j]? = some f → f.offset = off + ((fs.take j).map fun f => P.cellsOf f.type).sum) → full.length = off + (fs.map fun f => P.cellsOf f.type).sum →
    (∀ (j : Nat) f d, fs[j]? = some f → ds[j]? = some d → rd f ((full.drop f.offset).take (P.cellsOf f.type)) d) → ∃ xss, All2 R fs xss ∧ VRels G w xss.flatten (full.drop off) ∧ (∀ v ∈ full.drop off, One v) ∧ bulkAs xss.flatten ≤ BL ds
  | [], ds, off, hl, h1, h2, h3 => by
    have e : full.drop off = [] := List.drop_eq_nil_of_le (by simp at h2; omega)
    exact ⟨[], .nil, by rw [e]; exact .nil, by rw [e]; simp, by simp [bulkAs]⟩
  | f :: fs, [], off, hl, h1, h2, h3 => by cases hl
  | f :: fs, d :: ds, off, hl, h1, h2, h3 => by
    have o0 : f.offset = off := by simpa using h1 0 f rfl
    have hf := h3 0 f d rfl rfl
    rw [o0] at hf
    obtain ⟨xs, r1, r2, r3, r4⟩ := hrd f _ d hf
    obtain ⟨xss, q1, q2, q3, q4⟩ := fields_split hB full rd hrd fs ds (off + P.cellsOf f.type) (by simpa using hl) (fun j g hj => by
      have := h1 (j + 1) g (by simpa using hj)
      simp only [List.take_succ_cons, List.map_cons, List.sum_cons] at this; omega) (by simp only [List.map_cons, List.sum_cons] at h2; omega) (fun j g d' hg hd => h3 (j + 1) g d' (by simpa using hg) (by simpa using hd))
    have e : full.drop off = (full.drop off).take (P.cellsOf f.type) ++ full.drop (off + P.cellsOf f.type) := by
      rw [← List.drop_drop, List.take_append_drop]
    refine ⟨xs :: xss, .cons r1 q1, ?_, ?_, ?_⟩
    · rw [e, List.flatten_cons]; exact r2.append q2
    · rw [e]; intro v hv
      rcases List.mem_append.1 hv with hv | hv
      · exact r3 v hv
      · exact q3 v hv
    · rw [List.flatten_cons, bulkAs_append, hB.cons]; omega
theorem wrapE_rel {e : TypeId} {cs : List AV} {vs : List Value} (hs : vs.length = P.cellsOf e) (hr : VRels G0 w cs vs) (ho : ∀ v ∈ vs, One v) (hc : isAggT P e = false → P.cellsOf e = 1) :
    ∃ v : Value, v.cells.toList = vs ∧ VRel G0 w (wrapE P e cs) v := by
  unfold wrapE
  cases ha : isAggT P e with
  | true => exact ⟨.agg vs.toArray, by simp [Value.cells], by simp only [if_true, VRel]; exact ⟨vs, rfl, hr⟩⟩
  | false =>
    rw [hc ha] at hs
    obtain ⟨v, rfl⟩ := List.length_eq_one_iff.1 hs
    have hl := hr.length
    obtain ⟨x, rfl⟩ := List.length_eq_one_iff.1 (show cs.length = 1 by simpa using hl.symm)
    simp only [VRels] at hr
    obtain ⟨v', us, e1, hv, e2⟩ := hr
    cases e1
    refine ⟨v, ?_, by simpa using hv⟩
    have := ho v (by simp)
    cases v <;> first | rfl | exact absurd rfl (this.1 _) | exact absurd rfl (this.2 _)
theorem Fits.slice {k : Nat} {t e : TypeId} {ys : List AV} (ht : P.underlying t = some (.slice e)) (h1 : ys.length * P.bytesOf e ≤ reachBytes) (h2 : ∀ y ∈ ys, ∃ cs, Fits P k e cs ∧ y = wrapE P e cs) : Fits P (k + 1) t [.sl (P.cellsOf e) ys .any] := by
  unfold Fits; rw [ht]; exact ⟨ys, rfl, h1, h2⟩
theorem trod_fits (hl : laidOutB P = true) {B : DataW H → Nat} {BL : List (DataW H) → Nat} (hB : Bulk B BL) : ∀ (k : Nat) (t : TypeId), plainT P k t = true → ∀ (fuel : Nat) (cs : List Value) (x : DataW H × List MemPlace),
    DataW.trod enc P w 0 (fun _ => true) true fuel t cs = some x → (∀ n ∈ x.1.weights P t, n ≤ reachBytes) → ∃ xs, Fits P k t xs ∧ VRels G0 w xs cs ∧ (∀ v ∈ cs, One v) ∧ bulkAs xs ≤ B x.1 := by
  intro k
  induction k with
  | zero => intro t h; cases h
  | succ k ih =>
    intro t hp fuel cs x hx hwt
    simp only [plainT] at hp
    split at hp
    · rename_i ht
      obtain ⟨b, rfl, rfl⟩ := DataW.trod_bool ht hx
      exact ⟨[.bool b], by simp only [Fits, ht]; exact ⟨b, rfl⟩, .cons (by simp [VRel]) .nil, by simp [one_of_bool], by simp [hB.bool, bulkAs, bulkA]⟩
    · rename_i q ht
      obtain ⟨n, rfl, rfl, hw⟩ := DataW.trod_int ht hx
      exact ⟨[.int q n], by simp only [Fits, ht]; exact ⟨n, rfl, hw⟩, .cons (by simp [VRel]) .nil, by simp [one_of_int], by simp [hB.int, bulkAs, bulkA]⟩
    · rename_i ht
      obtain ⟨s, rfl, rfl, -⟩ := DataW.trod_string ht hx
      refine ⟨[.str s.data.toList], by simp only [Fits, ht]; exact ⟨_, rfl, hwt _ (by simp [DataW.weights])⟩, .cons (by simp [VRel]) .nil, by simp [one_of_str], by simp [hB.str, bulkAs, bulkA]⟩
    · rename_i e ht
      simp only [Bool.and_eq_true, decide_eq_true_eq] at hp
      obtain ⟨⟨⟨-, hsz⟩, hag⟩, hpe⟩ := hp
      rcases DataW.trod_slice ht hx with ⟨rfl, rfl⟩ | ⟨a, len, cap, elems, rest, n, rfl, rfl, rfl, hb, hlc, hcm, hel, hread, hrest, -⟩
      · refine ⟨[.sl (P.cellsOf e) [] .any], Fits.slice ht (by simp) (fun y hy => by cases hy), .cons ?_ .nil, by simp [one_of_sl], by simp [hB.nil, bulkAs, bulkA]⟩
        unfold VRel; exact .inl ⟨rfl, ⟨none, rfl⟩, trivial⟩
      · have hone : isAggT P e = false → P.cellsOf e = 1 := by
          intro ha
          simpa [ha] using hag
        -- the cells of each element
        have each : ∀ i, i < len → ∃ vs xs, w.cells? 0 (a.add (i * P.cellsOf e)) (P.cellsOf e) = some vs ∧ Fits P k e xs ∧ VRels G0 w xs vs ∧ (∀ v ∈ vs, One v) ∧ ∀ y, elems[i]? = some y → bulkAs xs ≤ B y.1 := by
          intro i hi
          have h := hread i hi
          rw [List.getElem?_eq_getElem (by omega)] at h
          obtain ⟨vs, h1, h2⟩ := Option.bind_eq_some_iff.1 h
          obtain ⟨xs, h3, h4, h5, h6⟩ := ih e hpe n vs _ h2 (fun m hm => hwt m (by
            simp only [DataW.weights, ht, List.mem_cons, List.mem_append]
            exact .inr (.inl (weights_mem_all (List.mem_map.2 ⟨_, List.getElem_mem (by omega), rfl⟩) hm))))
          exact ⟨vs, xs, h1, h3, h4, h5, fun y hy => by rw [List.getElem?_eq_getElem (by omega)] at hy; cases hy; exact h6⟩
        have build : ∀ m, m ≤ len → ∃ ys vs, ys.length = m ∧ vs.length = m * P.cellsOf e ∧ (∀ y ∈ ys, ∃ cs, Fits P k e cs ∧ y = wrapE P e cs) ∧ VElems G0 w (P.cellsOf e) ys vs ∧ (∀ (i : Nat) v, vs[i]? = some v → w.cell? (a.add i) = some v ∧ One v) ∧ bulkAs ys ≤ BL ((elems.map (·.1)).take m) := by
          intro m
          induction m with
          | zero => intro _; exact ⟨[], [], rfl, by simp, by simp, by simp [VElems], by simp, by simp [bulkAs]⟩
          | succ m ihm =>
            intro hm
            obtain ⟨ys, vs, k1, k2, k3, k4, k5, k6⟩ := ihm (by omega)
            obtain ⟨us, xs, e1, e2, e3, e4, eb⟩ := each m (by omega)
            obtain ⟨-, e5, e6⟩ := World.cells?_some e1
            obtain ⟨v, hv1, hv2⟩ := wrapE_rel e5 e3 e4 hone
            refine ⟨ys ++ [wrapE P e xs], vs ++ us, by simp [k1], by simp [k2, e5, Nat.add_mul], ?_, ?_, ?_, ?_⟩
            · intro y hy
              rcases List.mem_append.1 hy with hy | hy
              · exact k3 y hy
              · simp at hy; exact ⟨xs, e2, hy⟩
            · refine k4.append ?_
              simp only [VElems]
              exact ⟨v, [], by simp [hv1], by rw [← Array.length_toList, hv1, e5], hv2, rfl⟩
            · intro i z hz
              rcases Nat.lt_or_ge i vs.length with hi | hi
              · rw [List.getElem?_append_left hi] at hz; exact k5 i z hz
              · rw [List.getElem?_append_right hi] at hz
                have hlt : i - vs.length < us.length := (List.getElem?_eq_some_iff.1 hz).1
                have := e6 (i - vs.length) (by omega)
                rw [hz] at this
                have ea : (a.add (m * P.cellsOf e)).add (i - vs.length) = a.add i := by
                  rw [← k2]
                  unfold Addr.add
                  by_cases h0 : vs.length = 0
                  · simp [h0]
                  · by_cases h1 : i - vs.length = 0
                    · have : i = vs.length := by omega
                      subst this; simp
                    · have : i ≠ 0 := by omega
                      simp [h0, h1, this]; omega
                rw [ea] at this
                exact ⟨this, e4 z (List.mem_of_getElem? hz)⟩
            · have hlt : m < (elems.map (·.1)).length := by simp; omega
              rw [List.take_succ_eq_append_getElem hlt, hB.snoc, bulkAs_append]
              have h1 := eb _ (List.getElem?_eq_getElem (by omega))
              have h2 := bulk_wrap P e xs
              simp only [List.getElem_map, bulkAs]
              omega
        obtain ⟨ys, vs, k1, k2, k3, k4, k5, k6⟩ := build len (Nat.le_refl _)
        refine ⟨[.sl (P.cellsOf e) ys .any], Fits.slice ht ?_ k3, .cons ?_ .nil, by simp [one_of_sl], ?_⟩
        · have := hwt ((elems.length + rest.length) * P.bytesOf e) (by simp [DataW.weights, ht])
          exact Nat.le_trans (Nat.mul_le_mul_right _ (by omega)) this
        rotate_left
        · have := hB.take (elems.map (·.1)) len
          simp only [hB.slice, bulkAs, bulkA]
          omega
        unfold VRel
        by_cases hcap : cap = 0
        · have : ys = [] := List.length_eq_zero_iff.1 (by omega)
          exact .inl ⟨this, ⟨some a, by simp; omega⟩, by simp [CapNil]⟩
        · have hspot : a.spot = none := by
            by_cases hl0 : len = 0
            · obtain ⟨hr1, hr2⟩ := hrest rfl
              have h := hr2 0 (by omega)
              rw [List.getElem?_eq_getElem (by omega)] at h
              obtain ⟨vs', h1, h2⟩ := Option.bind_eq_some_iff.1 h
              obtain ⟨-, g1, g2⟩ := World.cells?_some h1
              have := g2 0 hsz
              rw [List.getElem?_eq_getElem (by omega)] at this
              have := cell_spot this
              simpa [hl0, Addr.add] using this
            · obtain ⟨us, xs, e1, e2, e3, e4, -⟩ := each 0 (by omega)
              obtain ⟨-, g1, g2⟩ := World.cells?_some e1
              have := g2 0 hsz
              rw [List.getElem?_eq_getElem (by omega)] at this
              have := cell_spot this
              simpa [Addr.add] using this
          obtain ⟨B, off, sp⟩ := a
          simp only at hspot
          subst hspot
          refine .inr ⟨B, off, cap, vs, by simp [k1], by omega, by rw [k2, k1], k4, fun i v hv => ?_, by simp [CapOk]⟩
          obtain ⟨c1, c2⟩ := k5 i v hv
          rw [add_plain] at c1
          exact ⟨c1, c2, by simp [G0], by simp [G0]⟩
    · rename_i fs ht
      simp only [Bool.and_eq_true, decide_eq_true_eq] at hp
      obtain ⟨hlt, hp⟩ := hp
      rw [Array.all_eq_true_iff_forall_mem] at hp
      obtain ⟨xs, n, rfl, rfl, hlen, hxl, hread⟩ := DataW.trod_struct ht hx
      obtain ⟨-, hsum, hoff⟩ := kid_struct hl hlt ht
      obtain ⟨xss, q1, q2, q3, q4⟩ := fields_split (P := P) (R := fun (f : Field) cs => Fits P k f.type cs) (G := G0) (w := w) hB cs
        (fun f us d => plainT P k f.type = true ∧ ∃ y, DataW.trod enc P w 0 (fun _ => true) true n f.type us = some y ∧ y.1 = d ∧ ∀ m ∈ d.weights P f.type, m ≤ reachBytes)
        (fun f us d ⟨h1, y, h2, h3, h4⟩ => by subst h3; exact ih f.type h1 n us y h2 h4) fs.toList (xs.map (·.1)) 0 (by simp [hxl]) (fun j f hj => by rw [hoff j f hj]; omega) (by rw [hlen, hsum]; omega)
        (fun i f d hi hd => by
          refine ⟨hp f (by have := List.mem_of_getElem? hi; simpa using this), ?_⟩
          have h := hread i f (by simpa using hi)
          rw [List.getElem?_map] at hd
          cases hxi : xs[i]? with
          | none => rw [hxi] at hd; cases hd
          | some y =>
            rw [hxi] at h hd
            refine ⟨y, h, by simpa using hd, fun m hm => hwt m ?_⟩
            simp only [DataW.weights, ht]
            exact DataW.weights_mem_each (j := i) (t := f.type) (d := d) (by rw [List.getElem?_map, hi]; rfl) (by rw [List.getElem?_map, hxi]; exact hd) m hm)
      refine ⟨xss.flatten, by simp only [Fits, ht]; exact ⟨xss, rfl, q1⟩, by simpa using q2, by simpa using q3, ?_⟩
      rw [hB.agg]; omega
    · cases hp
def ArgFits (P : Program) (k : Nat) (t : TypeId) (a : AV) : Prop := ∃ cs, Fits P k t cs ∧ a = wrapE P t cs
theorem arg_rel {k : Nat} {t : TypeId} {v : Value} {xs : List AV} {base : Nat} (hp : plainT P k t = true) (hok : Value.okWide P w .any base t v) (hr : VRels G0 w xs v.cells.toList) (ho : ∀ u ∈ v.cells.toList, One u) : VRel G0 w (wrapE P t xs) v := by
  unfold wrapE
  cases ha : isAggT P t with
  | true =>
    have : ∃ cs, v = .agg cs := by
      unfold isAggT at ha
      unfold Value.okWide at hok
      split at ha
      · rename_i h; rw [h] at hok; obtain ⟨cs, h, -⟩ := hok; exact ⟨cs, h⟩
      · rename_i h; rw [h] at hok; obtain ⟨cs, h, -⟩ := hok; exact ⟨cs, h⟩
      · cases ha
    obtain ⟨cs, rfl⟩ := this
    simp only [if_true, VRel]
    exact ⟨cs.toList, by simp, by simpa [Value.cells] using hr⟩
  | false =>
    have hv : v.cells = #[v] := by
      cases v <;> try rfl
      exfalso
      cases k with
      | zero => cases hp
      | succ k =>
        unfold plainT at hp
        unfold isAggT at ha
        unfold Value.okWide Cell.okWide Cell.ok at hok
        split at hp
        all_goals (try (rename_i h; rw [h] at hok ha; simp at hok ha; done))
        all_goals (try (rename_i h; rw [h] at hok ha; simp at hok; done))
        all_goals simp_all
    rw [hv] at hr
    have hl := hr.length
    obtain ⟨x, rfl⟩ := List.length_eq_one_iff.1 (show xs.length = 1 by simpa using hl.symm)
    simp only [VRels] at hr
    obtain ⟨v', us, e1, hx, e2⟩ := hr
    cases e1
    simpa using hx
theorem args_fit (hl : laidOutB P = true) {B : DataW H → Nat} {BL : List (DataW H) → Nat} (hB : Bulk B BL) {k : Nat} {base : Nat} : ∀ {ts us : List TypeId} {vs : List Value} {ds : List (DataW H)} {ps : List MemPlace}, (∀ t ∈ ts, plainT P k t = true) →
    (∀ (j : Nat) t v, ts[j]? = some t → vs[j]? = some v → Value.okWide P w .any base t v) → (∀ n ∈ DataW.weightsEach P (ts ++ us) ds, n ≤ reachBytes) → DataW.TrodAll enc P w 0 (fun _ => true) true ts vs ds ps → ∃ avs, All2 (ArgFits P k) ts avs ∧ VRels G0 w avs vs ∧ bulkAs avs ≤ BL ds
  | [], us, [], [], _, _, _, _, _ => ⟨[], .nil, .nil, by simp [bulkAs]⟩
  | t :: ts, us, v :: vs, d :: ds, _, hp, hok, hwt, ⟨p, q, ⟨fuel, h1⟩, h2, _⟩ => by
    obtain ⟨xs, f1, f2, f3, f4⟩ := trod_fits hl hB k t (hp t (by simp)) fuel _ _ h1 (fun n hn => hwt n (by simp only [List.cons_append, DataW.weightsEach, List.mem_append]; exact .inl hn))
    obtain ⟨avs, g1, g2, g3⟩ := args_fit hl hB (us := us) (fun t ht => hp t (by simp [ht])) (fun j t v a b => hok (j + 1) t v (by simpa using a) (by simpa using b)) (fun n hn => hwt n (by simp only [List.cons_append, DataW.weightsEach, List.mem_append]; exact .inr hn)) h2
    refine ⟨wrapE P t xs :: avs, .cons ⟨xs, f1, rfl⟩ g1, .cons (arg_rel (hp t (by simp)) (hok 0 t v rfl rfl) f2 f3) g2, ?_⟩
    have := bulk_wrap P t xs
    simp only [bulkAs, hB.cons] at f4 ⊢
    omega
theorem trodAll_len {sp : Nat → Bool} : ∀ {ts : List TypeId} {vs : List Value} {ds : List (DataW H)} {ps : List MemPlace}, DataW.TrodAll enc P w 0 sp true ts vs ds ps → ds.length = ts.length
  | [], [], [], _, h => rfl
  | t :: ts, v :: vs, d :: ds, _, ⟨p, q, h1, h2, e⟩ => by simp [trodAll_len h2]
theorem trodAll_carry {w' : World} {sp : Nat → Bool} : ∀ {ts : List TypeId} {vs : List Value} {ds : List (DataW H)} {ps : List MemPlace}, DataW.TrodAll enc P w 0 sp true ts vs ds ps → (∀ p ∈ ps, w.sameAt w' p) → DataW.TrodAll enc P w' 0 sp true ts vs ds ps
  | [], [], [], _, h, _ => h
  | t :: ts, v :: vs, d :: ds, _, ⟨p, q, ⟨fuel, h1⟩, h2, e⟩, hs => by
    subst e
    exact ⟨p, q, ⟨fuel, DataW.trod_carry fuel _ _ _ h1 (fun x hx => hs x (List.mem_append_left _ hx))⟩, trodAll_carry h2 (fun x hx => hs x (List.mem_append_right _ hx)), rfl⟩
theorem calls_row (hl : laidOutB P = true) {B : DataW H → Nat} {BL : List (DataW H) → Nat} (hB : Bulk B BL) (hm : mapsRowed P = true) (hz : ∀ t e, t < P.types.size → P.underlying t = some (.slice e) → 0 < P.cellsOf e) {f : FuncId} {fn : Func} {s : ChangeSpec} {k base : Nat} {W : World} {args : Array Value} {ds gs : List (DataW H)} {before : List MemPlace} {tb : TypeId}
    (hvars : s.vars = []) (hfn : ∀ l : List (DataW H), l.length = fn.params.size → s.fn H l = { results := [.lit (.bool true)], args := l }) (hrt : fn.resultTypes = #[tb]) (htb : P.underlying tb = some .bool)
    (hpl' : fn.params.toList.all (plainT P k) = true) (hlt' : fn.params.toList.all (fun t => decide (t < P.types.size)) = true)
    (hval : ∀ (j : Nat) t v, fn.params[j]? = some t → args[j]? = some v → Value.okWide P W .any base t v) (hW : DataW.Whole enc P fn.params.toList s.vars false W args.toList ds gs before)
    {us : List TypeId} (hwt : (DataW.weightsEach P (fn.params.toList ++ us) (ds ++ gs)).all (· ≤ reachBytes) = true)
    (law : ∀ avs, All2 (ArgFits P k) fn.params.toList avs → bulkAs avs ≤ BL (ds ++ gs) → PCalls P f avs (.bool true)) :
    Calls P f args W fun e W' => ∃ v, e = .returned v ∧ s.post enc P fn false true false false W args v W' := by
  have hpl : ∀ t ∈ fn.params.toList, plainT P k t = true := List.all_eq_true.1 hpl'
  have hlt : ∀ t ∈ fn.params.toList, t < P.types.size := fun t ht => of_decide_eq_true (List.all_eq_true.1 hlt' t ht)
  have hW' := hW
  obtain ⟨p, q, hA, hV, rfl, -, -⟩ := hW
  rw [hvars] at hV
  obtain ⟨rfl, rfl⟩ := trodVars_none hV
  rw [List.append_nil] at hwt law
  obtain ⟨avs, g1, g2, g3⟩ := args_fit hl hB hpl (fun j t v a b => hval j t v (by simpa using a) (by simpa using b)) (fun n hn => of_decide_eq_true (List.all_eq_true.1 hwt n hn)) hA
  have hlaw := law avs g1 g3 0 0 G0 W args.toList g2 only_rep ⟨fun _ _ _ h => h, fun _ _ _ h => h⟩
  rw [show args.toList.toArray = args from Array.toArray_toList] at hlaw
  refine hlaw.mono ?_
  rintro e W' ⟨v, G', he, T, -, hv⟩
  subst he
  simp only [VRel] at hv
  subst hv
  have keep : ∀ B, B < W.heap.size → W'.heap[B]? = W.heap[B]? := fun B hB => T.keep B hB (fun x => only_O B x) (fun ⟨t, ht, _⟩ => by simp [H0, Av.H.only] at ht)
  have hlt' : ∀ x ∈ p, x.block < W.heap.size := DataW.TrodAll.lt hA
  have hlen := trodAll_len hA
  refine ⟨_, rfl, ds, [], p ++ [], [], p, [], hW', ?_, ?_, ?_, ?_, fun h => by cases h⟩
  · rw [hfn _ (by simpa using hlen), hrt]
    exact trodAll_mk1 (shut_bool htb _)
  · rw [hfn _ (by simpa using hlen)]
    have := DataW.TrodAll.respare (kids_rows hl hm) hz (spare' := fun b => decide (b < W.heap.size)) hlt hA (fun x hx => by simpa using hlt' x hx)
    simp only [List.append_nil]
    refine trodAll_carry this fun x hx => ?_
    have hb := hlt' x hx
    cases x with
    | cell b off => unfold World.sameAt World.cell?; simp only; rw [keep b hb]
    | map b => exact keep b hb
  · rw [hvars, hfn _ (by simpa using hlen)]
    rfl
  · refine ⟨T.os, T.output, fun i hi => ?_⟩
    rw [keep i hi]
    generalize W.heap[i]? = o
    cases o with
    | none => rfl
    | some o => cases o <;> simp
end
end Go.Av
end
section
set_option linter.unusedSimpArgs false
set_option linter.unusedVariables false
set_option maxRecDepth 100000
namespace Go.Proofs.YtehhdhadmapplaaGreat.Tree
open Go Go.Av Go.Proofs Go.Proofs.YtehhdhadmapplaaGreat.C
theorem laid : laidOutB Tryz.prog = true := by kernel_rfl
theorem rowed : mapsRowed Tryz.prog = true := by kernel_rfl
theorem full : ∀ t e, t < Tryz.prog.types.size → Tryz.prog.underlying t = some (.slice e) → 0 < Tryz.prog.cellsOf e := slices_full_of Tryz.prog (by kernel_rfl)
theorem own : ownKnob Tryz.prog.godebug = none := by kernel_rfl
theorem bulk {H : Type} : Bulk (H := H) Rows.uptoBulk Rows.uptoBulkAll :=
  ⟨fun l => by simp [Rows.uptoBulk], fun k n => by simp [Rows.uptoBulk], fun b => by simp [Rows.uptoBulk], by simp [Rows.uptoBulk], fun a b => by simp [Rows.uptoBulk], fun a => by simp [Rows.uptoBulk], by simp [Rows.uptoBulkAll], fun d l => by simp [Rows.uptoBulkAll]⟩
theorem open_b {a : AV} (h : ArgFits Tryz.prog 5 4 a) : ∃ b, a = .bool b := by
  obtain ⟨cs, h, rfl⟩ := h
  unfold Fits at h
  rw [Tryz.underlying4] at h
  obtain ⟨l, rfl⟩ := h
  refine ⟨l, ?_⟩
  unfold wrapE; rw [if_neg (by rw [show isAggT Tryz.prog 4 = false by kernel_rfl]; simp)]; rfl
theorem open_str {a : AV} (h : ArgFits Tryz.prog 5 9 a) : ∃ l, a = .str l ∧ l.length ≤ reachBytes := by
  obtain ⟨cs, h, rfl⟩ := h
  unfold Fits at h
  rw [Tryz.underlying9] at h
  obtain ⟨l, rfl, hl⟩ := h
  refine ⟨l, ?_, hl⟩
  unfold wrapE; rw [if_neg (by rw [show isAggT Tryz.prog 9 = false by kernel_rfl]; simp)]; rfl
end Go.Proofs.YtehhdhadmapplaaGreat.Tree
end
section
set_option maxRecDepth 100000
namespace Go.Proofs.YtehhdhadmapplaaGreat.C
open Go.Av
def tabS : FT :=
  (.node 142 ⟨76, c142, [.tmp 2]⟩ (.node 77 ⟨100, c77, [.tmp 10, .tmp 11]⟩ (.node 46 ⟨53, c46, [.tmp 4]⟩ (.node 19 ⟨14, c19, [.tmp 2, .tmp 3]⟩ (.node 12 ⟨10, c12, [.tmp 6]⟩ (.node 8 ⟨13, c8, [.tmp 4,
  .tmp 5]⟩ (.node 6 ⟨42, c6, [.tmp 4, .tmp 5]⟩ (.node 4 ⟨117, c4, [.tmp 6]⟩ .leaf .leaf) .leaf) (.node 11 ⟨13, c11, [.tmp 2, .tmp 3]⟩ (.node 10 ⟨15, c10, [.tmp 2, .tmp 3]⟩ .leaf .leaf) .leaf)) (.node
  17 ⟨17, c17, [.tmp 4, .tmp 5]⟩ (.node 16 ⟨70, c16, [.tmp 2, .tmp 3]⟩ (.node 14 ⟨10, c14, [.tmp 2]⟩ .leaf .leaf) .leaf) (.node 18 ⟨23, c18, [.tmp 8, .tmp 9]⟩ .leaf .leaf))) (.node 24 ⟨26, c24, [.tmp
  2]⟩ (.node 22 ⟨11, c22, [.tmp 2]⟩ (.node 21 ⟨14, c21, [.tmp 4]⟩ (.node 20 ⟨13, c20, [.tmp 2]⟩ .leaf .leaf) .leaf) (.node 23 ⟨53, c23, [.tmp 8]⟩ .leaf .leaf)) (.node 27 ⟨11, c27, [.tmp 2]⟩ (.node 26
  ⟨11, c26, [.tmp 2]⟩ (.node 25 ⟨11, c25, [.tmp 2]⟩ .leaf .leaf) .leaf) (.node 28 ⟨95, c28, [.tmp 0]⟩ .leaf .leaf)))) (.node 61 ⟨17, c61, []⟩ (.node 52 ⟨54, c52, []⟩ (.node 49 ⟨14, c49, [.tmp 2, .tmp
  3]⟩ (.node 48 ⟨11, c48, [.tmp 2]⟩ (.node 47 ⟨14, c47, [.tmp 2, .tmp 3, .tmp 4]⟩ .leaf .leaf) .leaf) (.node 50 ⟨49, c50, [.tmp 6, .tmp 7]⟩ .leaf .leaf)) (.node 58 ⟨13, c58, []⟩ (.node 54 ⟨38, c54,
  [.tmp 4, .tmp 5]⟩ (.node 53 ⟨32, c53, [.cell 6 (some 4)]⟩ .leaf .leaf) .leaf) (.node 60 ⟨11, c60, []⟩ .leaf .leaf))) (.node 72 ⟨12, c72, [.tmp 2]⟩ (.node 68 ⟨6, c68, []⟩ (.node 64 ⟨27, c64, [.tmp
  4]⟩ (.node 63 ⟨57, c63, []⟩ .leaf .leaf) .leaf) (.node 70 ⟨12, c70, [.tmp 2]⟩ .leaf .leaf)) (.node 75 ⟨11, c75, [.tmp 2]⟩ (.node 74 ⟨12, c74, [.tmp 2, .tmp 3]⟩ (.node 73 ⟨48, c73, [.cell 2 (some 6),
  .tmp 3, .tmp 4]⟩ .leaf .leaf) .leaf) (.node 76 ⟨64, c76, [.tmp 8, .tmp 9, .tmp 10]⟩ .leaf .leaf))))) (.node 97 ⟨54, c97, [.cell 4 (some 6), .tmp 5]⟩ (.node 87 ⟨4, c87, [.tmp 1]⟩ (.node 82 ⟨11, c82,
  [.tmp 2]⟩ (.node 80 ⟨4, c80, [.tmp 1]⟩ (.node 79 ⟨18, c79, [.tmp 2]⟩ (.node 78 ⟨12, c78, [.tmp 2]⟩ .leaf .leaf) .leaf) (.node 81 ⟨18, c81, [.tmp 2]⟩ .leaf .leaf)) (.node 85 ⟨6, c85, [.tmp 2]⟩ (.node
  84 ⟨10, c84, [.tmp 2]⟩ (.node 83 ⟨43, c83, [.tmp 2, .tmp 3]⟩ .leaf .leaf) .leaf) (.node 86 ⟨42, c86, [.tmp 6]⟩ .leaf .leaf))) (.node 92 ⟨53, c92, [.tmp 8]⟩ (.node 90 ⟨99, c90, [.tmp 4]⟩ (.node 89
  ⟨15, c89, [.tmp 2]⟩ (.node 88 ⟨4, c88, [.tmp 1]⟩ .leaf .leaf) .leaf) (.node 91 ⟨11, c91, [.tmp 2]⟩ .leaf .leaf)) (.node 95 ⟨38, c95, [.tmp 4]⟩ (.node 94 ⟨6, c94, [.tmp 2]⟩ (.node 93 ⟨10, c93, [.tmp
  2]⟩ .leaf .leaf) .leaf) (.node 96 ⟨36, c96, [.tmp 4]⟩ .leaf .leaf)))) (.node 131 ⟨9, c131, [.tmp 4]⟩ (.node 103 ⟨29, c103, [.tmp 2, .tmp 3]⟩ (.node 101 ⟨11, c101, [.tmp 2]⟩ (.node 100 ⟨51, c100,
  [.tmp 4]⟩ (.node 99 ⟨5, c99, [.tmp 2]⟩ .leaf .leaf) .leaf) (.node 102 ⟨20, c102, [.tmp 2]⟩ .leaf .leaf)) (.node 129 ⟨12, c129, [.tmp 2]⟩ (.node 105 ⟨26, c105, [.tmp 4]⟩ (.node 104 ⟨17, c104, [.tmp
  4]⟩ .leaf .leaf) .leaf) (.node 130 ⟨16, c130, [.tmp 4]⟩ .leaf .leaf))) (.node 136 ⟨27, c136, [.tmp 4]⟩ (.node 134 ⟨5, c134, [.tmp 2]⟩ (.node 133 ⟨12, c133, [.tmp 3]⟩ (.node 132 ⟨9, c132, [.tmp 4]⟩
  .leaf .leaf) .leaf) (.node 135 ⟨27, c135, [.tmp 4]⟩ .leaf .leaf)) (.node 140 ⟨57, c140, [.tmp 4, .tmp 5]⟩ (.node 138 ⟨18, c138, [.tmp 2, .tmp 3]⟩ (.node 137 ⟨28, c137, [.tmp 2]⟩ .leaf .leaf) .leaf)
  (.node 141 ⟨99, c141, [.cell 2 (some 4), .tmp 3]⟩ .leaf .leaf)))))) (.node 230 ⟨6, c230, [.tmp 2]⟩ (.node 176 ⟨32, c176, []⟩ (.node 165 ⟨33, c165, [.tmp 4]⟩ (.node 150 ⟨48, c150, [.tmp 4, .tmp 5]⟩
  (.node 146 ⟨134, c146, []⟩ (.node 145 ⟨12, c145, [.tmp 4]⟩ (.node 143 ⟨26, c143, [.tmp 4]⟩ .leaf .leaf) .leaf) (.node 149 ⟨78, c149, [.tmp 2, .tmp 3]⟩ (.node 147 ⟨8, c147, [.tmp 2]⟩ .leaf .leaf)
  .leaf)) (.node 163 ⟨31, c163, [.tmp 6]⟩ (.node 162 ⟨13, c162, [.tmp 2]⟩ (.node 161 ⟨29, c161, [.cell 4 (some 8), .tmp 5]⟩ .leaf .leaf) .leaf) (.node 164 ⟨11, c164, [.tmp 2]⟩ .leaf .leaf))) (.node
  170 ⟨9, c170, [.tmp 4]⟩ (.node 168 ⟨46, c168, [.tmp 2]⟩ (.node 167 ⟨72, c167, [.tmp 2, .tmp 3]⟩ (.node 166 ⟨6, c166, [.tmp 4]⟩ .leaf .leaf) .leaf) (.node 169 ⟨9, c169, [.tmp 4]⟩ .leaf .leaf)) (.node
  174 ⟨25, c174, [.tmp 2]⟩ (.node 173 ⟨22, c173, [.tmp 4]⟩ (.node 172 ⟨12, c172, [.tmp 2]⟩ .leaf .leaf) .leaf) (.node 175 ⟨12, c175, [.tmp 2]⟩ .leaf .leaf)))) (.node 218 ⟨19, c218, [.tmp 4]⟩ (.node
  182 ⟨39, c182, [.tmp 6]⟩ (.node 179 ⟨40, c179, [.tmp 2, .tmp 3]⟩ (.node 178 ⟨58, c178, [.tmp 6, .tmp 7]⟩ (.node 177 ⟨3, c177, [.tmp 2]⟩ .leaf .leaf) .leaf) (.node 180 ⟨16, c180, [.tmp 4]⟩ .leaf
  .leaf)) (.node 185 ⟨8, c185, [.tmp 2]⟩ (.node 184 ⟨8, c184, [.tmp 3]⟩ (.node 183 ⟨19, c183, [.tmp 4]⟩ .leaf .leaf) .leaf) (.node 186 ⟨7, c186, [.tmp 3]⟩ .leaf .leaf))) (.node 223 ⟨35, c223, [.tmp
  2]⟩ (.node 221 ⟨22, c221, [.tmp 4]⟩ (.node 220 ⟨12, c220, [.tmp 2]⟩ (.node 219 ⟨19, c219, [.tmp 4]⟩ .leaf .leaf) .leaf) (.node 222 ⟨45, c222, []⟩ .leaf .leaf)) (.node 226 ⟨59, c226, [.tmp 4]⟩ (.node
  225 ⟨69, c225, [.tmp 4]⟩ (.node 224 ⟨37, c224, [.tmp 4, .tmp 5]⟩ .leaf .leaf) .leaf) (.node 228 ⟨11, c228, [.tmp 2]⟩ .leaf .leaf))))) (.node 296 ⟨9, c296, [.tmp 2, .tmp 3]⟩ (.node 259 ⟨29, c259,
  [.cell 4 (some 5), .tmp 5]⟩ (.node 245 ⟨9, c245, [.tmp 4]⟩ (.node 243 ⟨25, c243, [.tmp 2]⟩ (.node 233 ⟨49, c233, []⟩ (.node 231 ⟨9, c231, [.tmp 4]⟩ .leaf .leaf) .leaf) (.node 244 ⟨9, c244, [.tmp 4]⟩
  .leaf .leaf)) (.node 250 ⟨41, c250, [.tmp 2]⟩ (.node 247 ⟨42, c247, [.tmp 6]⟩ (.node 246 ⟨28, c246, [.tmp 4, .tmp 5]⟩ .leaf .leaf) .leaf) (.node 258 ⟨47, c258, [.cell 2 (some 6), .tmp 3]⟩ .leaf
  .leaf))) (.node 265 ⟨24, c265, [.tmp 6]⟩ (.node 263 ⟨15, c263, [.tmp 6]⟩ (.node 261 ⟨27, c261, [.tmp 2]⟩ (.node 260 ⟨53, c260, []⟩ .leaf .leaf) .leaf) (.node 264 ⟨23, c264, [.tmp 6]⟩ .leaf .leaf))
  (.node 268 ⟨7, c268, [.tmp 2]⟩ (.node 267 ⟨13, c267, [.tmp 2]⟩ (.node 266 ⟨4, c266, [.tmp 2]⟩ .leaf .leaf) .leaf) (.node 269 ⟨5, c269, [.tmp 2]⟩ .leaf .leaf)))) (.node 317 ⟨38, c317, [.tmp 6]⟩
  (.node 308 ⟨48, c308, [.tmp 4, .tmp 5]⟩ (.node 306 ⟨24, c306, [.tmp 6]⟩ (.node 299 ⟨19, c299, [.tmp 4]⟩ (.node 297 ⟨4, c297, [.tmp 2]⟩ .leaf .leaf) .leaf) (.node 307 ⟨24, c307, [.tmp 6]⟩ .leaf
  .leaf)) (.node 315 ⟨21, c315, []⟩ (.node 314 ⟨94, c314, [.cell 2 (some 5), .tmp 3]⟩ (.node 313 ⟨5, c313, [.tmp 2]⟩ .leaf .leaf) .leaf) (.node 316 ⟨8, c316, [.tmp 2]⟩ .leaf .leaf))) (.node 361 ⟨5,
  c361, [.tmp 2]⟩ (.node 356 ⟨32, c356, [.tmp 6]⟩ (.node 354 ⟨19, c354, []⟩ (.node 318 ⟨5, c318, [.tmp 2]⟩ .leaf .leaf) .leaf) (.node 360 ⟨5, c360, [.tmp 2]⟩ .leaf .leaf)) (.node 364 ⟨18, c364, [.tmp
  2]⟩ (.node 363 ⟨9, c363, [.tmp 2]⟩ (.node 362 ⟨5, c362, [.tmp 2]⟩ .leaf .leaf) .leaf) (.node 365 ⟨41, c365, [.tmp 6, .tmp 7]⟩ .leaf .leaf)))))))
theorem tabS_ok : tabS.Ok Tryz.prog :=
  ⟨f142, ⟨f77, ⟨f46, ⟨f19, ⟨f12, ⟨f8, ⟨f6, ⟨f4, trivial, trivial⟩, trivial⟩, ⟨f11, ⟨f10, trivial, trivial⟩, trivial⟩⟩, ⟨f17, ⟨f16, ⟨f14, trivial, trivial⟩, trivial⟩, ⟨f18, trivial, trivial⟩⟩⟩, ⟨f24,
  ⟨f22, ⟨f21, ⟨f20, trivial, trivial⟩, trivial⟩, ⟨f23, trivial, trivial⟩⟩, ⟨f27, ⟨f26, ⟨f25, trivial, trivial⟩, trivial⟩, ⟨f28, trivial, trivial⟩⟩⟩⟩, ⟨f61, ⟨f52, ⟨f49, ⟨f48, ⟨f47, trivial, trivial⟩,
  trivial⟩, ⟨f50, trivial, trivial⟩⟩, ⟨f58, ⟨f54, ⟨f53, trivial, trivial⟩, trivial⟩, ⟨f60, trivial, trivial⟩⟩⟩, ⟨f72, ⟨f68, ⟨f64, ⟨f63, trivial, trivial⟩, trivial⟩, ⟨f70, trivial, trivial⟩⟩, ⟨f75,
  ⟨f74, ⟨f73, trivial, trivial⟩, trivial⟩, ⟨f76, trivial, trivial⟩⟩⟩⟩⟩, ⟨f97, ⟨f87, ⟨f82, ⟨f80, ⟨f79, ⟨f78, trivial, trivial⟩, trivial⟩, ⟨f81, trivial, trivial⟩⟩, ⟨f85, ⟨f84, ⟨f83, trivial, trivial⟩,
  trivial⟩, ⟨f86, trivial, trivial⟩⟩⟩, ⟨f92, ⟨f90, ⟨f89, ⟨f88, trivial, trivial⟩, trivial⟩, ⟨f91, trivial, trivial⟩⟩, ⟨f95, ⟨f94, ⟨f93, trivial, trivial⟩, trivial⟩, ⟨f96, trivial, trivial⟩⟩⟩⟩, ⟨f131,
  ⟨f103, ⟨f101, ⟨f100, ⟨f99, trivial, trivial⟩, trivial⟩, ⟨f102, trivial, trivial⟩⟩, ⟨f129, ⟨f105, ⟨f104, trivial, trivial⟩, trivial⟩, ⟨f130, trivial, trivial⟩⟩⟩, ⟨f136, ⟨f134, ⟨f133, ⟨f132, trivial,
  trivial⟩, trivial⟩, ⟨f135, trivial, trivial⟩⟩, ⟨f140, ⟨f138, ⟨f137, trivial, trivial⟩, trivial⟩, ⟨f141, trivial, trivial⟩⟩⟩⟩⟩⟩, ⟨f230, ⟨f176, ⟨f165, ⟨f150, ⟨f146, ⟨f145, ⟨f143, trivial, trivial⟩,
  trivial⟩, ⟨f149, ⟨f147, trivial, trivial⟩, trivial⟩⟩, ⟨f163, ⟨f162, ⟨f161, trivial, trivial⟩, trivial⟩, ⟨f164, trivial, trivial⟩⟩⟩, ⟨f170, ⟨f168, ⟨f167, ⟨f166, trivial, trivial⟩, trivial⟩, ⟨f169,
  trivial, trivial⟩⟩, ⟨f174, ⟨f173, ⟨f172, trivial, trivial⟩, trivial⟩, ⟨f175, trivial, trivial⟩⟩⟩⟩, ⟨f218, ⟨f182, ⟨f179, ⟨f178, ⟨f177, trivial, trivial⟩, trivial⟩, ⟨f180, trivial, trivial⟩⟩, ⟨f185,
  ⟨f184, ⟨f183, trivial, trivial⟩, trivial⟩, ⟨f186, trivial, trivial⟩⟩⟩, ⟨f223, ⟨f221, ⟨f220, ⟨f219, trivial, trivial⟩, trivial⟩, ⟨f222, trivial, trivial⟩⟩, ⟨f226, ⟨f225, ⟨f224, trivial, trivial⟩,
  trivial⟩, ⟨f228, trivial, trivial⟩⟩⟩⟩⟩, ⟨f296, ⟨f259, ⟨f245, ⟨f243, ⟨f233, ⟨f231, trivial, trivial⟩, trivial⟩, ⟨f244, trivial, trivial⟩⟩, ⟨f250, ⟨f247, ⟨f246, trivial, trivial⟩, trivial⟩, ⟨f258,
  trivial, trivial⟩⟩⟩, ⟨f265, ⟨f263, ⟨f261, ⟨f260, trivial, trivial⟩, trivial⟩, ⟨f264, trivial, trivial⟩⟩, ⟨f268, ⟨f267, ⟨f266, trivial, trivial⟩, trivial⟩, ⟨f269, trivial, trivial⟩⟩⟩⟩, ⟨f317, ⟨f308,
  ⟨f306, ⟨f299, ⟨f297, trivial, trivial⟩, trivial⟩, ⟨f307, trivial, trivial⟩⟩, ⟨f315, ⟨f314, ⟨f313, trivial, trivial⟩, trivial⟩, ⟨f316, trivial, trivial⟩⟩⟩, ⟨f361, ⟨f356, ⟨f354, ⟨f318, trivial,
  trivial⟩, trivial⟩, ⟨f360, trivial, trivial⟩⟩, ⟨f364, ⟨f363, ⟨f362, trivial, trivial⟩, trivial⟩, ⟨f365, trivial, trivial⟩⟩⟩⟩⟩⟩⟩
theorem tabS_named : tabS.named Tryz.prog = true := by kernel_rfl
end Go.Proofs.YtehhdhadmapplaaGreat.C
end
section
set_option linter.unusedVariables false
set_option linter.unusedSimpArgs false
namespace Go.Av
theorem VSub.sup {l : List UInt8} {B : Nat} (h : l.length ≤ B) : VSub (.str l) (.sup B) := by
  intro G w v hv
  simp only [VRel] at hv ⊢
  exact ⟨l, hv, h⟩
theorem PCalls.sup {P : Program} {f : FuncId} {a b : List AV} {B : Nat} {r : AV} (h : ∀ l : List UInt8, l.length ≤ B → PCalls P f (a ++ .str l :: b) r) : PCalls P f (a ++ .sup B :: b) r := by
  intro n m G w vs hv R F
  have key : ∀ (a : List AV) (vs : List Value), VRels G w (a ++ .sup B :: b) vs → ∃ l : List UInt8, l.length ≤ B ∧ VRels G w (a ++ .str l :: b) vs := by
    intro a
    induction a with
    | nil =>
      intro vs hv
      simp only [List.nil_append, VRels, VRel] at hv ⊢
      obtain ⟨v, us, e, ⟨l, h1, h2⟩, h3⟩ := hv
      exact ⟨l, h2, v, us, e, h1, h3⟩
    | cons x a ih =>
      intro vs hv
      simp only [List.cons_append, VRels] at hv ⊢
      obtain ⟨v, us, e, h1, h2⟩ := hv
      obtain ⟨l, h3, h4⟩ := ih us h2
      exact ⟨l, h3, v, us, e, h1, h4⟩
  obtain ⟨l, h1, h2⟩ := key a vs hv
  exact h l h1 n m G w vs h2 R F
theorem ACalls.sup {P : Program} {f : FuncId} {a b : List AV} {B : Nat} {h h' : H} {r : AV} (hc : ∀ l : List UInt8, l.length ≤ B → ACalls P f (a ++ .str l :: b) h r h') : ACalls P f (a ++ .sup B :: b) h r h' := by
  intro G w vs hv R F
  have key : ∀ (a : List AV) (vs : List Value), VRels G w (a ++ .sup B :: b) vs → ∃ l : List UInt8, l.length ≤ B ∧ VRels G w (a ++ .str l :: b) vs := by
    intro a
    induction a with
    | nil =>
      intro vs hv
      simp only [List.nil_append, VRels, VRel] at hv ⊢
      obtain ⟨v, us, e, ⟨l, h1, h2⟩, h3⟩ := hv
      exact ⟨l, h2, v, us, e, h1, h3⟩
    | cons x a ih =>
      intro vs hv
      simp only [List.cons_append, VRels] at hv ⊢
      obtain ⟨v, us, e, h1, h2⟩ := hv
      obtain ⟨l, h3, h4⟩ := ih us h2
      exact ⟨l, h3, v, us, e, h1, h4⟩
  obtain ⟨l, h1, h2⟩ := key a vs hv
  exact hc l h1 G w vs h2 R F
theorem VSub.wint {k : IntKind} {n : Int} : VSub (.int k n) (.wint k) := by
  intro G w v h
  simp only [VRel] at h ⊢
  exact ⟨n, h⟩
theorem PCalls.args {P : Program} {f : FuncId} {l m : List AV} {r : AV} (hs : VSubs l m) (h : PCalls P f m r) : PCalls P f l r :=
  fun n k G w vs hv => h n k G w vs (hs G w vs hv)
end Go.Av
end
section
set_option linter.unusedSimpArgs false
set_option linter.unusedVariables false
set_option maxRecDepth 100000
namespace Go.Proofs.YtehhdhadmapplaaGreat.Tree
open Go Go.Av Go.Proofs Go.Proofs.YtehhdhadmapplaaGreat.C
theorem lives12_p : PCalls Tryz.prog 28 [] (.bool true) := pcalls_runQ tabS_ok tabS_named storeP_ok noPF_ok (fz := thawed) tryZ_ok (k := 100000) (by kernel_rfl)
noncomputable def lives12PP (f : Nat) (args : List AV) : Option AV := match Nat.beq f 28 with
  | true => (match args with
    | [] => some (.bool true)
    | _ => none)
  | false => storePP f args
theorem lives12P_ok : PrimsOkZ Tryz.prog (orPrimsZ placeZ (purePrimZ lives12PP)) := orPrimsZ_ok placeZ_ok <| purePrimZ_ok fun f args r h => by
  unfold lives12PP at h
  split at h
  · rename_i e
    have e := Nat.eq_of_beq_eq_true e
    subst e
    split at h
    · cases h
      exact ⟨⟨[], VSubs.nil, lives12_p⟩, ⟨_, Tryz.func28, of_decide_eq_true (by kernel_rfl), of_decide_eq_true (by kernel_rfl)⟩⟩
    · cases h
  · exact storePP_ok h
theorem nils_t (rec : List UInt8) : PCalls Tryz.prog 4 [.str rec, .one, .bool true] (.bool true) := pcalls_runQ tabS_ok tabS_named lives12P_ok noPF_ok (fz := thawed) tryZ_ok (k := 100000) (by kernel_rfl)
theorem nils_f (rec : List UInt8) : PCalls Tryz.prog 4 [.str rec, .one, .bool false] (.bool true) := pcalls_runQ tabS_ok tabS_named lives12P_ok noPF_ok (fz := thawed) tryZ_ok (k := 100000) (by kernel_rfl)
theorem one_arg {a : AV} (h : ArgFits Tryz.prog 5 47 a) : VSub a .one := by
  obtain ⟨cs, h, rfl⟩ := h
  unfold Fits at h
  rw [Tryz.underlying47] at h
  obtain ⟨ys, rfl, -⟩ := h
  unfold wrapE; rw [if_neg (by rw [show isAggT Tryz.prog 47 = false by kernel_rfl]; simp)]
  intro G w v hv
  simp only [List.headD_cons, VRel] at hv ⊢
  rcases hv with ⟨-, ⟨a, rfl⟩, -⟩ | ⟨B, off, C, vs, rfl, -⟩ <;> exact one_of_sl _ _ _
theorem law_StoreNil {b : Nat} (avs : List AV) (h : All2 (ArgFits Tryz.prog 5) Tryz.f4.params.toList avs) (_ : bulkAs avs ≤ b) : PCalls Tryz.prog 4 avs (.bool true) := by
  rw [Tryz.params4] at h
  cases h with | cons h0 h =>
  cases h with | cons h1 h =>
  cases h with | cons h2 h =>
  cases h
  obtain ⟨rec, rfl, -⟩ := open_str h0
  obtain ⟨b, rfl⟩ := open_b h2
  cases b with
  | true => exact (nils_t rec).args (VSubs.cons (VSub.refl _) (VSubs.cons (one_arg h1) (VSubs.refl _)))
  | false => exact (nils_f rec).args (VSubs.cons (VSub.refl _) (VSubs.cons (one_arg h1) (VSubs.refl _)))
end Go.Proofs.YtehhdhadmapplaaGreat.Tree
end
section
set_option linter.unusedSimpArgs false
set_option linter.unusedVariables false
namespace Go.Proofs.YtehhdhadmapplaaGreat.Tree
open Go Go.Av Go.Proofs Go.Proofs.YtehhdhadmapplaaGreat.C
open Go.ChangeShapes Go.WideShapes Go.ChangeAt Go.RowKit
set_option maxRecDepth 100000 in
theorem lifted_StoreNil (os : Os) (started : os.Started) (H : Type) (enc : TypeId × Value → H) :
    ReturnsInHanded {} Tryz.checked os 4 .any (Rows.storeNilSpec.pre6 enc Tryz.prog Tryz.f4 Rows.storeNilRow.domain false) (Rows.storeNilSpec.post enc Tryz.prog Tryz.f4 false true false false) := by
  refine returnsInHanded_of_change_sized (C := Tryz.checked) own started (by kernel_rfl) Tryz.func4
    (ChangeSpec.witness6 (enc := enc) (C := Tryz.checked) false ⟨#[], #[.string ⟨#[]⟩, .slice none 0 0, .bool false], []⟩ 8 (by kernel_rfl) (by kernel_rfl) (by kernel_rfl) (by kernel_rfl)) ?_
  intro W base args ds gs before hval hW _ hwt _
  exact calls_row laid bulk rowed full rfl (fun l hl => by match l, hl with | [_, _, _], _ => rfl) rfl Tryz.underlying4 (by kernel_rfl) (by kernel_rfl) hval hW hwt (fun avs h hb => law_StoreNil avs h hb)
theorem cl0_StoreNil : (Rows.storeNilRow.inPlace == Tryz.pinned.checked.prog.inPlace 4) = true := by kernel_rfl
theorem cl1_StoreNil : (Rows.storeNilRow.unfollowed == Tryz.pinned.checked.prog.unfollowed 4) = true := by kernel_rfl
theorem cl2_StoreNil : (Rows.storeNilRow.recurses == Tryz.pinned.checked.prog.recurses 4) = true := by kernel_rfl
theorem cl3_StoreNil : (Rows.storeNilRow.named == Tryz.pinned.checked.prog.varsNamed 4) = true := by kernel_rfl
theorem closed_StoreNil : joinedFacts Tryz.pinned.checked.prog 4 Tryz.f4 Rows.storeNilSpec Rows.storeNilRow = true := by
  unfold joinedFacts
  rw [cl0_StoreNil, cl1_StoreNil, cl2_StoreNil, cl3_StoreNil]
  kernel_rfl
theorem named_StoreNil : Tryz.pinned.checked.prog.funcNamed Rows.storeNilRow.func = some 4 := by kernel_rfl
theorem said_StoreNil : Rows.StoreNilSaid :=
  OpenClaim.holds_of_wide 4 Tryz.f4 rfl rfl rfl rfl rfl rfl rfl ⟨rfl, rfl, rfl, rfl, rfl⟩ rfl rfl rfl rfl rfl named_StoreNil Tryz.func4 closed_StoreNil
    (of_decide_eq_true (by kernel_rfl)) (by unfold Func.isWrapper; first | (rw [if_pos (by decide +kernel)]; kernel_rfl) | (rw [if_neg (by decide +kernel)]; exact ⟨rfl, rfl⟩))
    (fun os started H enc _ => lifted_StoreNil os started H enc)
#print axioms said_StoreNil
end Go.Proofs.YtehhdhadmapplaaGreat.Tree
end
