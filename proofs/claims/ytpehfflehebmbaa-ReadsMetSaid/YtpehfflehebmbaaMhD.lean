/- Parts of a proof: a layer of abstract values over the model, the functions' walks, plain laws. -/
import Derived.Deep.CondSized
import Derived.IntWalk
import Derived.KernelRfl
import Derived.Laws.Append
import Derived.Laws.AppendOwn
import Derived.Laws.BytesArg
import Derived.Laws.Cover3
import Derived.Laws.Entries
import Derived.Laws.IdiomCopy
import Derived.Laws.IdiomStrings
import Derived.Laws.Pointers
import Derived.Laws.Small
import Derived.Laws.Strings
import Derived.Laws.StructEq
import Derived.MapKept
import Derived.OpenShut
import Derived.Orders
import Derived.OrdersIn
import Derived.ProofKit
import Derived.RangeFuncRecord
import Derived.RangeFuncSeq
import Derived.ReadAgain
import Derived.Scope
import Derived.Shelf.Slices.Cells
import Derived.Shelf.Slices.Delete
import Derived.Shelf.Spec.SlicesInsertGrow
import Derived.SizedLaws
import Derived.Test.YtpehfflehebmbaaRows
import Derived.Test.YtpehfflehebmbaaMhC
section
set_option linter.unusedVariables false
set_option linter.unusedSimpArgs false
namespace Go.Av
open Go.ChangeShapes Go.WideShapes Go.ChangeAt Go.RowKit
section
variable {H : Type} {enc : TypeId × Value → H} {P : Program} {w : World}
def G0 : Ghost := ⟨fun _ => False, fun _ => 0, fun _ => False, fun _ => none, fun _ => False, fun _ => none⟩
def wrapE (P : Program) (e : TypeId) (cs : List AV) : AV := if isAggT P e then .agg cs else cs.headD .any
/- how many values and letters stand in a value -/
mutual
def bulkA : AV → Nat
  | .int _ _ => 1
  | .bool _ => 1
  | .str l => l.length + 1
  | .sl _ xs _ => bulkAs xs + 1
  | .agg cs => bulkAs cs
  | _ => 0
def bulkAs : List AV → Nat
  | [] => 0
  | x :: xs => bulkA x + bulkAs xs
end
theorem bulkAs_append : ∀ l m : List AV, bulkAs (l ++ m) = bulkAs l + bulkAs m
  | [], m => by simp [bulkAs]
  | x :: l, m => by simp [bulkAs, bulkAs_append l m]; omega
theorem bulk_wrap (P : Program) (e : TypeId) (cs : List AV) : bulkA (wrapE P e cs) ≤ bulkAs cs := by
  unfold wrapE
  split
  · simp [bulkA]
  · cases cs with
    | nil => simp [bulkA, bulkAs]
    | cons x cs => simp [bulkAs]
structure Bulk (B : DataW H → Nat) (BL : List (DataW H) → Nat) : Prop where
  str : ∀ l, B (.lit (.string l)) = l.length + 1
  int : ∀ k n, B (.lit (.int k n)) = 1
  bool : ∀ b, B (.lit (.bool b)) = 1
  nil : B .nil = 1
  slice : ∀ a b, B (.slice a b) = BL a + BL b + 1
  agg : ∀ a, B (.agg a) = BL a + 1
  nils : BL [] = 0
  cons : ∀ d l, BL (d :: l) = B d + BL l
theorem Bulk.snoc {B : DataW H → Nat} {BL : List (DataW H) → Nat} (hB : Bulk B BL) : ∀ (l : List (DataW H)) (d : DataW H), BL (l ++ [d]) = BL l + B d
  | [], d => by simp [hB.cons, hB.nils]
  | x :: l, d => by simp [hB.cons, Bulk.snoc hB l d]; omega
theorem Bulk.take {B : DataW H → Nat} {BL : List (DataW H) → Nat} (hB : Bulk B BL) : ∀ (l : List (DataW H)) (m : Nat), BL (l.take m) ≤ BL l
  | [], m => by simp
  | x :: l, 0 => by simp [hB.nils]
  | x :: l, m + 1 => by simp [hB.cons, Bulk.take hB l m]
theorem weights_mem_all {P : Program} {e : TypeId} {n : Nat} : ∀ {l : List (DataW H)} {d : DataW H}, d ∈ l → n ∈ d.weights P e → n ∈ DataW.weightsAll P e l
  | x :: l, d, h, hn => by
    simp only [DataW.weightsAll, List.mem_append]
    rcases List.mem_cons.1 h with rfl | h
    · exact .inl hn
    · exact .inr (weights_mem_all h hn)
inductive All2 {α β : Type} (R : α → β → Prop) : List α → List β → Prop
  | nil : All2 R [] []
  | cons {a b l m} : R a b → All2 R l m → All2 R (a :: l) (b :: m)
def Fits (P : Program) : Nat → TypeId → List AV → Prop
  | 0, _, _ => False
  | k + 1, t, xs => match P.underlying t with
    | some .bool => ∃ b, xs = [.bool b]
    | some (.int q) => ∃ n, xs = [.int q n] ∧ (Lit.int q n).wf = true
    | some .string => ∃ l, xs = [.str l] ∧ l.length ≤ reachBytes
    | some (.slice e) => ∃ ys, xs = [.sl (P.cellsOf e) ys .any] ∧ ys.length * P.bytesOf e ≤ reachBytes ∧ ∀ y ∈ ys, ∃ cs, Fits P k e cs ∧ y = wrapE P e cs
    | some (.struct fs) => ∃ xss, xs = xss.flatten ∧ All2 (fun (f : Field) cs => Fits P k f.type cs) fs.toList xss
    | _ => False
def plainT (P : Program) : Nat → TypeId → Bool
  | 0, _ => false
  | k + 1, t => match P.underlying t with
    | some .bool | some (.int _) | some .string => true
    | some (.slice e) => decide (e < P.types.size) && decide (0 < P.cellsOf e) && (isAggT P e || decide (P.cellsOf e = 1)) && plainT P k e
    | some (.struct fs) => decide (t < P.types.size) && fs.all fun f => plainT P k f.type
    | _ => false
theorem cell_spot {a : Addr} {v : Value} (h : w.cell? a = some v) : a.spot = none := by
  unfold World.cell? at h
  split at h
  · split at h
    · cases h
    · rename_i hs; cases hh : a.spot with
      | none => rfl
      | some x => simp [hh] at hs
  · cases h
theorem one_of_bool (b : Bool) : One (.bool b) := ⟨fun _ => by simp, fun _ => by simp⟩
theorem one_of_int (k : IntKind) (n : Int) : One (.int k n) := ⟨fun _ => by simp, fun _ => by simp⟩
theorem one_of_str (s : ByteArray) : One (.string s) := ⟨fun _ => by simp, fun _ => by simp⟩
theorem one_of_sl (a : Option Addr) (l c : Nat) : One (.slice a l c) := ⟨fun _ => by simp, fun _ => by simp⟩
theorem fields_split {R : Field → List AV → Prop} {G : Ghost} {B : DataW H → Nat} {BL : List (DataW H) → Nat} (hB : Bulk B BL) (full : List Value) (rd : Field → List Value → DataW H → Prop)
    (hrd : ∀ f cs d, rd f cs d → ∃ xs, R f xs ∧ VRels G w xs cs ∧ (∀ v ∈ cs, One v) ∧ bulkAs xs ≤ B d) : ∀ (fs : List Field) (ds : List (DataW H)) (off : Nat), ds.length = fs.length →
    (∀ (j : Nat) f, fs[j]? = some f → f.offset = off + ((fs.take j).map fun f => P.cellsOf f.type).sum) → full.length = off + (fs.map fun f => P.cellsOf f.type).sum →
    (∀ (j : Nat) f d, fs[j]? = some f → ds[j]? = some d → rd f ((full.drop f.offset).take (P.cellsOf f.type)) d) → ∃ xss, All2 R fs xss ∧ VRels G w xss.flatten (full.drop off) ∧ (∀ v ∈ full.drop off, One v) ∧ bulkAs xss.flatten ≤ BL ds
  | [], ds, off, hl, h1, h2, h3 => by
    have e : full.drop off = [] := List.drop_eq_nil_of_le (by simp at h2; omega)
    exact ⟨[], .nil, by rw [e]; exact .nil, by rw [e]; simp, by simp [bulkAs]⟩
  | f :: fs, [], off, hl, h1, h2, h3 => by cases hl
  | f :: fs, d :: ds, off, hl, h1, h2, h3 => by
    have o0 : f.offset = off := by simpa using h1 0 f rfl
    have hf := h3 0 f d rfl rfl
    rw [o0] at hf
    obtain ⟨xs, r1, r2, r3, r4⟩ := hrd f _ d hf
    obtain ⟨xss, q1, q2, q3, q4⟩ := fields_split hB full rd hrd fs ds (off + P.cellsOf f.type) (by simpa using hl) (fun j g hj => by
      have := h1 (j + 1) g (by simpa using hj)
      simp only [List.take_succ_cons, List.map_cons, List.sum_cons] at this; omega) (by simp only [List.map_cons, List.sum_cons] at h2; omega) (fun j g d' hg hd => h3 (j + 1) g d' (by simpa using hg) (by simpa using hd))
    have e : full.drop off = (full.drop off).take (P.cellsOf f.type) ++ full.drop (off + P.cellsOf f.type) := by
      rw [← List.drop_drop, List.take_append_drop]
    refine ⟨xs :: xss, .cons r1 q1, ?_, ?_, ?_⟩
    · rw [e, List.flatten_cons]; exact r2.append q2
    · rw [e]; intro v hv
      rcases List.mem_append.1 hv with hv | hv
      · exact r3 v hv
      · exact q3 v hv
    · rw [List.flatten_cons, bulkAs_append, hB.cons]; omega
theorem wrapE_rel {e : TypeId} {cs : List AV} {vs : List Value} (hs : vs.length = P.cellsOf e) (hr : VRels G0 w cs vs) (ho : ∀ v ∈ vs, One v) (hc : isAggT P e = false → P.cellsOf e = 1) :
    ∃ v : Value, v.cells.toList = vs ∧ VRel G0 w (wrapE P e cs) v := by
  unfold wrapE
  cases ha : isAggT P e with
  | true => exact ⟨.agg vs.toArray, by simp [Value.cells], by simp only [if_true, VRel]; exact ⟨vs, rfl, hr⟩⟩
  | false =>
    rw [hc ha] at hs
    obtain ⟨v, rfl⟩ := List.length_eq_one_iff.1 hs
    have hl := hr.length
    obtain ⟨x, rfl⟩ := List.length_eq_one_iff.1 (show cs.length = 1 by simpa using hl.symm)
    simp only [VRels] at hr
    obtain ⟨v', us, e1, hv, e2⟩ := hr
    cases e1
    refine ⟨v, ?_, by simpa using hv⟩
    have := ho v (by simp)
    cases v <;> first | rfl | exact absurd rfl (this.1 _) | exact absurd rfl (this.2 _)
theorem Fits.slice {k : Nat} {t e : TypeId} {ys : List AV} (ht : P.underlying t = some (.slice e)) (h1 : ys.length * P.bytesOf e ≤ reachBytes) (h2 : ∀ y ∈ ys, ∃ cs, Fits P k e cs ∧ y = wrapE P e cs) : Fits P (k + 1) t [.sl (P.cellsOf e) ys .any] := by
  unfold Fits; rw [ht]; exact ⟨ys, rfl, h1, h2⟩
theorem trod_fits (hl : laidOutB P = true) {B : DataW H → Nat} {BL : List (DataW H) → Nat} (hB : Bulk B BL) : ∀ (k : Nat) (t : TypeId), plainT P k t = true → ∀ (fuel : Nat) (cs : List Value) (x : DataW H × List MemPlace),
    DataW.trod enc P w 0 (fun _ => true) true fuel t cs = some x → (∀ n ∈ x.1.weights P t, n ≤ reachBytes) → ∃ xs, Fits P k t xs ∧ VRels G0 w xs cs ∧ (∀ v ∈ cs, One v) ∧ bulkAs xs ≤ B x.1 := by
  intro k
  induction k with
  | zero => intro t h; cases h
  | succ k ih =>
    intro t hp fuel cs x hx hwt
    simp only [plainT] at hp
    split at hp
    · rename_i ht
      obtain ⟨b, rfl, rfl⟩ := DataW.trod_bool ht hx
      exact ⟨[.bool b], by simp only [Fits, ht]; exact ⟨b, rfl⟩, .cons (by simp [VRel]) .nil, by simp [one_of_bool], by simp [hB.bool, bulkAs, bulkA]⟩
    · rename_i q ht
      obtain ⟨n, rfl, rfl, hw⟩ := DataW.trod_int ht hx
      exact ⟨[.int q n], by simp only [Fits, ht]; exact ⟨n, rfl, hw⟩, .cons (by simp [VRel]) .nil, by simp [one_of_int], by simp [hB.int, bulkAs, bulkA]⟩
    · rename_i ht
      obtain ⟨s, rfl, rfl, -⟩ := DataW.trod_string ht hx
      refine ⟨[.str s.data.toList], by simp only [Fits, ht]; exact ⟨_, rfl, hwt _ (by simp [DataW.weights])⟩, .cons (by simp [VRel]) .nil, by simp [one_of_str], by simp [hB.str, bulkAs, bulkA]⟩
    · rename_i e ht
      simp only [Bool.and_eq_true, decide_eq_true_eq] at hp
      obtain ⟨⟨⟨-, hsz⟩, hag⟩, hpe⟩ := hp
      rcases DataW.trod_slice ht hx with ⟨rfl, rfl⟩ | ⟨a, len, cap, elems, rest, n, rfl, rfl, rfl, hb, hlc, hcm, hel, hread, hrest, -⟩
      · refine ⟨[.sl (P.cellsOf e) [] .any], Fits.slice ht (by simp) (fun y hy => by cases hy), .cons ?_ .nil, by simp [one_of_sl], by simp [hB.nil, bulkAs, bulkA]⟩
        unfold VRel; exact .inl ⟨rfl, ⟨none, rfl⟩, trivial⟩
      · have hone : isAggT P e = false → P.cellsOf e = 1 := by
          intro ha
          simpa [ha] using hag
        -- the cells of each element
        have each : ∀ i, i < len → ∃ vs xs, w.cells? 0 (a.add (i * P.cellsOf e)) (P.cellsOf e) = some vs ∧ Fits P k e xs ∧ VRels G0 w xs vs ∧ (∀ v ∈ vs, One v) ∧ ∀ y, elems[i]? = some y → bulkAs xs ≤ B y.1 := by
          intro i hi
          have h := hread i hi
          rw [List.getElem?_eq_getElem (by omega)] at h
          obtain ⟨vs, h1, h2⟩ := Option.bind_eq_some_iff.1 h
          obtain ⟨xs, h3, h4, h5, h6⟩ := ih e hpe n vs _ h2 (fun m hm => hwt m (by
            simp only [DataW.weights, ht, List.mem_cons, List.mem_append]
            exact .inr (.inl (weights_mem_all (List.mem_map.2 ⟨_, List.getElem_mem (by omega), rfl⟩) hm))))
          exact ⟨vs, xs, h1, h3, h4, h5, fun y hy => by rw [List.getElem?_eq_getElem (by omega)] at hy; cases hy; exact h6⟩
        have build : ∀ m, m ≤ len → ∃ ys vs, ys.length = m ∧ vs.length = m * P.cellsOf e ∧ (∀ y ∈ ys, ∃ cs, Fits P k e cs ∧ y = wrapE P e cs) ∧ VElems G0 w (P.cellsOf e) ys vs ∧ (∀ (i : Nat) v, vs[i]? = some v → w.cell? (a.add i) = some v ∧ One v) ∧ bulkAs ys ≤ BL ((elems.map (·.1)).take m) := by
          intro m
          induction m with
          | zero => intro _; exact ⟨[], [], rfl, by simp, by simp, by simp [VElems], by simp, by simp [bulkAs]⟩
          | succ m ihm =>
            intro hm
            obtain ⟨ys, vs, k1, k2, k3, k4, k5, k6⟩ := ihm (by omega)
            obtain ⟨us, xs, e1, e2, e3, e4, eb⟩ := each m (by omega)
            obtain ⟨-, e5, e6⟩ := World.cells?_some e1
            obtain ⟨v, hv1, hv2⟩ := wrapE_rel e5 e3 e4 hone
            refine ⟨ys ++ [wrapE P e xs], vs ++ us, by simp [k1], by simp [k2, e5, Nat.add_mul], ?_, ?_, ?_, ?_⟩
            · intro y hy
              rcases List.mem_append.1 hy with hy | hy
              · exact k3 y hy
              · simp at hy; exact ⟨xs, e2, hy⟩
            · refine k4.append ?_
              simp only [VElems]
              exact ⟨v, [], by simp [hv1], by rw [← Array.length_toList, hv1, e5], hv2, rfl⟩
            · intro i z hz
              rcases Nat.lt_or_ge i vs.length with hi | hi
              · rw [List.getElem?_append_left hi] at hz; exact k5 i z hz
              · rw [List.getElem?_append_right hi] at hz
                have hlt : i - vs.length < us.length := (List.getElem?_eq_some_iff.1 hz).1
                have := e6 (i - vs.length) (by omega)
                rw [hz] at this
                have ea : (a.add (m * P.cellsOf e)).add (i - vs.length) = a.add i := by
                  rw [← k2]
                  unfold Addr.add
                  by_cases h0 : vs.length = 0
                  · simp [h0]
                  · by_cases h1 : i - vs.length = 0
                    · have : i = vs.length := by omega
                      subst this; simp
                    · have : i ≠ 0 := by omega
                      simp [h0, h1, this]; omega
                rw [ea] at this
                exact ⟨this, e4 z (List.mem_of_getElem? hz)⟩
            · have hlt : m < (elems.map (·.1)).length := by simp; omega
              rw [List.take_succ_eq_append_getElem hlt, hB.snoc, bulkAs_append]
              have h1 := eb _ (List.getElem?_eq_getElem (by omega))
              have h2 := bulk_wrap P e xs
              simp only [List.getElem_map, bulkAs]
              omega
        obtain ⟨ys, vs, k1, k2, k3, k4, k5, k6⟩ := build len (Nat.le_refl _)
        refine ⟨[.sl (P.cellsOf e) ys .any], Fits.slice ht ?_ k3, .cons ?_ .nil, by simp [one_of_sl], ?_⟩
        · have := hwt ((elems.length + rest.length) * P.bytesOf e) (by simp [DataW.weights, ht])
          exact Nat.le_trans (Nat.mul_le_mul_right _ (by omega)) this
        rotate_left
        · have := hB.take (elems.map (·.1)) len
          simp only [hB.slice, bulkAs, bulkA]
          omega
        unfold VRel
        by_cases hcap : cap = 0
        · have : ys = [] := List.length_eq_zero_iff.1 (by omega)
          exact .inl ⟨this, ⟨some a, by simp; omega⟩, by simp [CapNil]⟩
        · have hspot : a.spot = none := by
            by_cases hl0 : len = 0
            · obtain ⟨hr1, hr2⟩ := hrest rfl
              have h := hr2 0 (by omega)
              rw [List.getElem?_eq_getElem (by omega)] at h
              obtain ⟨vs', h1, h2⟩ := Option.bind_eq_some_iff.1 h
              obtain ⟨-, g1, g2⟩ := World.cells?_some h1
              have := g2 0 hsz
              rw [List.getElem?_eq_getElem (by omega)] at this
              have := cell_spot this
              simpa [hl0, Addr.add] using this
            · obtain ⟨us, xs, e1, e2, e3, e4, -⟩ := each 0 (by omega)
              obtain ⟨-, g1, g2⟩ := World.cells?_some e1
              have := g2 0 hsz
              rw [List.getElem?_eq_getElem (by omega)] at this
              have := cell_spot this
              simpa [Addr.add] using this
          obtain ⟨B, off, sp⟩ := a
          simp only at hspot
          subst hspot
          refine .inr ⟨B, off, cap, vs, by simp [k1], by omega, by rw [k2, k1], k4, fun i v hv => ?_, by simp [CapOk]⟩
          obtain ⟨c1, c2⟩ := k5 i v hv
          rw [add_plain] at c1
          exact ⟨c1, c2, by simp [G0], by simp [G0]⟩
    · rename_i fs ht
      simp only [Bool.and_eq_true, decide_eq_true_eq] at hp
      obtain ⟨hlt, hp⟩ := hp
      rw [Array.all_eq_true_iff_forall_mem] at hp
      obtain ⟨xs, n, rfl, rfl, hlen, hxl, hread⟩ := DataW.trod_struct ht hx
      obtain ⟨-, hsum, hoff⟩ := kid_struct hl hlt ht
      obtain ⟨xss, q1, q2, q3, q4⟩ := fields_split (P := P) (R := fun (f : Field) cs => Fits P k f.type cs) (G := G0) (w := w) hB cs
        (fun f us d => plainT P k f.type = true ∧ ∃ y, DataW.trod enc P w 0 (fun _ => true) true n f.type us = some y ∧ y.1 = d ∧ ∀ m ∈ d.weights P f.type, m ≤ reachBytes)
        (fun f us d ⟨h1, y, h2, h3, h4⟩ => by subst h3; exact ih f.type h1 n us y h2 h4) fs.toList (xs.map (·.1)) 0 (by simp [hxl]) (fun j f hj => by rw [hoff j f hj]; omega) (by rw [hlen, hsum]; omega)
        (fun i f d hi hd => by
          refine ⟨hp f (by have := List.mem_of_getElem? hi; simpa using this), ?_⟩
          have h := hread i f (by simpa using hi)
          rw [List.getElem?_map] at hd
          cases hxi : xs[i]? with
          | none => rw [hxi] at hd; cases hd
          | some y =>
            rw [hxi] at h hd
            refine ⟨y, h, by simpa using hd, fun m hm => hwt m ?_⟩
            simp only [DataW.weights, ht]
            exact DataW.weights_mem_each (j := i) (t := f.type) (d := d) (by rw [List.getElem?_map, hi]; rfl) (by rw [List.getElem?_map, hxi]; exact hd) m hm)
      refine ⟨xss.flatten, by simp only [Fits, ht]; exact ⟨xss, rfl, q1⟩, by simpa using q2, by simpa using q3, ?_⟩
      rw [hB.agg]; omega
    · cases hp
def ArgFits (P : Program) (k : Nat) (t : TypeId) (a : AV) : Prop := ∃ cs, Fits P k t cs ∧ a = wrapE P t cs
theorem arg_rel {k : Nat} {t : TypeId} {v : Value} {xs : List AV} {base : Nat} (hp : plainT P k t = true) (hok : Value.okWide P w .any base t v) (hr : VRels G0 w xs v.cells.toList) (ho : ∀ u ∈ v.cells.toList, One u) : VRel G0 w (wrapE P t xs) v := by
  unfold wrapE
  cases ha : isAggT P t with
  | true =>
    have : ∃ cs, v = .agg cs := by
      unfold isAggT at ha
      unfold Value.okWide at hok
      split at ha
      · rename_i h; rw [h] at hok; obtain ⟨cs, h, -⟩ := hok; exact ⟨cs, h⟩
      · rename_i h; rw [h] at hok; obtain ⟨cs, h, -⟩ := hok; exact ⟨cs, h⟩
      · cases ha
    obtain ⟨cs, rfl⟩ := this
    simp only [if_true, VRel]
    exact ⟨cs.toList, by simp, by simpa [Value.cells] using hr⟩
  | false =>
    have hv : v.cells = #[v] := by
      cases v <;> try rfl
      exfalso
      cases k with
      | zero => cases hp
      | succ k =>
        unfold plainT at hp
        unfold isAggT at ha
        unfold Value.okWide Cell.okWide Cell.ok at hok
        split at hp
        all_goals (try (rename_i h; rw [h] at hok ha; simp at hok ha; done))
        all_goals (try (rename_i h; rw [h] at hok ha; simp at hok; done))
        all_goals simp_all
    rw [hv] at hr
    have hl := hr.length
    obtain ⟨x, rfl⟩ := List.length_eq_one_iff.1 (show xs.length = 1 by simpa using hl.symm)
    simp only [VRels] at hr
    obtain ⟨v', us, e1, hx, e2⟩ := hr
    cases e1
    simpa using hx
theorem args_fit (hl : laidOutB P = true) {B : DataW H → Nat} {BL : List (DataW H) → Nat} (hB : Bulk B BL) {k : Nat} {base : Nat} : ∀ {ts us : List TypeId} {vs : List Value} {ds : List (DataW H)} {ps : List MemPlace}, (∀ t ∈ ts, plainT P k t = true) →
    (∀ (j : Nat) t v, ts[j]? = some t → vs[j]? = some v → Value.okWide P w .any base t v) → (∀ n ∈ DataW.weightsEach P (ts ++ us) ds, n ≤ reachBytes) → DataW.TrodAll enc P w 0 (fun _ => true) true ts vs ds ps → ∃ avs, All2 (ArgFits P k) ts avs ∧ VRels G0 w avs vs ∧ bulkAs avs ≤ BL ds
  | [], us, [], [], _, _, _, _, _ => ⟨[], .nil, .nil, by simp [bulkAs]⟩
  | t :: ts, us, v :: vs, d :: ds, _, hp, hok, hwt, ⟨p, q, ⟨fuel, h1⟩, h2, _⟩ => by
    obtain ⟨xs, f1, f2, f3, f4⟩ := trod_fits hl hB k t (hp t (by simp)) fuel _ _ h1 (fun n hn => hwt n (by simp only [List.cons_append, DataW.weightsEach, List.mem_append]; exact .inl hn))
    obtain ⟨avs, g1, g2, g3⟩ := args_fit hl hB (us := us) (fun t ht => hp t (by simp [ht])) (fun j t v a b => hok (j + 1) t v (by simpa using a) (by simpa using b)) (fun n hn => hwt n (by simp only [List.cons_append, DataW.weightsEach, List.mem_append]; exact .inr hn)) h2
    refine ⟨wrapE P t xs :: avs, .cons ⟨xs, f1, rfl⟩ g1, .cons (arg_rel (hp t (by simp)) (hok 0 t v rfl rfl) f2 f3) g2, ?_⟩
    have := bulk_wrap P t xs
    simp only [bulkAs, hB.cons] at f4 ⊢
    omega
theorem trodAll_len {sp : Nat → Bool} : ∀ {ts : List TypeId} {vs : List Value} {ds : List (DataW H)} {ps : List MemPlace}, DataW.TrodAll enc P w 0 sp true ts vs ds ps → ds.length = ts.length
  | [], [], [], _, h => rfl
  | t :: ts, v :: vs, d :: ds, _, ⟨p, q, h1, h2, e⟩ => by simp [trodAll_len h2]
theorem trodAll_carry {w' : World} {sp : Nat → Bool} : ∀ {ts : List TypeId} {vs : List Value} {ds : List (DataW H)} {ps : List MemPlace}, DataW.TrodAll enc P w 0 sp true ts vs ds ps → (∀ p ∈ ps, w.sameAt w' p) → DataW.TrodAll enc P w' 0 sp true ts vs ds ps
  | [], [], [], _, h, _ => h
  | t :: ts, v :: vs, d :: ds, _, ⟨p, q, ⟨fuel, h1⟩, h2, e⟩, hs => by
    subst e
    exact ⟨p, q, ⟨fuel, DataW.trod_carry fuel _ _ _ h1 (fun x hx => hs x (List.mem_append_left _ hx))⟩, trodAll_carry h2 (fun x hx => hs x (List.mem_append_right _ hx)), rfl⟩
theorem calls_row (hl : laidOutB P = true) {B : DataW H → Nat} {BL : List (DataW H) → Nat} (hB : Bulk B BL) (hm : mapsRowed P = true) (hz : ∀ t e, t < P.types.size → P.underlying t = some (.slice e) → 0 < P.cellsOf e) {f : FuncId} {fn : Func} {s : ChangeSpec} {k base : Nat} {W : World} {args : Array Value} {ds gs : List (DataW H)} {before : List MemPlace} {tb : TypeId}
    (hvars : s.vars = []) (hfn : ∀ l : List (DataW H), l.length = fn.params.size → s.fn H l = { results := [.lit (.bool true)], args := l }) (hrt : fn.resultTypes = #[tb]) (htb : P.underlying tb = some .bool)
    (hpl' : fn.params.toList.all (plainT P k) = true) (hlt' : fn.params.toList.all (fun t => decide (t < P.types.size)) = true)
    (hval : ∀ (j : Nat) t v, fn.params[j]? = some t → args[j]? = some v → Value.okWide P W .any base t v) (hW : DataW.Whole enc P fn.params.toList s.vars false W args.toList ds gs before)
    {us : List TypeId} (hwt : (DataW.weightsEach P (fn.params.toList ++ us) (ds ++ gs)).all (· ≤ reachBytes) = true)
    (law : ∀ avs, All2 (ArgFits P k) fn.params.toList avs → bulkAs avs ≤ BL (ds ++ gs) → PCalls P f avs (.bool true)) :
    Calls P f args W fun e W' => ∃ v, e = .returned v ∧ s.post enc P fn false true false false W args v W' := by
  have hpl : ∀ t ∈ fn.params.toList, plainT P k t = true := List.all_eq_true.1 hpl'
  have hlt : ∀ t ∈ fn.params.toList, t < P.types.size := fun t ht => of_decide_eq_true (List.all_eq_true.1 hlt' t ht)
  have hW' := hW
  obtain ⟨p, q, hA, hV, rfl, -, -⟩ := hW
  rw [hvars] at hV
  obtain ⟨rfl, rfl⟩ := trodVars_none hV
  rw [List.append_nil] at hwt law
  obtain ⟨avs, g1, g2, g3⟩ := args_fit hl hB hpl (fun j t v a b => hval j t v (by simpa using a) (by simpa using b)) (fun n hn => of_decide_eq_true (List.all_eq_true.1 hwt n hn)) hA
  have hlaw := law avs g1 g3 0 0 G0 W args.toList g2 only_rep ⟨fun _ _ _ h => h, fun _ _ _ h => h⟩
  rw [show args.toList.toArray = args from Array.toArray_toList] at hlaw
  refine hlaw.mono ?_
  rintro e W' ⟨v, G', he, T, -, hv⟩
  subst he
  simp only [VRel] at hv
  subst hv
  have keep : ∀ B, B < W.heap.size → W'.heap[B]? = W.heap[B]? := fun B hB => T.keep B hB (fun x => only_O B x) (fun ⟨t, ht, _⟩ => by simp [H0, Av.H.only] at ht)
  have hlt' : ∀ x ∈ p, x.block < W.heap.size := DataW.TrodAll.lt hA
  have hlen := trodAll_len hA
  refine ⟨_, rfl, ds, [], p ++ [], [], p, [], hW', ?_, ?_, ?_, ?_, fun h => by cases h⟩
  · rw [hfn _ (by simpa using hlen), hrt]
    exact trodAll_mk1 (shut_bool htb _)
  · rw [hfn _ (by simpa using hlen)]
    have := DataW.TrodAll.respare (kids_rows hl hm) hz (spare' := fun b => decide (b < W.heap.size)) hlt hA (fun x hx => by simpa using hlt' x hx)
    simp only [List.append_nil]
    refine trodAll_carry this fun x hx => ?_
    have hb := hlt' x hx
    cases x with
    | cell b off => unfold World.sameAt World.cell?; simp only; rw [keep b hb]
    | map b => exact keep b hb
  · rw [hvars, hfn _ (by simpa using hlen)]
    rfl
  · refine ⟨T.os, T.output, fun i hi => ?_⟩
    rw [keep i hi]
    generalize W.heap[i]? = o
    cases o with
    | none => rfl
    | some o => cases o <;> simp
end
end Go.Av
end
section
set_option linter.unusedSimpArgs false
set_option linter.unusedVariables false
set_option maxRecDepth 100000
namespace Go.Proofs.Ytpehfflehebmbaa.Reads
open Go Go.Av Go.Proofs Go.Proofs.Ytpehfflehebmbaa.C
theorem laid : laidOutB Try.prog = true := by kernel_rfl
theorem rowed : mapsRowed Try.prog = true := by kernel_rfl
theorem full : ∀ t e, t < Try.prog.types.size → Try.prog.underlying t = some (.slice e) → 0 < Try.prog.cellsOf e := slices_full_of Try.prog (by kernel_rfl)
theorem own : ownKnob Try.prog.godebug = none := by kernel_rfl
theorem bulk {H : Type} : Bulk (H := H) Rows.uptoBulk Rows.uptoBulkAll :=
  ⟨fun l => by simp [Rows.uptoBulk], fun k n => by simp [Rows.uptoBulk], fun b => by simp [Rows.uptoBulk], by simp [Rows.uptoBulk], fun a b => by simp [Rows.uptoBulk], fun a => by simp [Rows.uptoBulk], by simp [Rows.uptoBulkAll], fun d l => by simp [Rows.uptoBulkAll]⟩
theorem all_strs {k : Nat} {t : TypeId} (ht : Try.prog.underlying t = some .string) (ha : isAggT Try.prog t = false) : ∀ {ys : List AV}, (∀ y ∈ ys, ∃ cs, Fits Try.prog (k + 1) t cs ∧ y = wrapE Try.prog t cs) → ∃ l : List (List UInt8), ys = strs l ∧ ∀ s ∈ l, s.length ≤ reachBytes
  | [], _ => ⟨[], rfl, by simp⟩
  | y :: ys, h => by
    obtain ⟨l, rfl, hl⟩ := all_strs ht ha (ys := ys) (fun z hz => h z (by simp [hz]))
    obtain ⟨cs, h1, h2⟩ := h y (by simp)
    unfold Fits at h1
    rw [ht] at h1
    obtain ⟨s, rfl, hs⟩ := h1
    refine ⟨s :: l, by simp [strs, h2, wrapE, ha], fun z hz => ?_⟩
    rcases List.mem_cons.1 hz with rfl | hz
    · exact hs
    · exact hl z hz
theorem open_i {a : AV} (h : ArgFits Try.prog 5 3 a) : ∃ n, a = .int .i64 n ∧ (Lit.int .i64 n).wf = true := by
  obtain ⟨cs, h, rfl⟩ := h
  unfold Fits at h
  rw [Try.underlying3] at h
  obtain ⟨l, rfl, hl⟩ := h
  refine ⟨l, ?_, hl⟩
  unfold wrapE; rw [if_neg (by rw [show isAggT Try.prog 3 = false by kernel_rfl]; simp)]; rfl
theorem all_of {α : Type} {t : TypeId} {k : Nat} {enc : α → AV} {Q : α → Prop} (h1 : ∀ cs, Fits Try.prog k t cs → ∃ x, wrapE Try.prog t cs = enc x ∧ Q x) : ∀ {ys : List AV}, (∀ y ∈ ys, ∃ cs, Fits Try.prog k t cs ∧ y = wrapE Try.prog t cs) → ∃ l : List α, ys = l.map enc ∧ ∀ x ∈ l, Q x
  | [], _ => ⟨[], rfl, by simp⟩
  | y :: ys, h => by
    obtain ⟨l, rfl, hl⟩ := all_of h1 (ys := ys) (fun z hz => h z (by simp [hz]))
    obtain ⟨cs, g1, g2⟩ := h y (by simp)
    obtain ⟨x, e, q⟩ := h1 cs g1
    refine ⟨x :: l, by simp [g2, e], fun z hz => ?_⟩
    rcases List.mem_cons.1 hz with rfl | hz
    · exact q
    · exact hl z hz
def SpOk (p : Sp) : Prop := p.f.length ≤ reachBytes ∧ p.t.length ≤ reachBytes
theorem span_fits {k : Nat} {cs : List AV} (h : Fits Try.prog (k + 2) 94 cs) : ∃ p : Sp, wrapE Try.prog 94 cs = encSp p ∧ SpOk p := by
  have hw : ∀ cs, wrapE Try.prog 94 cs = .agg cs := fun cs => by
    unfold wrapE; rw [if_pos (by kernel_rfl)]
  rw [hw]
  unfold Fits at h
  rw [Try.underlying94] at h
  obtain ⟨xss, rfl, h⟩ := h
  cases h with | cons h0 h => cases h with | cons h1 h =>
  cases h
  unfold Fits at h0 h1
  simp only at h0 h1
  rw [Try.underlying9] at h0 h1
  obtain ⟨s, rfl, hs⟩ := h0
  obtain ⟨v, rfl, hv⟩ := h1
  exact ⟨⟨s, v⟩, rfl, hs, hv⟩
theorem open_reads {a : AV} (h : ArgFits Try.prog 5 75 a) : ∃ (k : List Bs) (l : List Sp), a = encR k l ∧ (∀ s ∈ k, s.length ≤ reachBytes) ∧ (∀ s ∈ l, SpOk s) := by
  obtain ⟨cs, h, rfl⟩ := h
  have hw : ∀ cs, wrapE Try.prog 75 cs = .agg cs := fun cs => by
    unfold wrapE; rw [if_pos (by kernel_rfl)]
  rw [hw]
  unfold Fits at h
  rw [Try.underlying75] at h
  obtain ⟨xss, rfl, h⟩ := h
  cases h with | cons h0 h => cases h with | cons h1 h =>
  cases h
  unfold Fits at h0 h1
  simp only at h0 h1
  rw [Try.underlying37] at h0
  rw [Try.underlying73] at h1
  obtain ⟨xs, rfl, hlx, hx⟩ := h0
  obtain ⟨ys, rfl, hl, he⟩ := h1
  obtain ⟨k, rfl, hk⟩ := all_strs Try.underlying9 (by kernel_rfl) hx
  obtain ⟨l, rfl, hq⟩ := all_of (fun cs h => span_fits h) he
  have c1 : Try.prog.cellsOf 94 = 2 := by kernel_rfl
  have c2 : Try.prog.cellsOf 9 = 1 := by kernel_rfl
  refine ⟨k, l, ?_, hk, hq⟩
  simp [encR, sps, c1, c2]
end Go.Proofs.Ytpehfflehebmbaa.Reads
end
section
set_option linter.unusedSimpArgs false
set_option linter.unusedVariables false
set_option maxRecDepth 10000
namespace Go.Proofs.Ytpehfflehebmbaa.Reads
open Go Go.Av Go.Proofs Go.Proofs.Ytpehfflehebmbaa.C Go.Proofs.Ytpehfflehebmbaa.Batch
structure Right (k : List Bs) (l : List Sp) (n : Nat) : Prop where
  nf : NF l
  rise : Rise k
  un : ∀ x ∈ k, spanned l x = false
  kn : k.length ≤ n
  ln : l.length ≤ n
end Go.Proofs.Ytpehfflehebmbaa.Reads
end
section
set_option linter.unusedSimpArgs false
set_option linter.unusedVariables false
set_option maxRecDepth 10000
namespace Go.Proofs.Ytpehfflehebmbaa.Reads
open Go Go.Av Go.Proofs Go.Proofs.Ytpehfflehebmbaa.C Go.Proofs.Ytpehfflehebmbaa.Batch
def LsS (l : List Sp) : Prop := ∀ i, Ls (l.getD i default).f ∧ Ls (l.getD i default).t
def LsK (k : List Bs) : Prop := ∀ i, Ls (k.getD i [])
theorem ls_nil : Ls [] := by unfold Ls; simp
theorem LsS.of {l : List Sp} (h : ∀ s ∈ l, Ls s.f ∧ Ls s.t) : LsS l := by
  intro i
  by_cases hi : i < l.length
  · rw [getD_el hi]; exact h _ (List.getElem_mem hi)
  · rw [List.getD_eq_getElem?_getD, List.getElem?_eq_none (by omega)]; exact ⟨ls_nil, ls_nil⟩
theorem LsK.of {k : List Bs} (h : ∀ s ∈ k, Ls s) : LsK k := by
  intro i
  by_cases hi : i < k.length
  · rw [getD_el hi]; exact h _ (List.getElem_mem hi)
  · rw [List.getD_eq_getElem?_getD, List.getElem?_eq_none (by omega)]; exact ls_nil
end Go.Proofs.Ytpehfflehebmbaa.Reads
end
section
set_option linter.unusedVariables false
set_option linter.unusedSimpArgs false
namespace Go.Av
section
variable {P : Program} {N : Nat}
def YCalls (P : Program) (id : Nat) (args : List AV) (h : H) (r : AV) (h' : H) : Prop :=
  ∀ G w vs, G.dom id → VRels G w args vs → RepH G h w → Fresh G h h' → YieldAt Fence.wide 0 P (G.ι id) vs.toArray w fun e w' => ∃ v G', e = .returned v ∧ Trans G w h G' w' h' ∧ RepH G' h' w' ∧ VRel G' w' r v
theorem roundIn_rd {ro : Option Nat} {n l : Nat} {f : FuncId} {tmps : Array Value} {assign body : Code} {w : World} {R : Ending → World → Prop} (h : RoundIn Fence.wide n P l f tmps assign body w R) : RoundIn (rd ro) n P l f tmps assign body w R := h
theorem itrun_yield {ops : Array Oper} {i : Nat} {o : Oper} {it : AItem} {t : Tm} {id : Nat} {y : Opd} {l : List Opd} {vals : List AV} {h1 h1' : H} {r : AV} (ho : ops[i]? = some o) (hit : cItem P N ops o = some it) (hg : guardOf t it.guard = some true) (hop : it.op = .callv y l)
    (hy : ev t y = .yld id) (hs : VSubs (l.map (ev t)) vals) (hc : YCalls P id vals h1 r h1') : ItRun P ops i o t h1 r h1' := by
  unfold cItem at hit
  split at hit
  · rename_i op g hcop hgd
    split at hit <;> cases hit
    rename_i hcond
    simp only [Bool.and_eq_true] at hcond
    simp only at hop
    subst hop
    have hcop := cOpD_of hcop (by simp)
    obtain ⟨c, z, e1, e2, e3, e4⟩ := cOp_callv hcop
    intro G w a ht R F K Q hK ro
    unfold wpOpIn
    rw [ho]
    simp only [guard_wanted hgd ht hg, if_true]
    have rr := opds_rel (P := P) (cut_rel ht) e4
    have rz := opd_rel (P := P) e3 (cut_rel ht)
    have hcut := cut_ev (t := t) hcond.2
    have el : l.map (ev (cutTo (names ops o) t)) = l.map (ev t) := List.map_congr_left fun x hx => hcut x (by simp [opdsOf, hx])
    rw [el] at rr
    rw [hcut y (by simp [opdsOf]), hy] at rz
    simp only [VRel] at rz
    obtain ⟨rdom, rz⟩ := rz
    refine ⟨fun _ _ => trivial, ?_⟩
    obtain ⟨fn, tmps, asg, body, q1, q2⟩ := hc G w _ rdom (hs G w _ rr) R F
    have hargs : (c.args.map a.eval) = (c.args.toList.map a.eval).toArray := by cases c.args; simp
    have hrun : (execOp a.eval o).run P w = .ok (.round (G.ι id) fn tmps asg body) w := by
      simp [execOp, e1, resolve, e2, rz, Deferred.ofValue, invoke, hargs]
      exact q1
    rw [Oper.semAt_eq _ _ _ (cOp_plain hcop), hrun, Oper.uponIn_round]
    refine ⟨fun h => by simp [rd, Fence.wide] at h, roundIn_rd (q2.mono ?_)⟩
    rintro e w' ⟨v, G', rfl, T, R', V⟩
    exact hK G' w' v T R' V
  · cases hit
def putPs (t : Tm) : List Nat → List AV → Tm
  | p :: ps, x :: xs => putPs (upd t p x) ps xs
  | _, _ => t
theorem putPs_rel {G : Ghost} {w : World} : ∀ {ps : List Nat} {xs : List AV} {vs : List Value} {t : Tm} {tmps : Array Value}, VRels G w xs vs → (∀ p ∈ ps, p < tmps.size) → (∀ i, VRel G w (t i) (tmps.getD i undef)) →
    (∀ i, VRel G w (putPs t ps xs i) (((ps.zip vs).foldl (fun tm (p : Nat × Value) => tm.setIfInBounds p.1 p.2) tmps).getD i undef)) ∧ ((ps.zip vs).foldl (fun tm (p : Nat × Value) => tm.setIfInBounds p.1 p.2) tmps).size = tmps.size
  | [], xs, vs, t, tmps, _, _, h => by simpa [putPs] using h
  | p :: ps, [], vs, t, tmps, hv, _, h => by
    simp only [VRels] at hv; subst hv
    simpa [putPs] using h
  | p :: ps, x :: xs, vs, t, tmps, hv, hp, h => by
    simp only [VRels] at hv
    obtain ⟨v, us, rfl, h1, h2⟩ := hv
    have hk := hp p (by simp)
    have := putPs_rel (ps := ps) (t := upd t p x) (tmps := tmps.setIfInBounds p v) h2 (fun q hq => by simpa using hp q (by simp [hq])) (fun i => by
      simp only [upd]
      by_cases e : i = p
      · subst e; simp [Array.getElem?_setIfInBounds, hk]; exact h1
      · have e2 : (tmps.setIfInBounds p v).getD i undef = tmps.getD i undef := by simp [Array.getElem?_setIfInBounds, Ne.symm e]
        rw [if_neg e, e2]; exact h i)
    simp only [putPs, List.zip_cons_cons, List.foldl_cons]
    exact ⟨this.1, by rw [this.2]; simp⟩
inductive RoundEnd : AExit → Bool → LoopState → Option Code → Prop where
  | normal : RoundEnd .normal true .ready none
  | ret : RoundEnd .ret false .done (some .ret)
  | exit (i : Nat) : RoundEnd (.exit i) false .done (some (.exit i))
  | goto (l : Nat) : RoundEnd (.goto l) false .done (some (.goto l))
theorem loop_turn {G : Ghost} {w : World} {f : Objs} {n m id M : Nat} {T : List Nat} {t : Nat → AV} {ps : List Nat} {asg body : Code} {st : LoopState} {pend : Option Code} (R : RepH G ⟨f, n, T, m⟩ w) (ho : f id = some (.loop M t ps asg body st pend)) {r : Loop}
    (hr : w.heap[G.ι id]? = some (.loop r)) (st' : LoopState) (pend' : Option Code) :
    Trans G w ⟨f, n, T, m⟩ G (w.putObj (G.ι id) (.loop { r with state := st', pending := pend' })) ⟨upd f id (some (.loop M t ps asg body st' pend')), n, T, m⟩ ∧
    RepH G ⟨upd f id (some (.loop M t ps asg body st' pend')), n, T, m⟩ (w.putObj (G.ι id) (.loop { r with state := st', pending := pend' })) := by
  obtain ⟨d1, d2, d3, r0, e0, d4⟩ := R.obj id _ ho
  have hrr : r0 = r := by
    have := hr
    rw [e0] at this
    cases this; rfl
  subst hrr
  have tu : Turned (G.ι id) w (w.putObj (G.ι id) (.loop { r0 with state := st', pending := pend' })) :=
    ⟨by simp, fun B hB => World.putObj_heap_other hB, fun c T fr e => absurd (hr.symm.trans e) (by simp), rfl, rfl⟩
  have hO : ∀ B, H.O ⟨f, n, T, m⟩ G B ↔ H.O ⟨upd f id (some (.loop M t ps asg body st' pend')), n, T, m⟩ G B := by
    intro B
    constructor
    · rintro ⟨j, o, h1, h2⟩
      by_cases e : j = id
      · exact ⟨id, .loop M t ps asg body st' pend', by simp [upd], by rw [← h2, e]⟩
      · exact ⟨j, o, by simpa [upd, e] using h1, h2⟩
    · rintro ⟨j, o, h1, h2⟩
      by_cases e : j = id
      · exact ⟨id, _, ho, by rw [← h2, e]⟩
      · exact ⟨j, o, by simpa [upd, e] using h1, h2⟩
  have hne : ∀ B, ¬ H.O ⟨f, n, T, m⟩ G B → B ≠ G.ι id := fun B h e => h ⟨id, _, ho, e.symm⟩
  have Tr : Trans G w ⟨f, n, T, m⟩ G (w.putObj (G.ι id) (.loop { r0 with state := st', pending := pend' })) ⟨upd f id (some (.loop M t ps asg body st' pend')), n, T, m⟩ := by
    constructor
    · exact fun _ x => x
    · exact fun _ => .inl
    · exact fun _ _ => rfl
    · exact fun _ x => x
    · exact fun _ => .inl
    · exact fun _ _ => rfl
    · exact Nat.le_refl _
    · exact Nat.le_refl _
    · rw [tu.size]; exact Nat.le_refl _
    · exact tu.os
    · exact tu.out
    · intro B hB
      by_cases e : B = G.ι id
      · subst e
        rw [hr, World.putObj_heap_same d3]
        exact ⟨_, rfl⟩
      · rw [tu.same B e]; exact SameForm.refl _
    · exact fun B hB h1 _ => tu.same B (hne B h1)
    · exact fun _ _ _ => Iff.rfl
    · exact fun _ _ _ _ => rfl
    · intro B hB h1 h2 e he
      refine ⟨fun j hj => ?_, fun e' he' => by rw [he] at he'; cases he'; exact Nat.le_refl _⟩
      have := tu.same B (hne B h2)
      unfold World.cell?
      simp only [this]
    · exact fun B _ h => (hO B).2 h
    · exact fun B _ h => h
    · intro j o h
      by_cases e : j = id
      · exact .inl ⟨_, by rw [e]; exact ho⟩
      · exact .inl ⟨o, by simpa [upd, e] using h⟩
    · exact fun _ => .inl
  refine ⟨Tr, ⟨fun j o hj => ?_, fun i j o o' h1 h2 => ?_, fun t ht => ⟨(R.tok t ht).1, fun B e he => by rw [tu.size]; exact (R.tok t ht).2 B e he⟩, R.tinj⟩⟩
  · by_cases e : j = id
    · subst e
      have : o = .loop M t ps asg body st' pend' := by simpa [upd] using hj.symm
      subst this
      refine ⟨d1, d2, by rw [tu.size]; exact d3, _, World.putObj_heap_same d3, d4.1, fun i => VRel.turn tu _ _ (d4.2.1 i), d4.2.2.1, d4.2.2.2.1, d4.2.2.2.2.1, rfl, rfl⟩
    · have hj' : f j = some o := by simpa [upd, e] using hj
      obtain ⟨a1, a2, a3, a4⟩ := R.obj j o hj'
      refine ⟨a1, a2, by rw [tu.size]; exact a3, ?_⟩
      have hb : G.ι j ≠ G.ι id := fun e' => e (R.inj j id o _ hj' ho e')
      rw [tu.same _ hb]
      exact a4.turn tu
  · have get : ∀ k p, upd f id (some (.loop M t ps asg body st' pend')) k = some p → ∃ p', f k = some p' := by
      intro k p hk
      by_cases e : k = id
      · exact ⟨_, by rw [e]; exact ho⟩
      · exact ⟨p, by simpa [upd, e] using hk⟩
    obtain ⟨p, hp⟩ := get i o h1
    obtain ⟨p', hp'⟩ := get j o' h2
    exact R.inj i j p p' hp hp'
theorem ycalls_of {id M n m : Nat} {f : Objs} {T : List Nat} {t : Tm} {ps : List Nat} {asg body : Code} {x y : AC} {args : List AV} {Q : AV → H → Prop} (ho : f id = some (.loop M t ps asg body .ready none)) (ha : cCode P M asg = some x) (hb : cCode P M body = some y) (hna : noRF asg = true) (hnb : noRF body = true)
    (hl : args.length = ps.length) (hps : ∀ p ∈ ps, p < M)
    (hw : Wp P M x ⟨putPs t ps args, ⟨f, n, T, m⟩⟩ fun e s => e = .normal ∧ ∃ t1, s.h.objs id = some (.loop M t1 ps asg body .ready none) ∧
      Wp P M y ⟨s.t, { s.h with objs := upd s.h.objs id (some (.loop M t1 ps asg body .busy none)) }⟩ fun e2 s2 => ∃ t2 b st pend, s2.h.objs id = some (.loop M t2 ps asg body .busy none) ∧ RoundEnd e2 b st pend ∧
        Q (.bool b) { s2.h with objs := upd s2.h.objs id (some (.loop M t2 ps asg body st pend)) }) :
    ∃ r h', YCalls P id args ⟨f, n, T, m⟩ r h' ∧ Q r h' := by
  obtain ⟨e, s, run, rfl, t1, ho1, hw2⟩ := hw asg ha
  obtain ⟨e2, s2, run2, t2, b, st, pend, ho2, hre, hq⟩ := hw2 body hb
  refine ⟨_, _, ?_, hq⟩
  have nm1 := run.1
  have nm2 := run2.1
  simp only at nm1 nm2
  intro G w vs hdom hv R F
  obtain ⟨d1, d2, d3, r, e0, d4, d5, d6, d7, d8, d9, d10⟩ := R.obj id _ ho
  have hsz : vs.toArray.size = r.params.size := by
    have h1 := hv.length
    have h2 : r.params.toList.length = ps.length := by rw [d6]
    simp at h2 ⊢
    omega
  refine ⟨r.fn, _, r.assign, r.body, run_yield e0 hsz, ?_⟩
  refine roundIn_of_wpIn (F := Fence.wide) trivial ?_
  have hzip : (r.params.zip vs.toArray).foldl (fun tmps (p : Tmp × Value) => tmps.setIfInBounds p.1 p.2) r.tmps = (ps.zip vs).foldl (fun tm (p : Nat × Value) => tm.setIfInBounds p.1 p.2) r.tmps := by
    rw [← Array.foldl_toList, Array.toList_zip, d6]
  have hput := putPs_rel (ps := ps) (t := t) (tmps := r.tmps) hv (fun p hp => by rw [d4]; exact hps p hp) d5
  have F1 : Fresh G ⟨f, n, T, m⟩ s.h := F.sub (Nat.le_refl _) nm2.1 (Nat.le_refl _) nm2.2
  have rel0 : Rel M ⟨putPs t ps args, ⟨f, n, T, m⟩⟩ G w { tmps := (r.params.zip vs.toArray).foldl (fun tmps (p : Tmp × Value) => tmps.setIfInBounds p.1 p.2) r.tmps, defers := [] } := by
    rw [hzip]
    exact ⟨hput.2.trans d4, hput.1, R, by simp, by simp⟩
  have w1 := run.2 (some (G.ι id)) (.inr hna) G w _ rel0 F1
  rw [d7, d8]
  refine wpIn_mono w1 ?_
  rintro e' a1 w1' ⟨h1, -, G1, T1, r1⟩
  cases e' <;> simp only [AExit.says] at h1
  have hι : G1.ι id = G.ι id := T1.ι_eq id d1
  obtain ⟨k1, k2, k3, r', k4, k5, k6, k7, k8, k9, k10, k11⟩ := r1.h.obj id _ ho1
  rw [hι] at k3 k4
  have hbr := run_beginRound (P := P) k4 k10
  refine ⟨_, hbr, ?_⟩
  have k4' : w1'.heap[G1.ι id]? = some (.loop r') := by rw [hι]; exact k4
  obtain ⟨T2, R2⟩ := loop_turn (n := s.h.n) (m := s.h.m) (T := s.h.toks) (f := s.h.objs) r1.h ho1 k4' .busy none
  rw [hι] at T2 R2
  have hrec : { r' with state := LoopState.busy, pending := (none : Option Code) } = { r' with state := .busy } := by rw [← k11]
  rw [hrec] at T2 R2
  have rel1 : Rel M ⟨s.t, { s.h with objs := upd s.h.objs id (some (.loop M t1 ps asg body .busy none)) }⟩ G1 (w1'.putObj (G.ι id) (.loop { r' with state := .busy })) a1 :=
    ⟨r1.size, fun i => VRel.mono r1.h T2 _ _ (r1.t i), R2, r1.df.mono T2⟩
  have F2 : Fresh G1 { s.h with objs := upd s.h.objs id (some (.loop M t1 ps asg body .busy none)) } s2.h := by
    have := (F.step (h' := { s2.h with objs := upd s2.h.objs id (some (.loop M t2 ps asg body st pend)) }) T1)
    exact this
  refine wpIn_mono (run2.2 (some (G.ι id)) (.inr hnb) G1 _ a1 rel1 F2) ?_
  rintro e' a2 w2 ⟨q1, -, G2, T3, r2⟩
  have hι2 : G2.ι id = G.ι id := (T3.ι_eq id k1).trans hι
  obtain ⟨j1, j2, j3, r'', j4, j5, j6, j7, j8, j9, j10, j11⟩ := r2.h.obj id _ ho2
  have j4' : w2.heap[G.ι id]? = some (.loop r'') := by rw [← hι2]; exact j4
  obtain ⟨T4, R4⟩ := loop_turn (n := s2.h.n) (m := s2.h.m) (T := s2.h.toks) (f := s2.h.objs) r2.h ho2 j4 st pend
  rw [hι2] at T4 R4
  have Tall := ((T1.trans R r1.h T2).trans R R2 T3).trans R r2.h T4
  cases hre
  all_goals
    cases e' <;> simp only [AExit.says] at q1
    try subst q1
    have hend := fun j => run_endRound (P := P) j j4'
    refine ⟨_, _, hend _, _, G2, rfl, Tall, R4, ?_⟩
    simp only [VRel, Option.isNone_none, Option.isNone_some]
def GYields (P : Program) (id : Nat) (args : List AV) (l : List Fr) (Q : AV → List Fr → Prop) : Prop :=
  ∀ n m, Ok l n (ks l) m → ∃ r l' n' m', YCalls P id args ⟨lay l, n, ks l, m⟩ r ⟨lay l', n', ks l', m'⟩ ∧ n ≤ n' ∧ m ≤ m' ∧ Ok l' n' (ks l') m' ∧ (∀ j, n ≤ j ∨ (lay l j).isSome = true ∨ lay l' j = none) ∧ (∀ t ∈ ks l', t ∈ ks l ∨ m ≤ t) ∧ Q r l'
theorem WpItems.gyield {dst : Option Nat} {g : Option (Nat × Bool)} {id : Nat} {y : Opd} {l : List Opd} {its : List AItem} {t : Tm} {log : List Ent} {K : Tm → H → List Ent → Prop} {vals : List AV} {Q : AV → List Fr → Prop} (A G B : List Fr) {n m : Nat} {T : List Nat}
    (hg : guardOf t g = some true) (hy : ev t y = .yld id) (hs : VSubs (l.map (ev t)) vals) (hc : GYields P id vals G Q) (ok : Ok (A ++ G ++ B) n T m)
    (rest : ∀ r G' n' m' ids, Q r G' → n ≤ n' → m ≤ m' → Ok (A ++ G' ++ B) n' (ks G' ++ T.filter fun t => !(ks G).contains t) m' → Wi (A ++ G ++ B) n (A ++ G' ++ B) → Ki (A ++ G ++ B) m (A ++ G' ++ B) → WpItems P N its (putT t dst r) ⟨lay (A ++ G' ++ B), n', ks G' ++ T.filter (fun t => !(ks G).contains t), m'⟩ (⟨[], ids, ks G ++ ks G'⟩ :: log) K) :
    WpItems P N (⟨dst, g, .callv y l⟩ :: its) t ⟨lay (A ++ G ++ B), n, T, m⟩ log K := by
  have okG : Ok G n (ks G) m := by
    have d1 := List.pairwise_append.1 (List.pairwise_append.1 ok.dj).1
    have t1 := List.pairwise_append.1 (List.pairwise_append.1 ok.td).1
    exact ⟨fun F hF => ok.bd F (by simp [hF]), d1.2.1, fun t ht => ht, t1.2.1, fun t ht => ok.tb t (ok.tk t (by rw [ks_append, ks_append]; simp [ht]))⟩
  obtain ⟨r, G', n', m', h1, h2, h3, h4, h5, h6, h7⟩ := hc n m okG
  obtain ⟨ids, tc⟩ := touch_swap ok h4 h2 h3 h5
  exact WpItems.step tc (fun ops i o ho hit => itrun_yield ho hit hg rfl hy hs h1) (fun h => by simp [touchy] at h) (rest r G' n' m' ids h7 h2 h3 (ok.swap h4 h2 h3 h5 h6) (.mid h5) (.mid h6))
theorem code_rfun {code : Code} {g : Opd} {ps : List Nat} {x y : AC} (h : cCode P N code = some (.rfun g ps x y)) : ∃ z qs a b, code = .rangeFunc z qs a b ∧ opd P 0 z = some g ∧ qs.toList = ps ∧ cCode P N a = some x ∧ cCode P N b = some y ∧ noRF a = true ∧ noRF b = true := by
  cases code with
  | rangeFunc z qs a b =>
    simp only [cCode] at h
    split at h
    · rename_i g' x' y' h1 h2 h3
      split at h
      · rename_i hcc
        cases h
        have hcc' : noRF a = true ∧ noRF b = true := by simpa using hcc
        exact ⟨_, _, _, _, rfl, h1, rfl, h2, h3, hcc'.1, hcc'.2⟩
      · cases h
    · cases h
  | _ =>
    simp only [cCode] at h
    first | (simp at h; done) | (cases h; done) | ((repeat' split at h) <;> cases h; done)
inductive LoopEnd : Option Code → AExit → Prop where
  | none : LoopEnd none .normal
  | ret : LoopEnd (some .ret) .ret
  | exit (i : Nat) : LoopEnd (some (.exit i)) (.exit i)
  | goto (l : Nat) : LoopEnd (some (.goto l)) (.goto l)
theorem Wp.rfun {g : Opd} {ps : List Nat} {x y : AC} {t : Tm} {f : Objs} {n m : Nat} {T : List Nat} {Q : AExit → St → Prop} {fi : FuncId} {fn : Func} {first caps : List AV} (hg : ev t g = .clo (.func fi) first caps) (hf : P.funcs[fi]? = some fn) (hfb : fn.body.isSome = true) (hfn : fn.name ≠ "runtime.NumGoroutine")
    (hfresh : f n = none)
    (hw : ∀ asg body, cCode P N asg = some x → cCode P N body = some y → noRF asg = true → noRF body = true → ∃ r f2 n2 T2 m2 t2 st pend e,
      ACalls P fi (first ++ [.yld n] ++ caps) ⟨upd f n (some (.loop N t ps asg body .ready none)), n + 1, T, m⟩ r ⟨f2, n2, T2, m2⟩ ∧ n + 1 ≤ n2 ∧ m ≤ m2 ∧ f2 n = some (.loop N t2 ps asg body st pend) ∧ st ≠ .busy ∧ LoopEnd pend e ∧
      Q e ⟨t, ⟨fun j => if j = n then none else f2 j, n2, T2, m2⟩⟩) : Wp P N (.rfun g ps x y) ⟨t, ⟨f, n, T, m⟩⟩ Q := by
  intro code hc
  obtain ⟨z, qs, asg, body, rfl, c1, c2, c3, c4, c5, c6⟩ := code_rfun hc
  obtain ⟨r, f2, n2, T2, m2, t2, st, pend, e, hcall, hn2, hm2, ho2, hst, hle, hq⟩ := hw asg body c3 c4 c5 c6
  refine ⟨e, _, ⟨⟨by simp only; omega, by simp only; omega⟩, fun ro okc G w a rel F => ?_⟩, hq⟩
  obtain rfl : ro = none := by
    rcases okc with h | h
    · exact h
    · simp [noRF] at h
  have hz : VRel G w (.clo (.func fi) first caps) (a.eval z) := by rw [← hg]; exact opd_rel c1 rel.t
  simp only [VRel] at hz
  obtain ⟨vs, us, hz, hv1, hv2⟩ := hz
  refine wpIn_rangeFunc (F := rd none) (n := 0) fun fid _ => ?_
  let D := w.heap.size
  let rec0 : Loop := { state := .ready, pending := none, fn := fid, tmps := a.tmps, params := qs, assign := asg, body := body, defers := w.heap.size }
  let w1 := (w.alloc (.deferred (some []))).alloc (.loop rec0)
  have hD1 : w1.heap[D]? = some (.deferred (some [])) := by
    show ((w.heap.push (.deferred (some []))).push (.loop rec0))[w.heap.size]? = _
    rw [Array.getElem?_push, if_neg (by simp), Array.getElem?_push, if_pos rfl]
  have hL1 : w1.heap[D + 1]? = some (.loop rec0) := by
    show ((w.heap.push (.deferred (some []))).push (.loop rec0))[w.heap.size + 1]? = _
    rw [Array.getElem?_push, if_pos (by simp)]
  have hsz1 : w1.heap.size = w.heap.size + 2 := by show ((w.heap.push (.deferred (some []))).push (.loop rec0)).size = _; simp
  have hold : ∀ B, B < w.heap.size → w1.heap[B]? = w.heap[B]? := by
    intro B hB
    show ((w.heap.push (.deferred (some []))).push (.loop rec0))[B]? = _
    rw [Array.getElem?_push, if_neg (by rw [Array.size_push]; omega), Array.getElem?_push, if_neg (by omega)]
  have hndom : ¬ G.dom n := F.1 n (Nat.le_refl _) (by simp only; omega)
  let G1 : Ghost := { G with dom := fun j => G.dom j ∨ j = n, ι := upd G.ι n (D + 1), own := fun B => G.own B ∨ B = D + 1 }
  have hι1 : ∀ j, G.dom j → G1.ι j = G.ι j := fun j hj => by
    simp only [G1, upd]; rw [if_neg]; rintro rfl; exact hndom hj
  have hιn : G1.ι n = D + 1 := by simp [G1, upd]
  have hne : ∀ j o, f j = some o → j ≠ n := fun j o h e => by subst e; rw [hfresh] at h; cases h
  have hO : ∀ B, B < w.heap.size → H.O ⟨upd f n (some (.loop N t ps asg body .ready none)), n + 1, T, m⟩ G1 B → H.O ⟨f, n, T, m⟩ G B := by
    rintro B hB ⟨j, o, h1, h2⟩
    by_cases e' : j = n
    · subst e'; rw [hιn] at h2; omega
    · have h1' : f j = some o := by simpa [upd, e'] using h1
      exact ⟨j, o, h1', by rw [← hι1 j (rel.h.obj j o h1').1]; exact h2⟩
  have Tr1 : Trans G w ⟨f, n, T, m⟩ G1 w1 ⟨upd f n (some (.loop N t ps asg body .ready none)), n + 1, T, m⟩ := by
    constructor
    · exact fun _ x => .inl x
    · rintro j (h | rfl)
      · exact .inl h
      · exact .inr ⟨Nat.le_refl _, Nat.lt_succ_self _⟩
    · exact hι1
    · exact fun _ x => x
    · exact fun _ => .inl
    · exact fun _ _ => rfl
    · exact Nat.le_succ _
    · exact Nat.le_refl _
    · rw [hsz1]; omega
    · rfl
    · rfl
    · intro B hB; rw [hold B hB]; exact SameForm.refl _
    · exact fun B hB _ _ => hold B hB
    · intro B hB _
      exact ⟨fun h => h.resolve_right (by omega), .inl⟩
    · exact fun _ _ _ _ => rfl
    · intro B hB h1 h2 e' he'
      refine ⟨fun j hj => ?_, fun e'' he'' => ?_⟩
      · have := hold B hB
        unfold World.cell?
        simp only [this]
      · have he2 : G.lim B = some e'' := he''
        rw [he'] at he2; cases he2; exact Nat.le_refl _
    · exact hO
    · exact fun _ _ h => h
    · intro j o h
      by_cases e' : j = n
      · subst e'; exact .inr ⟨Nat.le_refl _, Nat.lt_succ_self _⟩
      · exact .inl ⟨o, by simpa [upd, e'] using h⟩
    · exact fun _ => .inl
  have R1 : RepH G1 ⟨upd f n (some (.loop N t ps asg body .ready none)), n + 1, T, m⟩ w1 := by
    refine ⟨fun j o h => ?_, fun i j o o' h1 h2 h3 => ?_, fun k hk => ⟨(rel.h.tok k hk).1, fun B e' he' => ?_⟩, rel.h.tinj⟩
    · by_cases e' : j = n
      · subst e'
        have : o = .loop N t ps asg body .ready none := by simpa [upd] using h.symm
        subst this
        refine ⟨.inr rfl, by rw [hιn]; exact .inr rfl, by rw [hιn, hsz1]; show w.heap.size + 1 < _; omega, rec0, by rw [hιn]; exact hL1, rel.size, fun i => VRel.mono rel.h Tr1 _ _ (rel.t i), c2, rfl, rfl, rfl, rfl⟩
      · have h' : f j = some o := by simpa [upd, e'] using h
        obtain ⟨a1, a2, a3, a4⟩ := rel.h.obj j o h'
        refine ⟨.inl a1, by rw [hι1 j a1]; exact .inl a2, by rw [hι1 j a1, hsz1]; omega, ?_⟩
        rw [hι1 j a1, hold _ a3]
        exact a4.mono rel.h Tr1
    · have low : ∀ k p, f k = some p → G1.ι k < w.heap.size := fun k p hk => by rw [hι1 k (rel.h.obj k p hk).1]; exact (rel.h.obj k p hk).2.2.1
      by_cases e1 : i = n
      · by_cases e2 : j = n
        · rw [e1, e2]
        · have := low j o' (by simpa [upd, e2] using h2)
          rw [← h3, e1, hιn] at this
          omega
      · have hi : f i = some o := by simpa [upd, e1] using h1
        by_cases e2 : j = n
        · have := low i o hi
          rw [h3, e2, hιn] at this
          omega
        · have hj : f j = some o' := by simpa [upd, e2] using h2
          exact rel.h.inj i j o o' hi hj (by rw [← hι1 i (rel.h.obj i o hi).1, ← hι1 j (rel.h.obj j o' hj).1]; exact h3)
    · obtain ⟨b1, b2, b3⟩ := (rel.h.tok k hk).2 B e' he'
      refine ⟨b1, ?_, by rw [hsz1]; omega⟩
      rintro (h | h)
      · exact b2 h
      · omega
  have F1 : Fresh G1 ⟨upd f n (some (.loop N t ps asg body .ready none)), n + 1, T, m⟩ ⟨f2, n2, T2, m2⟩ := F.step Tr1
  have hargs : VRels G1 w1 (first ++ [.yld n] ++ caps) (vs ++ [Value.func (.yield (D + 1)) #[] #[]] ++ us) := by
    refine VRels.append (VRels.append (VRels.mono rel.h Tr1 _ _ hv1) ?_) (VRels.mono rel.h Tr1 _ _ hv2)
    simp only [VRels, VRel]
    exact ⟨_, [], rfl, ⟨.inr rfl, by rw [hιn]⟩, rfl⟩
  refine ⟨D + 1, [{ target := .collected D, args := #[] }], w1, { target := .fn (.func fi) us.toArray, args := vs.toArray ++ #[Value.func (.yield (D + 1)) #[] #[]] }, w1, fi, (vs ++ [Value.func (.yield (D + 1)) #[] #[]] ++ us).toArray, w1, ?_, ?_, fun _ _ => trivial, ?_, fun h => by simp [rd, Fence.wide] at h, callsIn_rd ?_⟩
  · exact run_enterLoop_outer fid a.tmps qs asg body
  · have he : ∀ v, a.eval (.const v) = v := fun _ => rfl
    simp [resolve, rangeCall, hz, Deferred.ofValue, he]
  · simp [invoke, run_callFunc w1 hf hfb hfn]
  · refine (hcall G1 w1 _ hargs R1 F1).mono ?_
    rintro e' w3 ⟨v, G3, rfl, T3, R3, V3⟩
    obtain ⟨b1, b2, b3, ⟨st3, pend3, fn3, tmps3, params3, asg3, body3, df3⟩, b4, b5, b6, b7, b8, b9, b10, b11⟩ := R3.obj n _ ho2
    simp only at b10 b11
    subst b11
    have hι3 : G3.ι n = D + 1 := (T3.ι_eq n (.inr rfl)).trans hιn
    rw [hι3] at b3 b4
    have hDO1 : ¬ H.O ⟨upd f n (some (.loop N t ps asg body .ready none)), n + 1, T, m⟩ G1 D := by
      rintro ⟨j, o, h1, h2⟩
      by_cases e' : j = n
      · subst e'; rw [hιn] at h2; omega
      · have h1' : f j = some o := by simpa [upd, e'] using h1
        have := (rel.h.obj j o h1').2.2.1
        rw [hι1 j (rel.h.obj j o h1').1] at h2
        omega
    have hDT1 : ¬ H.T ⟨upd f n (some (.loop N t ps asg body .ready none)), n + 1, T, m⟩ G1 D := by
      rintro ⟨k, hk, e', he'⟩
      have := ((rel.h.tok k hk).2 D e' he').2.2
      omega
    have hDlt : D < w1.heap.size := by rw [hsz1]; show w.heap.size < _; omega
    have hD3 : w3.heap[D]? = some (.deferred (some [])) := (T3.keep D hDlt hDO1 hDT1).trans hD1
    have hDO3 : ¬ H.O ⟨f2, n2, T2, m2⟩ G3 D := fun h => hDO1 (T3.O_new D hDlt h)
    have hDT3 : ¬ H.T ⟨f2, n2, T2, m2⟩ G3 D := fun h => hDT1 (T3.T_new D hDlt h)
    refine ⟨pend3, _, run_endLoop b4 (by simp only; rw [b10]; exact hst), ?_⟩
    let w4 := w3.putObj (D + 1) (.loop ⟨.exhausted, pend3, fn3, tmps3, params3, asg3, body3, df3⟩)
    have tu : Turned (D + 1) w3 w4 := ⟨by simp [w4], fun B hB => World.putObj_heap_other hB, fun c T fr e => absurd (b4.symm.trans e) (by simp), rfl, rfl⟩
    have hle3 : HLe ⟨f2, n2, T2, m2⟩ ⟨fun j => if j = n then none else f2 j, n2, T2, m2⟩ := by
      refine ⟨fun j o' hj => ?_, fun t h => h⟩
      simp only at hj
      split at hj
      · cases hj
      · exact ⟨o', hj, OSub.refl _⟩
    have T03 : Trans G w ⟨f, n, T, m⟩ G3 w3 ⟨fun j => if j = n then none else f2 j, n2, T2, m2⟩ := (Tr1.trans rel.h R1 T3).trans rel.h R3 (Trans.le hle3 (Nat.le_refl _) (Nat.le_refl _))
    have R03 := R3.le hle3
    have hLO : ¬ H.O ⟨fun j => if j = n then none else f2 j, n2, T2, m2⟩ G3 (D + 1) := by
      rintro ⟨j, o, h1, h2⟩
      simp only at h1
      split at h1
      · cases h1
      · rename_i hjn
        exact hjn (R3.inj j n o _ h1 ho2 (by rw [h2, hι3]))
    have T04 := T03.turn tu (by show w.heap.size ≤ w.heap.size + 1; omega)
    have R04 := R03.turn tu hLO
    have hD4 : w4.heap[D]? = some (.deferred (some [])) := by rw [tu.same D (by omega)]; exact hD3
    have relEnd : Rel N ⟨t, ⟨fun j => if j = n then none else f2 j, n2, T2, m2⟩⟩ G3 w4 { a with defers := [({ target := .collected D, args := #[] } : Deferred)] ++ a.defers } := by
      refine ⟨rel.size, fun i => VRel.turn tu _ _ (VRel.mono rel.h T03 _ _ (rel.t i)), R04, ?_, ?_⟩
      · show ([({ target := .collected D, args := #[] } : Deferred)] ++ a.defers).Nodup
        rw [List.singleton_append, List.nodup_cons]
        refine ⟨fun hm => ?_, rel.df.1⟩
        obtain ⟨D', e', h1, -⟩ := rel.df.2 _ hm
        simp only [Deferred.mk.injEq, Target.collected.injEq, and_true] at e'
        have := heap_lt h1
        rw [← e'] at this
        exact absurd this (Nat.lt_irrefl _)
      · intro d hd
        rcases List.mem_append.1 hd with hd | hd
        · rw [List.mem_singleton.1 hd]
          exact ⟨D, rfl, hD4, fun ⟨j, o, h1, h2⟩ => by
            simp only at h1
            split at h1
            · cases h1
            · exact hDO3 ⟨j, o, h1, h2⟩, hDT3⟩
        · exact (rel.df.mono T04).2 d hd
    have hnew : NewM w a.defers ([({ target := .collected D, args := #[] } : Deferred)] ++ a.defers) := by
      intro d hd
      rcases List.mem_append.1 hd with hd | hd
      · rw [List.mem_singleton.1 hd]; exact .inr ⟨D, Nat.le_refl _, rfl⟩
      · exact .inl hd
    cases hle with
    | none => exact ⟨trivial, hnew, G3, T04, relEnd⟩
    | ret => exact wpIn_ret ⟨trivial, hnew, G3, T04, relEnd⟩
    | exit i => exact wpIn_exit ⟨rfl, hnew, G3, T04, relEnd⟩
    | goto l => exact wpIn_goto ⟨rfl, hnew, G3, T04, relEnd⟩
end
end Go.Av
end
section
set_option linter.unusedVariables false
set_option linter.unusedSimpArgs false
namespace Go.Av
section
variable {P : Program} {N : Nat} {o : Oper} {t : Tm} {h : H} {en : Ent}
theorem appzT_loc {c : Call} {zs zx : Operand} {ys yx : Opd} {T U e : TypeId} {i : TypeInfo} {z : Value} {b : AV} {s : Nat} {n : Int} (hop : o.op = .call c) (hc : c.callee = .builtin .append) (ha : c.args.toList = [zs, zx]) (hta : c.argTypes.toList = [T, U])
    (hT : P.underlying T = some (.slice e)) (hU : P.underlying U = some (.int .i64)) (hi : P.info? e = some i) (hz : i.zero = some z) (hzs : z.cells.size = i.size) (hb0 : constAV P e z = some b) (hsz : 0 < i.size)
    (hys : opd P T zs = some ys) (hyx : opd P U zx = some yx) (hs : ev t ys = .sl s [] (.exact 0)) (hx : ev t yx = .int .i64 n) (h0 : 0 < n) (hsh : shaped b = true)
    (hb : n.toNat * i.bytes ≤ 140737488355328) (hlen : n.toNat < 4611686018427387904) :
    Loc P o t h (.tsl i.size h.n 0 n.toNat none) { h with objs := upd h.objs h.n (some (.cells ((List.replicate n.toNat b).flatMap cellsOf))), n := h.n + 1 } ⟨[], [h.n], []⟩ := by
  have ha' : c.args = #[zs, zx] := by rw [← Array.toArray_toList (xs := c.args), ha]
  have hta' : c.argTypes = #[T, U] := by rw [← Array.toArray_toList (xs := c.argTypes), hta]
  refine ⟨_, _, touch_new h _, fun G w a ht R F => ?_⟩
  have r1 := opd_rel hys ht
  have r2 := opd_rel hyx ht
  rw [hs] at r1
  rw [hx] at r2
  simp only [VRel] at r2
  have hbase : ∃ a0, a.eval zs = .slice a0 0 0 := by
    simp only [VRel, CapOk] at r1
    rcases r1 with ⟨-, h, -⟩ | ⟨B, off, C, vs, q1, -, -, -, -, q6⟩
    · exact h
    · subst q6; exact ⟨_, by simpa using q1⟩
  obtain ⟨a0, ha0⟩ := hbase
  have rb := const_rel (G := G) (w := w) hb0
  obtain ⟨sc1, sc2⟩ := shaped_cells rb hsh
  have hel : ∀ k : Nat, VElems G w i.size (List.replicate k b) (List.replicate k z.cells.toList).flatten := by
    intro k
    induction k with
    | zero => simp [VElems]
    | succ k ih =>
      simp only [List.replicate_succ, List.flatten_cons, VElems]
      exact ⟨z, _, rfl, hzs, rb, ih⟩
  have hone : ∀ u ∈ (List.replicate n.toNat z.cells.toList).flatten, One u := by
    intro u hu
    obtain ⟨x, hx, hu'⟩ := List.mem_flatten.1 hu
    rw [(List.mem_replicate.1 hx).2] at hu'
    exact cells_one sc1 sc2 u hu'
  have hnn : (n.toNat : Int) = n := Int.toNat_of_nonneg (by omega)
  have hzf := zeroCells_flat hzs hsz n.toNat
  obtain ⟨w', C, rest, e1, e2, e3, e4⟩ := run_appendz_grows (ty := o.type) (n := n.toNat) hT hU hi hz hzs hsz (src_none (P := P) (w := w) a0) (by omega) (Nat.le_refl _) (by simpa using hb) (by simpa using hlen)
  rw [List.nil_append, hzf] at e2
  simp only [Nat.zero_add] at e1 e3 e4
  have hnl := (hel n.toNat).length
  obtain ⟨G', T1, R1, V⟩ := new_tsl (m := h.m) (sz := i.size) e2 (rels_of_elems (hel n.toNat) (by simp [hsh])) hone (fresh_n F (by simp [H.only])) e3 (by rw [hnl, e4, List.length_replicate]; exact Nat.le_refl _)
  refine ⟨.value _, _, w', G', ?_, .inl rfl, T1, R1, V⟩
  rw [hnn] at e1
  simp [execOp, hop, resolve, hc, ha', hta', invoke, builtin, ha0, r2, e1]
def aopZ (ρ : Opd → AV) (h : H) : AOp → Option (AV × H × Ent)
  | .appz bytes zero sz s x => match ρ s, ρ x with
    | .sl _ [] (.exact 0), .int .i64 n => if 0 < n ∧ n.toNat * bytes ≤ 140737488355328 ∧ n.toNat < 4611686018427387904 ∧ shaped zero = true then
        some (.tsl sz h.n 0 n.toNat none, { h with objs := upd h.objs h.n (some (.cells ((List.replicate n.toNat zero).flatMap cellsOf))), n := h.n + 1 }, ⟨[], [h.n], []⟩) else none
    | _, _ => none
  | _ => none
theorem cOp_appz {sz bytes : Nat} {b : AV} {ys yx : Opd} (h : cOp P o = some (.appz bytes b sz ys yx)) : ∃ c zs zx T U e i z, o.op = .call c ∧ c.callee = .builtin .append ∧ c.args.toList = [zs, zx] ∧ c.argTypes.toList = [T, U] ∧
    opd P T zs = some ys ∧ opd P U zx = some yx ∧ P.underlying T = some (.slice e) ∧ P.underlying U = some (.int .i64) ∧ P.info? e = some i ∧ 0 < i.size ∧ i.zero = some z ∧ z.cells.size = i.size ∧ constAV P e z = some b ∧ i.size = sz ∧ i.bytes = bytes := by
  unfold cOp at h
  split at h
  case h_28 c hop =>
    split at h
    case h_7 hcal =>
      split at h
      · rename_i zs zx T U ha hta
        split at h
        · (repeat' split at h) <;> (try cases h) <;> simp at h
        · (repeat' split at h) <;> (try cases h) <;> simp at h
        · split at h
          · rename_i i hi
            split at h
            · rename_i b' hb'
              split at h
              · rename_i hq
                cases h
                cases hz : i.zero with
                | none => rw [hz] at hb'; simp at hb'
                | some z =>
                  rw [hz] at hb' hq
                  exact ⟨c, zs, zx, T, U, _, i, z, hop, hcal, ha, hta, ‹_›, ‹_›, ‹_›, ‹_›, hi, hq.1, hz, by simpa using hq.2, by simpa using hb', rfl, rfl⟩
              · cases h
            · cases h
          · cases h
        · cases h
      · cases h
    all_goals first
      | (cases h; done)
      | ((repeat' split at h) <;> (try cases h) <;> simp at h)
  all_goals first
    | (cases h; done)
    | (simp at h; done)
    | ((repeat' split at h) <;> (try cases h) <;> (try simp at h) ; done)
    | skip
theorem aopZ_loc {op : AOp} {x : AV} {h' : H} (hc : cOp P o = some op) (hx : aopZ (ev t) h op = some (x, h', en)) : Loc P o t h x h' en := by
  cases op <;> (try (simp [aopZ] at hx; done))
  case appz bytes b sz s x0 =>
    obtain ⟨c, zs, zx, T, U, e, i, z, hop, hcal, ha, hta, hys, hyx, hT, hU, hi, hs1, hz1, hz2, hz3, rfl, rfl⟩ := cOp_appz hc
    simp only [aopZ] at hx
    split at hx
    · split at hx
      · rename_i hq
        cases hx
        exact appzT_loc hop hcal ha hta hT hU hi hz1 hz2 hz3 hs1 hys hyx ‹_› ‹_› hq.1 hq.2.2.2 hq.2.1 hq.2.2.1
      · cases hx
    · cases hx
theorem aopZ_congr {ρ ρ' : Opd → AV} {op : AOp} (hx : ∀ y ∈ opdsOf op, ρ y = ρ' y) : aopZ ρ h op = aopZ ρ' h op := by
  cases op <;> (try rfl)
  case appz bytes b sz s x0 => simp only [aopZ, hx s (by simp [opdsOf]), hx x0 (by simp [opdsOf])]
theorem itrun_opZ {ops : Array Oper} {i : Nat} {o : Oper} {it : AItem} {t : Tm} {h h' : H} {x : AV} {en : Ent} (ho : ops[i]? = some o) (hit : cItem P N ops o = some it) (hg : guardOf t it.guard = some true) (hx : aopZ (ev t) h it.op = some (x, h', en)) :
    ∃ h1 h1', Touch h h1 h1' h' en ∧ ItRun P ops i o t h1 x h1' := by
  unfold cItem at hit
  split at hit
  · rename_i op g hop hgd
    split at hit <;> cases hit
    rename_i hcond
    simp only [Bool.and_eq_true] at hcond
    have hop := cOpD_of hop (by rintro rfl; simp [aopZ] at hx)
    have hx' : aopZ (ev (cutTo (names ops o) t)) h op = some (x, h', en) := by
      rw [aopZ_congr (cut_ev hcond.2)]; exact hx
    obtain ⟨h1, h1', tc, loc⟩ := aopZ_loc hop hx'
    refine ⟨h1, h1', tc, fun G w a ht R F K Q hK ro => ?_⟩
    obtain ⟨nx, v, w', G', e1, e2, T1, R1, V⟩ := loc G w a (cut_rel ht) R F
    unfold wpOpIn
    rw [ho]
    simp only [guard_wanted hgd ht hg, if_true]
    refine ⟨fun _ _ => trivial, ?_⟩
    rw [Oper.semAt_eq _ _ _ (cOp_plain hop), e1]
    rcases e2 with rfl | ⟨rfl, rfl⟩
    · rw [Oper.uponIn_value]; exact hK G' w' v T1 R1 V
    · rw [Oper.uponIn_skip]; exact hK G' w' undef T1 R1 V
  · cases hit
theorem WpItemsN.opZ {dst : Option Nat} {g : Option (Nat × Bool)} {op : AOp} {its : List AItem} {t : Tm} {h h' : H} {en : Ent} {K : Tm → H → Prop} {x : AV} (hg : guardOf t g = some true) (hx : aopZ (ev t) h op = some (x, h', en))
    (rest : WpItemsN P N its (putT t dst x) h' K) : WpItemsN P N (⟨dst, g, op⟩ :: its) t h K :=
  WpItemsN.step (it := ⟨dst, g, op⟩) (fun ops i o ho hit => itrun_opZ ho hit hg hx) rest
theorem ACalls.thaw {f : FuncId} {args : List AV} {n m n' sz id off : Nat} {cs : List AV} (hid : n ≤ id ∧ id < n') (hc : ACalls P f args (H0 n m) (.tsl sz id off 0 none) (.only (upd none' id (some (.cells cs))) [] n' m)) :
    ACalls P f args (H0 n m) (.sl sz [] (.own m)) (.only none' [m] n' (m + 1)) := by
  intro G w vs hv R F
  have F0 : Fresh G (H0 n m) (.only (upd none' id (some (.cells cs))) [] n' m) := ⟨F.1, fun t h1 h2 => F.2 t h1 (Nat.lt_succ_of_lt h2)⟩
  refine (hc G w vs hv R F0).mono ?_
  rintro e w' ⟨v, G', rfl, T, R', V⟩
  have ho : (H.only (upd none' id (some (.cells cs))) [] n' m).objs id = some (.cells cs) := by simp [H.only, upd]
  obtain ⟨q1, q2, q3, ws, rest, T0, fr, y1, y2, y3, y4⟩ := R'.obj id _ ho
  have hnew : w.heap.size ≤ G'.ι id := by
    rcases Nat.lt_or_ge (G'.ι id) w.heap.size with hb | hb
    · exact absurd (T.O_new _ hb ⟨id, _, ho, rfl⟩) (only_O _)
    · exact hb
  have hmt : ¬ G'.tdom m := by
    intro h
    rcases T.tdom_new m h with h | ⟨h1, h2⟩
    · exact F.2 m (Nat.le_refl _) (Nat.lt_succ_self _) h
    · exact Nat.lt_irrefl _ h2
  let G2 : Ghost := { G' with tdom := fun x => G'.tdom x ∨ x = m, τ := upd G'.τ m (some (G'.ι id, off)), own := fun B => G'.own B ∧ B ≠ G'.ι id, lim := fun B => if B = G'.ι id then some off else G'.lim B }
  have hτm : G2.τ m = some (G'.ι id, off) := by simp [G2, upd]
  have hτo : ∀ x, G'.tdom x → G2.τ x = G'.τ x := fun x hx => by
    simp only [G2, upd]; rw [if_neg]; rintro rfl; exact hmt hx
  refine ⟨v, G2, rfl, ?_, ?_, ?_⟩
  · constructor
    · exact T.dom_le
    · exact T.dom_new
    · exact T.ι_eq
    · exact fun x h => .inl (T.tdom_le x h)
    · rintro x (h | rfl)
      · rcases T.tdom_new x h with h | ⟨h1, h2⟩
        · exact .inl h
        · exact .inr ⟨h1, Nat.lt_succ_of_lt h2⟩
      · exact .inr ⟨Nat.le_refl _, Nat.lt_succ_self _⟩
    · exact fun x h => (hτo x (T.tdom_le x h)).trans (T.τ_eq x h)
    · exact T.n_le
    · exact Nat.le_succ_of_le T.m_le
    · exact T.size_le
    · exact T.os
    · exact T.output
    · exact T.form
    · exact fun B hB h1 h2 => T.keep B hB h1 h2
    · intro B hB h1
      have := T.own_keep B hB h1
      exact ⟨fun h => this.1 h.1, fun h => ⟨this.2 h, by omega⟩⟩
    · intro B hB h1 h2
      show (if B = G'.ι id then some off else G'.lim B) = _
      rw [if_neg (by omega)]; exact T.lim_keep B hB h1 h2
    · exact fun B hB h => absurd h (only_T0 B)
    · exact fun B _ h => absurd h (only_O B)
    · rintro B hB ⟨x, hx, e', he'⟩
      simp only [H.only, List.mem_singleton] at hx
      subst hx
      rw [hτm] at he'
      cases he'
      exact absurd hB (by omega)
    · exact fun j o h => by simp [H.only, none'] at h
    · intro x hx
      simp only [H.only, List.mem_singleton] at hx
      subst hx
      exact .inr ⟨Nat.le_refl _, Nat.lt_succ_self _⟩
  · refine ⟨fun j o h => by simp [H.only, none'] at h, fun j _ o _ h => by simp [H.only, none'] at h, fun x hx => ?_, fun x hx x' hx' B e e' h1 h2 => ?_⟩
    · simp only [H.only, List.mem_singleton] at hx
      subst hx
      refine ⟨.inr rfl, fun B e he => ?_⟩
      rw [hτm] at he
      cases he
      exact ⟨by simp [G2], fun h => h.2 rfl, q3⟩
    · simp only [H.only, List.mem_singleton] at hx hx'
      rw [hx, hx']
  · simp only [VRel] at V ⊢
    obtain ⟨-, ⟨C, c, T1, fr1, v1, v2, -, v3, v4⟩ | ⟨-, ⟨a, v1⟩, -⟩⟩ := V
    · refine .inr ⟨G'.ι id, off, C, [], by simpa using v1, by simp, by simp, by simp [VElems], Imm.nil, ?_⟩
      refine .inr ⟨.inr rfl, by rw [hτm]; simp, c, T1, fr1, v3, v4, ?_⟩
      rw [y1] at v3
      simp only [Option.some.injEq, Go.Obj.cells.injEq] at v3
      obtain ⟨-, -, rfl⟩ := v3
      exact fun j _ => y3 j
    · exact .inl ⟨by simp, ⟨_, v1⟩, by simp [CapNil]⟩
end
end Go.Av
end
section
set_option linter.unusedSimpArgs false
set_option linter.unusedVariables false
set_option maxRecDepth 10000
namespace Go.Proofs.Ytpehfflehebmbaa.Space
open Go Go.Av Go.Proofs Go.Proofs.Ytpehfflehebmbaa.C Go.Proofs.Ytpehfflehebmbaa.Batch
abbrev Bs := List UInt8
structure Ver where
  t : Int
  v : Bs
  d : Bool
  deriving DecidableEq
instance : Inhabited Ver := ⟨⟨0, [], false⟩⟩
def encV (x : Ver) : AV := .agg [.int .i64 x.t, .str x.v, .bool x.d]
theorem encV_pure (x : Ver) : isPure (encV x) = true := rfl
theorem vers_pure (l : List Ver) : allPure (l.map encV) = true := Av.allPure_map encV_pure l
def okV (x : Ver) : Bool := decide (1 ≤ x.t) && decide (x.t ≤ 1152921504606846976) && decide ((x.v.length : Int) ≤ 200) && (!x.d || decide (x.v = []))
theorem right_p (x : Ver) : PCalls Try.prog 102 [encV x] (.bool (okV x)) := by
  refine f102.pcalls0 (by simp) (by simp [allPure, encV_pure]) rfl ?_
  unfold c102
  repeat' (first
    | (refine WpItems.nil ⟨?_, ?_⟩; (· first | trivial | simp [pairsQ, pairsOk, apart, ent0]))
    | (apply WpItems.evU; (· simp only [go_sem, reduceIte, Nat.reduceEqDiff, Nat.reduceAdd, bx, ax, if_true, if_false, Nat.reduceMul, Nat.reduceLeDiff, encV, List.length_map]; exact rfl); (· simp only [go_sem, reduceIte, Nat.reduceEqDiff, Nat.reduceAdd, bx, ax, if_true, if_false, Nat.reduceMul, Nat.reduceLeDiff, encV, List.length_map]; exact rfl))
    | (apply WpItems.part 1; (· simp only [go_sem, reduceIte, Nat.reduceEqDiff, Nat.reduceAdd, bx, ax, if_true, if_false, Nat.reduceMul, Nat.reduceLeDiff, encV, List.length_map]; exact rfl); (try simp only [List.drop_succ_cons, List.drop_zero, List.drop_nil]))
    | (refine WpItems.gsplit_dec (p := ?_) ?_ (fun hc => ?_) (fun hc => ?_); rotate_left; (· simp only [go_sem, reduceIte, Nat.reduceEqDiff, Nat.reduceAdd, bx, ax, if_true, if_false, Nat.reduceMul, Nat.reduceLeDiff, encV, List.length_map]; exact rfl))
    | (refine WpItems.gsplit_ndec (p := ?_) ?_ (fun hc => ?_) (fun hc => ?_); rotate_left; (· simp only [go_sem, reduceIte, Nat.reduceEqDiff, Nat.reduceAdd, bx, ax, if_true, if_false, Nat.reduceMul, Nat.reduceLeDiff, encV, List.length_map]; exact rfl))
    | (refine WpItems.gsplit (b := ?_) ?_ (fun hc => ?_) (fun hc => ?_); rotate_left; (· simp only [go_sem, reduceIte, Nat.reduceEqDiff, Nat.reduceAdd, bx, ax, if_true, if_false, Nat.reduceMul, Nat.reduceLeDiff, encV, List.length_map]; exact rfl))
    | refine Wp.seqRegS ?_
    | refine Wp.regS ?_
    | (refine Wp.cond_true ?_ ?_; (· simp only [go_sem, reduceIte, Nat.reduceEqDiff, Nat.reduceAdd, bx, ax, if_true, if_false, Nat.reduceMul, Nat.reduceLeDiff, encV, List.length_map]))
    | (refine Wp.cond_false ?_ ?_; (· simp only [go_sem, reduceIte, Nat.reduceEqDiff, Nat.reduceAdd, bx, ax, if_true, if_false, Nat.reduceMul, Nat.reduceLeDiff, encV, List.length_map]))
    | (refine Wp.cond_dec (p := ?_) ?_ (fun hc => ?_) (fun hc => ?_); rotate_left; (· simp only [go_sem, reduceIte, Nat.reduceEqDiff, Nat.reduceAdd, bx, ax, if_true, if_false, Nat.reduceMul, Nat.reduceLeDiff, encV, List.length_map]; exact rfl))
    | (refine Wp.cond_ndec (p := ?_) ?_ (fun hc => ?_) (fun hc => ?_); rotate_left; (· simp only [go_sem, reduceIte, Nat.reduceEqDiff, Nat.reduceAdd, bx, ax, if_true, if_false, Nat.reduceMul, Nat.reduceLeDiff, encV, List.length_map]; exact rfl))
    | (refine Wp.cond_split (b := ?_) ?_ (fun hc => ?_) (fun hc => ?_); rotate_left; (· simp only [go_sem, reduceIte, Nat.reduceEqDiff, Nat.reduceAdd, bx, ax, if_true, if_false, Nat.reduceMul, Nat.reduceLeDiff, encV, List.length_map]; exact rfl))
    | refine Wp.skip ?_
    | refine Wp.label ?_
    | refine Wp.block ?_
    | refine Wp.exit ?_
    | refine Wp.seq ?_)
  all_goals
    refine Wp.ret ⟨trivial, _, rfl, ?_⟩
    simp only [go_sem, reduceIte, Nat.reduceEqDiff, Nat.reduceAdd, bx]
    refine VSub.of_eq ?_
    first | (simp_all [okV]; done) | (simp_all [okV]; intros; exfalso; omega)
theorem rightR_p (x : Ver) : PCalls Try.prog 108 [encV x] (.bool (okV x)) := by
  refine f108.pcalls0 (by simp) (by simp [allPure, encV_pure]) rfl ?_
  unfold c108
  repeat' (first
    | (refine WpItems.nil ⟨?_, ?_⟩; (· first | trivial | simp [pairsQ, pairsOk, apart, ent0]))
    | (apply WpItems.evU; (· simp only [go_sem, reduceIte, Nat.reduceEqDiff, Nat.reduceAdd, bx, ax, if_true, if_false, Nat.reduceMul, Nat.reduceLeDiff, encV, List.length_map]; exact rfl); (· simp only [go_sem, reduceIte, Nat.reduceEqDiff, Nat.reduceAdd, bx, ax, if_true, if_false, Nat.reduceMul, Nat.reduceLeDiff, encV, List.length_map]; exact rfl))
    | (apply WpItems.part 1; (· simp only [go_sem, reduceIte, Nat.reduceEqDiff, Nat.reduceAdd, bx, ax, if_true, if_false, Nat.reduceMul, Nat.reduceLeDiff, encV, List.length_map]; exact rfl); (try simp only [List.drop_succ_cons, List.drop_zero, List.drop_nil]))
    | (refine WpItems.gsplit_dec (p := ?_) ?_ (fun hc => ?_) (fun hc => ?_); rotate_left; (· simp only [go_sem, reduceIte, Nat.reduceEqDiff, Nat.reduceAdd, bx, ax, if_true, if_false, Nat.reduceMul, Nat.reduceLeDiff, encV, List.length_map]; exact rfl))
    | (refine WpItems.gsplit_ndec (p := ?_) ?_ (fun hc => ?_) (fun hc => ?_); rotate_left; (· simp only [go_sem, reduceIte, Nat.reduceEqDiff, Nat.reduceAdd, bx, ax, if_true, if_false, Nat.reduceMul, Nat.reduceLeDiff, encV, List.length_map]; exact rfl))
    | (refine WpItems.gsplit (b := ?_) ?_ (fun hc => ?_) (fun hc => ?_); rotate_left; (· simp only [go_sem, reduceIte, Nat.reduceEqDiff, Nat.reduceAdd, bx, ax, if_true, if_false, Nat.reduceMul, Nat.reduceLeDiff, encV, List.length_map]; exact rfl))
    | refine Wp.seqRegS ?_
    | refine Wp.regS ?_
    | (refine Wp.cond_true ?_ ?_; (· simp only [go_sem, reduceIte, Nat.reduceEqDiff, Nat.reduceAdd, bx, ax, if_true, if_false, Nat.reduceMul, Nat.reduceLeDiff, encV, List.length_map]))
    | (refine Wp.cond_false ?_ ?_; (· simp only [go_sem, reduceIte, Nat.reduceEqDiff, Nat.reduceAdd, bx, ax, if_true, if_false, Nat.reduceMul, Nat.reduceLeDiff, encV, List.length_map]))
    | (refine Wp.cond_dec (p := ?_) ?_ (fun hc => ?_) (fun hc => ?_); rotate_left; (· simp only [go_sem, reduceIte, Nat.reduceEqDiff, Nat.reduceAdd, bx, ax, if_true, if_false, Nat.reduceMul, Nat.reduceLeDiff, encV, List.length_map]; exact rfl))
    | (refine Wp.cond_ndec (p := ?_) ?_ (fun hc => ?_) (fun hc => ?_); rotate_left; (· simp only [go_sem, reduceIte, Nat.reduceEqDiff, Nat.reduceAdd, bx, ax, if_true, if_false, Nat.reduceMul, Nat.reduceLeDiff, encV, List.length_map]; exact rfl))
    | (refine Wp.cond_split (b := ?_) ?_ (fun hc => ?_) (fun hc => ?_); rotate_left; (· simp only [go_sem, reduceIte, Nat.reduceEqDiff, Nat.reduceAdd, bx, ax, if_true, if_false, Nat.reduceMul, Nat.reduceLeDiff, encV, List.length_map]; exact rfl))
    | refine Wp.skip ?_
    | refine Wp.label ?_
    | refine Wp.block ?_
    | refine Wp.exit ?_
    | refine Wp.seq ?_)
  all_goals
    refine Wp.ret ⟨trivial, _, rfl, ?_⟩
    simp only [go_sem, reduceIte, Nat.reduceEqDiff, Nat.reduceAdd, bx]
    refine VSub.of_eq ?_
    first | (simp_all [okV]; done) | (simp_all [okV]; intros; exfalso; omega)
def vOk (l : List Ver) (i : Nat) : Bool := okV (l.getD i default) && (decide (i = 0) || decide ((l.getD i default).t < (l.getD (i - 1) default).t))
def chB (l : List Ver) : Bool := (List.range l.length).all (vOk l)
theorem vOk_zero {l : List Ver} {j : Nat} (h : j = 0) : vOk l j = okV (l.getD j default) := by simp [vOk, h]
theorem vOk_pos {l : List Ver} {j : Nat} (h : j ≠ 0) : vOk l j = (okV (l.getD j default) && decide ((l.getD j default).t < (l.getD (j - 1) default).t)) := by simp [vOk, h]
set_option maxHeartbeats 1000000 in
theorem check_p (l : List Ver) (hl : l.length ≤ 1152921504606846976) : PCalls Try.prog 101 [.sl 3 (l.map encV) .any] (.int .i64 (if chB l then 0 else 4)) := by
  refine f101.pcalls0 (by simp) (by simp [allPure, isPure, capPure, vers_pure]) rfl ?_
  unfold c101
  repeat' (first
    | (refine WpItems.nil ⟨?_, ?_⟩; (· first | trivial | simp [pairsQ, pairsOk, apart, ent0]))
    | (apply WpItems.evU; (· simp only [go_sem, reduceIte, Nat.reduceEqDiff, Nat.reduceAdd, bx, ax, if_true, if_false, Nat.reduceMul, Nat.reduceLeDiff, List.length_map]; exact rfl); (· simp only [go_sem, reduceIte, Nat.reduceEqDiff, Nat.reduceAdd, bx, ax, if_true, if_false, Nat.reduceMul, Nat.reduceLeDiff, List.length_map]; exact rfl))
    | (apply WpItems.part 1; (· simp only [go_sem, reduceIte, Nat.reduceEqDiff, Nat.reduceAdd, bx, ax, if_true, if_false, Nat.reduceMul, Nat.reduceLeDiff, List.length_map]; exact rfl); (try simp only [List.drop_succ_cons, List.drop_zero, List.drop_nil]))
    | (refine WpItems.gsplit_dec (p := ?_) ?_ (fun hc => ?_) (fun hc => ?_); rotate_left; (· simp only [go_sem, reduceIte, Nat.reduceEqDiff, Nat.reduceAdd, bx, ax, if_true, if_false, Nat.reduceMul, Nat.reduceLeDiff, List.length_map]; exact rfl))
    | (refine WpItems.gsplit_ndec (p := ?_) ?_ (fun hc => ?_) (fun hc => ?_); rotate_left; (· simp only [go_sem, reduceIte, Nat.reduceEqDiff, Nat.reduceAdd, bx, ax, if_true, if_false, Nat.reduceMul, Nat.reduceLeDiff, List.length_map]; exact rfl))
    | (refine WpItems.gsplit (b := ?_) ?_ (fun hc => ?_) (fun hc => ?_); rotate_left; (· simp only [go_sem, reduceIte, Nat.reduceEqDiff, Nat.reduceAdd, bx, ax, if_true, if_false, Nat.reduceMul, Nat.reduceLeDiff, List.length_map]; exact rfl))
    | refine Wp.seqRegS ?_
    | refine Wp.regS ?_
    | (refine Wp.cond_true ?_ ?_; (· simp only [go_sem, reduceIte, Nat.reduceEqDiff, Nat.reduceAdd, bx, ax, if_true, if_false, Nat.reduceMul, Nat.reduceLeDiff, List.length_map]))
    | (refine Wp.cond_false ?_ ?_; (· simp only [go_sem, reduceIte, Nat.reduceEqDiff, Nat.reduceAdd, bx, ax, if_true, if_false, Nat.reduceMul, Nat.reduceLeDiff, List.length_map]))
    | (refine Wp.cond_dec (p := ?_) ?_ (fun hc => ?_) (fun hc => ?_); rotate_left; (· simp only [go_sem, reduceIte, Nat.reduceEqDiff, Nat.reduceAdd, bx, ax, if_true, if_false, Nat.reduceMul, Nat.reduceLeDiff, List.length_map]; exact rfl))
    | (refine Wp.cond_ndec (p := ?_) ?_ (fun hc => ?_) (fun hc => ?_); rotate_left; (· simp only [go_sem, reduceIte, Nat.reduceEqDiff, Nat.reduceAdd, bx, ax, if_true, if_false, Nat.reduceMul, Nat.reduceLeDiff, List.length_map]; exact rfl))
    | (refine Wp.cond_split (b := ?_) ?_ (fun hc => ?_) (fun hc => ?_); rotate_left; (· simp only [go_sem, reduceIte, Nat.reduceEqDiff, Nat.reduceAdd, bx, ax, if_true, if_false, Nat.reduceMul, Nat.reduceLeDiff, List.length_map]; exact rfl))
    | refine Wp.skip ?_
    | refine Wp.label ?_
    | refine Wp.block ?_
    | refine Wp.exit ?_
    | refine Wp.seq ?_)
  refine Wp.loopN [0, 5, 6] (by simp only [go_sem, reduceIte, Nat.reduceEqDiff, List.map, List.length_map]; exact rfl) (fun j : Nat => [(7, .int .i64 j)]) (fun j => j ≤ l.length ∧ ∀ i, i < j → vOk l i = true) (fun j => l.length - j) 0 ⟨Nat.zero_le _, fun i h => absurd h (by omega)⟩ ?_ ?_
  · simp only [AllSub, go_sem, reduceIte, Nat.reduceEqDiff, Nat.reduceAdd, bx]; and_intros <;> first | exact trivial | exact VSub.refl _ | exact VSub.any _ | (refine VSub.int ?_; omega)
  rintro j n hn ⟨hj, hs⟩
  by_cases hc : j < l.length
  · have g1 : decide (((j : Nat) : Int) < ((l.length : Nat) : Int)) = true := decide_eq_true (by omega)
    have h2 : (0 : Int) ≤ ((j : Nat) : Int) := by omega
    have h3 : ((j : Nat) : Int) < ((l.length : Nat) : Int) := by omega
    have e1 : IntKind.i64.wrap (((j : Nat) : Int) + 1) = ((j + 1 : Nat) : Int) := by rw [IntWalk.i64_in _ (by omega)]; omega
    have hat := enc_at encV l j .any hc
    by_cases hz : j = 0
    · have g2 : decide ((0 : Int) < (j : Int)) = false := decide_eq_false (by omega)
      cases hr : okV (l.getD j default)
      · repeat (first
          | ((first | apply Wp.seqItems | apply Wp.items | ((first
              | (refine WpItems.pcall ?_ ?_ (right_p (l.getD j default)) ?_; (· simp only [go_sem, reduceIte, Nat.reduceEqDiff, Nat.reduceAdd, bx]); (· simp only [go_sem, reduceIte, Nat.reduceEqDiff, Nat.reduceAdd, bx, List.map]; first | exact VSubs.refl _ | (repeat (first | exact VSubs.nil | refine VSubs.cons (by first | exact VSub.refl _ | assumption | exact VSub.cap | exact VSub.any _) ?_))))); apply WpItems.eval)); (· simp only [go_sem, reduceIte, Nat.reduceEqDiff, Nat.reduceAdd, bx, ax, if_true, if_false, Nat.reduceMul, Nat.reduceLeDiff, g1, g2, h2, h3, e1, Int.toNat_natCast, List.length_map, hat, encV, hr]; exact rfl))
          | (refine WpItems.nil ⟨?_, ?_⟩; (· first | trivial | simp [pairsQ, pairsOk, apart, ent0]))
          | (apply Wp.cond_lit; (· simp only [go_sem, reduceIte, Nat.reduceEqDiff, Nat.reduceAdd, bx, ax, if_true, if_false, Nat.reduceMul, Nat.reduceLeDiff, g1, g2, h2, h3, e1, Int.toNat_natCast, List.length_map, hat, encV, hr]; exact rfl); (· rfl))
          | refine Wp.skip ?_
          | refine Wp.label ?_
          | refine Wp.block ?_
          | refine Wp.exit ?_
          | refine Wp.seq ?_)
        refine Wp.ret ⟨trivial, _, rfl, ?_⟩
        simp only [go_sem, reduceIte, Nat.reduceEqDiff, Nat.reduceAdd, bx]
        rw [chB, all_no hc ((vOk_zero hz).trans hr)]; exact VSub.refl _
      · repeat (first
          | ((first | apply Wp.seqItems | apply Wp.items | ((first
              | (refine WpItems.pcall ?_ ?_ (right_p (l.getD j default)) ?_; (· simp only [go_sem, reduceIte, Nat.reduceEqDiff, Nat.reduceAdd, bx]); (· simp only [go_sem, reduceIte, Nat.reduceEqDiff, Nat.reduceAdd, bx, List.map]; first | exact VSubs.refl _ | (repeat (first | exact VSubs.nil | refine VSubs.cons (by first | exact VSub.refl _ | assumption | exact VSub.cap | exact VSub.any _) ?_))))); apply WpItems.eval)); (· simp only [go_sem, reduceIte, Nat.reduceEqDiff, Nat.reduceAdd, bx, ax, if_true, if_false, Nat.reduceMul, Nat.reduceLeDiff, g1, g2, h2, h3, e1, Int.toNat_natCast, List.length_map, hat, encV, hr]; exact rfl))
          | (refine WpItems.nil ⟨?_, ?_⟩; (· first | trivial | simp [pairsQ, pairsOk, apart, ent0]))
          | (apply Wp.cond_lit; (· simp only [go_sem, reduceIte, Nat.reduceEqDiff, Nat.reduceAdd, bx, ax, if_true, if_false, Nat.reduceMul, Nat.reduceLeDiff, g1, g2, h2, h3, e1, Int.toNat_natCast, List.length_map, hat, encV, hr]; exact rfl); (· rfl))
          | refine Wp.skip ?_
          | refine Wp.label ?_
          | refine Wp.block ?_
          | refine Wp.exit ?_
          | refine Wp.seq ?_)
        refine ⟨j + 1, n + 1, by omega, ⟨by omega, all_step hs ((vOk_zero hz).trans hr)⟩, by omega, ?_⟩
        refine StLe.tmN (by omega) (OLe.none _) (by simp only [AllSub, go_sem, reduceIte, Nat.reduceEqDiff, Nat.reduceAdd, bx]; and_intros <;> first | exact trivial | exact VSub.refl _ | exact VSub.any _ | (refine VSub.int ?_; omega))
    · have g2 : decide ((0 : Int) < (j : Int)) = true := decide_eq_true (by omega)
      have e2 : IntKind.i64.wrap ((j : Int) - 1) = ((j - 1 : Nat) : Int) := by rw [IntWalk.i64_in _ (by omega)]; omega
      have h4 : (0 : Int) ≤ ((j - 1 : Nat) : Int) := by omega
      have h5 : ((j - 1 : Nat) : Int) < (l.length : Int) := by omega
      have hat2 := enc_at encV l (j - 1) .any (by omega)
      cases hr : okV (l.getD j default)
      · repeat (first
          | ((first | apply Wp.seqItems | apply Wp.items | ((first
              | (refine WpItems.pcall ?_ ?_ (right_p (l.getD j default)) ?_; (· simp only [go_sem, reduceIte, Nat.reduceEqDiff, Nat.reduceAdd, bx]); (· simp only [go_sem, reduceIte, Nat.reduceEqDiff, Nat.reduceAdd, bx, List.map]; first | exact VSubs.refl _ | (repeat (first | exact VSubs.nil | refine VSubs.cons (by first | exact VSub.refl _ | assumption | exact VSub.cap | exact VSub.any _) ?_))))); apply WpItems.eval)); (· simp only [go_sem, reduceIte, Nat.reduceEqDiff, Nat.reduceAdd, bx, ax, if_true, if_false, Nat.reduceMul, Nat.reduceLeDiff, g1, g2, h2, h3, e1, Int.toNat_natCast, List.length_map, hat, encV, hr]; exact rfl))
          | (refine WpItems.nil ⟨?_, ?_⟩; (· first | trivial | simp [pairsQ, pairsOk, apart, ent0]))
          | (apply Wp.cond_lit; (· simp only [go_sem, reduceIte, Nat.reduceEqDiff, Nat.reduceAdd, bx, ax, if_true, if_false, Nat.reduceMul, Nat.reduceLeDiff, g1, g2, h2, h3, e1, Int.toNat_natCast, List.length_map, hat, encV, hr]; exact rfl); (· rfl))
          | refine Wp.skip ?_
          | refine Wp.label ?_
          | refine Wp.block ?_
          | refine Wp.exit ?_
          | refine Wp.seq ?_)
        refine Wp.ret ⟨trivial, _, rfl, ?_⟩
        simp only [go_sem, reduceIte, Nat.reduceEqDiff, Nat.reduceAdd, bx]
        rw [chB, all_no hc ((vOk_pos hz).trans (by rw [hr]; rfl))]; exact VSub.refl _
      · cases hp : decide ((l.getD (j - 1) default).t ≤ (l.getD j default).t)
        · have hlt : (l.getD j default).t < (l.getD (j - 1) default).t := by simp only [decide_eq_false_iff_not] at hp; omega
          repeat (first
            | ((first | apply Wp.seqItems | apply Wp.items | ((first
                | (refine WpItems.pcall ?_ ?_ (right_p (l.getD j default)) ?_; (· simp only [go_sem, reduceIte, Nat.reduceEqDiff, Nat.reduceAdd, bx]); (· simp only [go_sem, reduceIte, Nat.reduceEqDiff, Nat.reduceAdd, bx, List.map]; first | exact VSubs.refl _ | (repeat (first | exact VSubs.nil | refine VSubs.cons (by first | exact VSub.refl _ | assumption | exact VSub.cap | exact VSub.any _) ?_))))); apply WpItems.eval)); (· simp only [go_sem, reduceIte, Nat.reduceEqDiff, Nat.reduceAdd, bx, ax, if_true, if_false, Nat.reduceMul, Nat.reduceLeDiff, g1, g2, h2, h3, h4, h5, e1, e2, Int.toNat_natCast, List.length_map, hat, hat2, encV, hr, hp]; exact rfl))
            | (refine WpItems.nil ⟨?_, ?_⟩; (· first | trivial | simp [pairsQ, pairsOk, apart, ent0]))
            | (apply Wp.cond_lit; (· simp only [go_sem, reduceIte, Nat.reduceEqDiff, Nat.reduceAdd, bx, ax, if_true, if_false, Nat.reduceMul, Nat.reduceLeDiff, g1, g2, h2, h3, h4, h5, e1, e2, Int.toNat_natCast, List.length_map, hat, hat2, encV, hr, hp]; exact rfl); (· rfl))
            | refine Wp.skip ?_
            | refine Wp.label ?_
            | refine Wp.block ?_
            | refine Wp.exit ?_
            | refine Wp.seq ?_)
          refine ⟨j + 1, n + 1, by omega, ⟨by omega, all_step hs ((vOk_pos hz).trans (by rw [hr]; simpa using hlt))⟩, by omega, ?_⟩
          refine StLe.tmN (by omega) (OLe.none _) (by simp only [AllSub, go_sem, reduceIte, Nat.reduceEqDiff, Nat.reduceAdd, bx]; and_intros <;> first | exact trivial | exact VSub.refl _ | exact VSub.any _ | (refine VSub.int ?_; omega))
        · have hlt : ¬ (l.getD j default).t < (l.getD (j - 1) default).t := by simp only [decide_eq_true_eq] at hp; omega
          repeat (first
            | ((first | apply Wp.seqItems | apply Wp.items | ((first
                | (refine WpItems.pcall ?_ ?_ (right_p (l.getD j default)) ?_; (· simp only [go_sem, reduceIte, Nat.reduceEqDiff, Nat.reduceAdd, bx]); (· simp only [go_sem, reduceIte, Nat.reduceEqDiff, Nat.reduceAdd, bx, List.map]; first | exact VSubs.refl _ | (repeat (first | exact VSubs.nil | refine VSubs.cons (by first | exact VSub.refl _ | assumption | exact VSub.cap | exact VSub.any _) ?_))))); apply WpItems.eval)); (· simp only [go_sem, reduceIte, Nat.reduceEqDiff, Nat.reduceAdd, bx, ax, if_true, if_false, Nat.reduceMul, Nat.reduceLeDiff, g1, g2, h2, h3, h4, h5, e1, e2, Int.toNat_natCast, List.length_map, hat, hat2, encV, hr, hp]; exact rfl))
            | (refine WpItems.nil ⟨?_, ?_⟩; (· first | trivial | simp [pairsQ, pairsOk, apart, ent0]))
            | (apply Wp.cond_lit; (· simp only [go_sem, reduceIte, Nat.reduceEqDiff, Nat.reduceAdd, bx, ax, if_true, if_false, Nat.reduceMul, Nat.reduceLeDiff, g1, g2, h2, h3, h4, h5, e1, e2, Int.toNat_natCast, List.length_map, hat, hat2, encV, hr, hp]; exact rfl); (· rfl))
            | refine Wp.skip ?_
            | refine Wp.label ?_
            | refine Wp.block ?_
            | refine Wp.exit ?_
            | refine Wp.seq ?_)
          refine Wp.ret ⟨trivial, _, rfl, ?_⟩
          simp only [go_sem, reduceIte, Nat.reduceEqDiff, Nat.reduceAdd, bx]
          rw [chB, all_no hc ((vOk_pos hz).trans (by rw [hr]; simpa using hlt))]; exact VSub.refl _
  · obtain rfl : j = l.length := by omega
    have g1 : decide (((l.length : Nat) : Int) < ((l.length : Nat) : Int)) = false := decide_eq_false (by omega)
    repeat (first
      | ((first | apply Wp.seqItems | apply Wp.items); (· simp only [go_sem, reduceIte, Nat.reduceEqDiff, Nat.reduceAdd, bx, ax, if_true, if_false, Nat.reduceMul, Nat.reduceLeDiff, g1, List.length_map]; exact rfl))
      | (refine WpItems.nil ⟨?_, ?_⟩; (· first | trivial | simp [pairsQ, pairsOk, apart, ent0]))
      | (apply Wp.cond_lit; (· simp only [go_sem, reduceIte, Nat.reduceEqDiff, Nat.reduceAdd, bx, ax, if_true, if_false, Nat.reduceMul, Nat.reduceLeDiff, g1, List.length_map]; exact rfl); (· rfl))
      | refine Wp.skip ?_
      | refine Wp.label ?_
      | refine Wp.block ?_
      | refine Wp.exit ?_
      | refine Wp.seq ?_)
    refine Wp.ret ⟨trivial, _, rfl, ?_⟩
    simp only [go_sem, reduceIte, Nat.reduceEqDiff, Nat.reduceAdd, bx]
    rw [chB, all_yes hs]; exact VSub.refl _
end Go.Proofs.Ytpehfflehebmbaa.Space
end
section
set_option linter.unusedSimpArgs false
set_option linter.unusedVariables false
set_option maxRecDepth 10000
namespace Go.Proofs.Ytpehfflehebmbaa.Space
open Go Go.Av Go.Proofs Go.Proofs.Ytpehfflehebmbaa.C Go.Proofs.Ytpehfflehebmbaa.Batch
set_option maxHeartbeats 1000000 in
theorem rightsR_p (l : List Ver) (hl : l.length ≤ 1152921504606846976) : PCalls Try.prog 67 [.sl 3 (l.map encV) .any] (.bool (chB l)) := by
  refine f67.pcalls0 (by simp) (by simp [allPure, isPure, capPure, vers_pure]) rfl ?_
  unfold c67
  repeat (first
    | ((first | apply Wp.seqItems | apply Wp.items); (· simp only [go_sem, reduceIte, Nat.reduceEqDiff, Nat.reduceAdd, bx, ax, if_true, if_false, Nat.reduceMul, Nat.reduceLeDiff]; exact rfl))
    | (refine WpItems.nil ⟨?_, ?_⟩; (· first | trivial | simp [pairsQ, pairsOk, apart, ent0]))
    | (apply Wp.cond_lit; (· simp only [go_sem, reduceIte, Nat.reduceEqDiff, Nat.reduceAdd, bx, ax, if_true, if_false, Nat.reduceMul, Nat.reduceLeDiff]; exact rfl); (· rfl))
    | refine Wp.skip ?_
    | refine Wp.label ?_
    | refine Wp.block ?_
    | refine Wp.exit ?_
    | refine Wp.seq ?_)
  refine Wp.loopK [0] (by simp only [go_sem, reduceIte, Nat.reduceEqDiff, Nat.reduceAdd, bx, List.map]; exact rfl) (fun j : Nat => [(3, .int .i64 j)]) (fun j => j ≤ l.length ∧ ∀ i, i < j → vOk l i = true) (fun j => l.length - j) 0 ⟨Nat.zero_le _, fun i h => absurd h (by omega)⟩ ?_ ?_
  · simp only [AllSub, go_sem, reduceIte, Nat.reduceEqDiff, Nat.reduceAdd, bx]; and_intros <;> first | exact trivial | exact VSub.refl _ | exact VSub.any _ | (refine VSub.int ?_; omega)
  rintro j ⟨hj, hs⟩
  by_cases hc : j < l.length
  · have g1 : decide (((j : Nat) : Int) < ((l.length : Nat) : Int)) = true := decide_eq_true (by omega)
    have h2 : (0 : Int) ≤ ((j : Nat) : Int) := by omega
    have h3 : ((j : Nat) : Int) < ((l.length : Nat) : Int) := by omega
    have e1 : IntKind.i64.wrap (((j : Nat) : Int) + 1) = ((j + 1 : Nat) : Int) := by rw [IntWalk.i64_in _ (by omega)]; omega
    have hat := enc_at encV l j .any hc
    by_cases hz : j = 0
    · have g2 : decide ((0 : Int) < (j : Int)) = false := decide_eq_false (by omega)
      cases hr : okV (l.getD j default)
      · repeat (first
          | ((first | apply Wp.seqItems | apply Wp.items | ((first
              | (refine WpItems.pcall ?_ ?_ (rightR_p (l.getD j default)) ?_; (· simp only [go_sem, reduceIte, Nat.reduceEqDiff, Nat.reduceAdd, bx]); (· simp only [go_sem, reduceIte, Nat.reduceEqDiff, Nat.reduceAdd, bx, List.map]; first | exact VSubs.refl _ | (repeat (first | exact VSubs.nil | refine VSubs.cons (by first | exact VSub.refl _ | assumption | exact VSub.cap | exact VSub.any _) ?_))))); apply WpItems.eval)); (· simp only [go_sem, reduceIte, Nat.reduceEqDiff, Nat.reduceAdd, bx, ax, if_true, if_false, Nat.reduceMul, Nat.reduceLeDiff, g1, g2, h2, h3, e1, Int.toNat_natCast, List.length_map, hat, encV, hr]; exact rfl))
          | (refine WpItems.nil ⟨?_, ?_⟩; (· first | trivial | simp [pairsQ, pairsOk, apart, ent0]))
          | (apply Wp.cond_lit; (· simp only [go_sem, reduceIte, Nat.reduceEqDiff, Nat.reduceAdd, bx, ax, if_true, if_false, Nat.reduceMul, Nat.reduceLeDiff, g1, g2, h2, h3, e1, Int.toNat_natCast, List.length_map, hat, encV, hr]; exact rfl); (· rfl))
          | refine Wp.skip ?_
          | refine Wp.label ?_
          | refine Wp.block ?_
          | refine Wp.exit ?_
          | refine Wp.seq ?_)
        refine Wp.ret ⟨trivial, _, rfl, ?_⟩
        simp only [go_sem, reduceIte, Nat.reduceEqDiff, Nat.reduceAdd, bx]
        rw [chB, all_no hc ((vOk_zero hz).trans hr)]; exact VSub.refl _
      · repeat (first
          | ((first | apply Wp.seqItems | apply Wp.items | ((first
              | (refine WpItems.pcall ?_ ?_ (rightR_p (l.getD j default)) ?_; (· simp only [go_sem, reduceIte, Nat.reduceEqDiff, Nat.reduceAdd, bx]); (· simp only [go_sem, reduceIte, Nat.reduceEqDiff, Nat.reduceAdd, bx, List.map]; first | exact VSubs.refl _ | (repeat (first | exact VSubs.nil | refine VSubs.cons (by first | exact VSub.refl _ | assumption | exact VSub.cap | exact VSub.any _) ?_))))); apply WpItems.eval)); (· simp only [go_sem, reduceIte, Nat.reduceEqDiff, Nat.reduceAdd, bx, ax, if_true, if_false, Nat.reduceMul, Nat.reduceLeDiff, g1, g2, h2, h3, e1, Int.toNat_natCast, List.length_map, hat, encV, hr]; exact rfl))
          | (refine WpItems.nil ⟨?_, ?_⟩; (· first | trivial | simp [pairsQ, pairsOk, apart, ent0]))
          | (apply Wp.cond_lit; (· simp only [go_sem, reduceIte, Nat.reduceEqDiff, Nat.reduceAdd, bx, ax, if_true, if_false, Nat.reduceMul, Nat.reduceLeDiff, g1, g2, h2, h3, e1, Int.toNat_natCast, List.length_map, hat, encV, hr]; exact rfl); (· rfl))
          | refine Wp.skip ?_
          | refine Wp.label ?_
          | refine Wp.block ?_
          | refine Wp.exit ?_
          | refine Wp.seq ?_)
        refine ⟨j + 1, ⟨by omega, all_step hs ((vOk_zero hz).trans hr)⟩, by omega, ?_⟩
        refine StLe.tm (by simp only [AllSub, go_sem, reduceIte, Nat.reduceEqDiff, Nat.reduceAdd, bx]; and_intros <;> first | exact trivial | exact VSub.refl _ | exact VSub.any _ | (refine VSub.int ?_; omega))
    · have g2 : decide ((0 : Int) < (j : Int)) = true := decide_eq_true (by omega)
      have e2 : IntKind.i64.wrap ((j : Int) - 1) = ((j - 1 : Nat) : Int) := by rw [IntWalk.i64_in _ (by omega)]; omega
      have h4 : (0 : Int) ≤ ((j - 1 : Nat) : Int) := by omega
      have h5 : ((j - 1 : Nat) : Int) < (l.length : Int) := by omega
      have hat2 := enc_at encV l (j - 1) .any (by omega)
      cases hr : okV (l.getD j default)
      · repeat (first
          | ((first | apply Wp.seqItems | apply Wp.items | ((first
              | (refine WpItems.pcall ?_ ?_ (rightR_p (l.getD j default)) ?_; (· simp only [go_sem, reduceIte, Nat.reduceEqDiff, Nat.reduceAdd, bx]); (· simp only [go_sem, reduceIte, Nat.reduceEqDiff, Nat.reduceAdd, bx, List.map]; first | exact VSubs.refl _ | (repeat (first | exact VSubs.nil | refine VSubs.cons (by first | exact VSub.refl _ | assumption | exact VSub.cap | exact VSub.any _) ?_))))); apply WpItems.eval)); (· simp only [go_sem, reduceIte, Nat.reduceEqDiff, Nat.reduceAdd, bx, ax, if_true, if_false, Nat.reduceMul, Nat.reduceLeDiff, g1, g2, h2, h3, e1, Int.toNat_natCast, List.length_map, hat, encV, hr]; exact rfl))
          | (refine WpItems.nil ⟨?_, ?_⟩; (· first | trivial | simp [pairsQ, pairsOk, apart, ent0]))
          | (apply Wp.cond_lit; (· simp only [go_sem, reduceIte, Nat.reduceEqDiff, Nat.reduceAdd, bx, ax, if_true, if_false, Nat.reduceMul, Nat.reduceLeDiff, g1, g2, h2, h3, e1, Int.toNat_natCast, List.length_map, hat, encV, hr]; exact rfl); (· rfl))
          | refine Wp.skip ?_
          | refine Wp.label ?_
          | refine Wp.block ?_
          | refine Wp.exit ?_
          | refine Wp.seq ?_)
        refine Wp.ret ⟨trivial, _, rfl, ?_⟩
        simp only [go_sem, reduceIte, Nat.reduceEqDiff, Nat.reduceAdd, bx]
        rw [chB, all_no hc ((vOk_pos hz).trans (by rw [hr]; rfl))]; exact VSub.refl _
      · cases hp : decide ((l.getD (j - 1) default).t ≤ (l.getD j default).t)
        · have hlt : (l.getD j default).t < (l.getD (j - 1) default).t := by simp only [decide_eq_false_iff_not] at hp; omega
          repeat (first
            | ((first | apply Wp.seqItems | apply Wp.items | ((first
                | (refine WpItems.pcall ?_ ?_ (rightR_p (l.getD j default)) ?_; (· simp only [go_sem, reduceIte, Nat.reduceEqDiff, Nat.reduceAdd, bx]); (· simp only [go_sem, reduceIte, Nat.reduceEqDiff, Nat.reduceAdd, bx, List.map]; first | exact VSubs.refl _ | (repeat (first | exact VSubs.nil | refine VSubs.cons (by first | exact VSub.refl _ | assumption | exact VSub.cap | exact VSub.any _) ?_))))); apply WpItems.eval)); (· simp only [go_sem, reduceIte, Nat.reduceEqDiff, Nat.reduceAdd, bx, ax, if_true, if_false, Nat.reduceMul, Nat.reduceLeDiff, g1, g2, h2, h3, h4, h5, e1, e2, Int.toNat_natCast, List.length_map, hat, hat2, encV, hr, hp]; exact rfl))
            | (refine WpItems.nil ⟨?_, ?_⟩; (· first | trivial | simp [pairsQ, pairsOk, apart, ent0]))
            | (apply Wp.cond_lit; (· simp only [go_sem, reduceIte, Nat.reduceEqDiff, Nat.reduceAdd, bx, ax, if_true, if_false, Nat.reduceMul, Nat.reduceLeDiff, g1, g2, h2, h3, h4, h5, e1, e2, Int.toNat_natCast, List.length_map, hat, hat2, encV, hr, hp]; exact rfl); (· rfl))
            | refine Wp.skip ?_
            | refine Wp.label ?_
            | refine Wp.block ?_
            | refine Wp.exit ?_
            | refine Wp.seq ?_)
          refine ⟨j + 1, ⟨by omega, all_step hs ((vOk_pos hz).trans (by rw [hr]; simpa using hlt))⟩, by omega, ?_⟩
          refine StLe.tm (by simp only [AllSub, go_sem, reduceIte, Nat.reduceEqDiff, Nat.reduceAdd, bx]; and_intros <;> first | exact trivial | exact VSub.refl _ | exact VSub.any _ | (refine VSub.int ?_; omega))
        · have hlt : ¬ (l.getD j default).t < (l.getD (j - 1) default).t := by simp only [decide_eq_true_eq] at hp; omega
          repeat (first
            | ((first | apply Wp.seqItems | apply Wp.items | ((first
                | (refine WpItems.pcall ?_ ?_ (rightR_p (l.getD j default)) ?_; (· simp only [go_sem, reduceIte, Nat.reduceEqDiff, Nat.reduceAdd, bx]); (· simp only [go_sem, reduceIte, Nat.reduceEqDiff, Nat.reduceAdd, bx, List.map]; first | exact VSubs.refl _ | (repeat (first | exact VSubs.nil | refine VSubs.cons (by first | exact VSub.refl _ | assumption | exact VSub.cap | exact VSub.any _) ?_))))); apply WpItems.eval)); (· simp only [go_sem, reduceIte, Nat.reduceEqDiff, Nat.reduceAdd, bx, ax, if_true, if_false, Nat.reduceMul, Nat.reduceLeDiff, g1, g2, h2, h3, h4, h5, e1, e2, Int.toNat_natCast, List.length_map, hat, hat2, encV, hr, hp]; exact rfl))
            | (refine WpItems.nil ⟨?_, ?_⟩; (· first | trivial | simp [pairsQ, pairsOk, apart, ent0]))
            | (apply Wp.cond_lit; (· simp only [go_sem, reduceIte, Nat.reduceEqDiff, Nat.reduceAdd, bx, ax, if_true, if_false, Nat.reduceMul, Nat.reduceLeDiff, g1, g2, h2, h3, h4, h5, e1, e2, Int.toNat_natCast, List.length_map, hat, hat2, encV, hr, hp]; exact rfl); (· rfl))
            | refine Wp.skip ?_
            | refine Wp.label ?_
            | refine Wp.block ?_
            | refine Wp.exit ?_
            | refine Wp.seq ?_)
          refine Wp.ret ⟨trivial, _, rfl, ?_⟩
          simp only [go_sem, reduceIte, Nat.reduceEqDiff, Nat.reduceAdd, bx]
          rw [chB, all_no hc ((vOk_pos hz).trans (by rw [hr]; simpa using hlt))]; exact VSub.refl _
  · obtain rfl : j = l.length := by omega
    have g1 : decide (((l.length : Nat) : Int) < ((l.length : Nat) : Int)) = false := decide_eq_false (by omega)
    repeat (first
      | ((first | apply Wp.seqItems | apply Wp.items); (· simp only [go_sem, reduceIte, Nat.reduceEqDiff, Nat.reduceAdd, bx, ax, if_true, if_false, Nat.reduceMul, Nat.reduceLeDiff, g1, List.length_map]; exact rfl))
      | (refine WpItems.nil ⟨?_, ?_⟩; (· first | trivial | simp [pairsQ, pairsOk, apart, ent0]))
      | (apply Wp.cond_lit; (· simp only [go_sem, reduceIte, Nat.reduceEqDiff, Nat.reduceAdd, bx, ax, if_true, if_false, Nat.reduceMul, Nat.reduceLeDiff, g1, List.length_map]; exact rfl); (· rfl))
      | refine Wp.skip ?_
      | refine Wp.label ?_
      | refine Wp.block ?_
      | refine Wp.exit ?_
      | refine Wp.seq ?_)
    refine Wp.ret ⟨trivial, _, rfl, ?_⟩
    simp only [go_sem, reduceIte, Nat.reduceEqDiff, Nat.reduceAdd, bx]
    rw [chB, all_yes hs]; exact VSub.refl _
def plc (l : List Ver) (t : Int) : Nat := l.findIdx fun v => decide (v.t ≤ t)
theorem plc_le (l : List Ver) (t : Int) : plc l t ≤ l.length := List.findIdx_le_length
theorem desc {l : List Ver} (h : chB l = true) {i : Nat} : ∀ {j}, i < j → j < l.length → (l.getD j default).t < (l.getD i default).t
  | 0, hij, _ => absurd hij (by omega)
  | j + 1, hij, hj => by
    have h1 := List.all_eq_true.1 h (j + 1) (List.mem_range.2 hj)
    have h2 : (l.getD (j + 1) default).t < (l.getD j default).t := by
      rw [vOk_pos (by omega)] at h1
      simp only [Bool.and_eq_true, decide_eq_true_eq] at h1
      exact h1.2
    by_cases e : i = j
    · subst e; exact h2
    · exact Int.lt_trans h2 (desc h (by omega) (by omega))
theorem plc_lt {l : List Ver} {t : Int} {i : Nat} (h : i < plc l t) : ¬ (l.getD i default).t ≤ t := by
  have hl : i < l.length := Nat.lt_of_lt_of_le h (plc_le l t)
  have := List.not_of_lt_findIdx h
  rw [getD_el hl]
  simpa using this
theorem plc_at {l : List Ver} {t : Int} (h : plc l t < l.length) : (l.getD (plc l t) default).t ≤ t := by
  have := List.findIdx_getElem (p := fun v : Ver => decide (v.t ≤ t)) (xs := l) (w := h)
  rw [getD_el h]
  have h2 : (l[plc l t]'h).t ≤ t := of_decide_eq_true this
  exact h2
theorem plc_ge {l : List Ver} {t : Int} {i : Nat} (hc : chB l = true) (h : plc l t ≤ i) (hl : i < l.length) : (l.getD i default).t ≤ t := by
  have h1 := plc_at (l := l) (t := t) (by omega)
  by_cases e : i = plc l t
  · rw [e]; exact h1
  · exact Int.le_trans (Int.le_of_lt (desc hc (by omega) hl)) h1
theorem sortSearch_p (len : Nat) (hlen : len ≤ 1152921504606846976) {g : FuncId} {fn : Func} (hf : Try.prog.funcs[g]? = some fn) (hb : fn.body.isSome = true) (hn : fn.name ≠ "runtime.NumGoroutine") (caps : List AV) (hcp : allPure caps = true)
    (r : Nat) (hr : r ≤ len) (h0 : ∀ i, i < r → PCalls Try.prog g (.int .i64 (i : Nat) :: caps) (.bool false)) (h1 : ∀ i, r ≤ i → i < len → PCalls Try.prog g (.int .i64 (i : Nat) :: caps) (.bool true)) :
    PCalls Try.prog 138 [.int .i64 len, .clo (.func g) [] caps] (.int .i64 r) := by
  refine f138.pcalls0 (by simp) (by simp [allPure, isPure, hcp]) rfl ?_
  unfold c138
  refine Wp.seqReg (by simp only [go_sem, reduceIte, Nat.reduceEqDiff, Nat.reduceAdd, bx]; exact rfl) (by trivial) ?_
  refine Wp.seqReg (by simp only [go_sem, reduceIte, Nat.reduceEqDiff, Nat.reduceAdd, bx]; exact rfl) (by trivial) ?_
  refine Wp.seq ?_
  refine Wp.block ?_
  refine Wp.loopK [1] (by simp only [go_sem, reduceIte, Nat.reduceEqDiff, Nat.reduceAdd, bx, List.map]; exact rfl) (fun j : Nat × Nat => [(5, .int .i64 j.1), (6, .int .i64 j.2)]) (fun j => j.1 ≤ r ∧ r ≤ j.2 ∧ j.2 ≤ len) (fun j => j.2 - j.1) (0, len) ⟨Nat.zero_le _, hr, Nat.le_refl _⟩ ?_ ?_
  · simp only [AllSub, go_sem, reduceIte, Nat.reduceEqDiff, Nat.reduceAdd, bx]; and_intros <;> first | exact trivial | exact VSub.refl _ | exact VSub.any _ | (refine VSub.int ?_; omega)
  · rintro ⟨i, j⟩ ⟨a1, a2, a3⟩
    simp only at a1 a2 a3
    refine Wp.seq ?_
    refine Wp.seqReg (by simp only [go_sem, reduceIte, Nat.reduceEqDiff, Nat.reduceAdd, bx]; exact rfl) (by trivial) ?_
    refine Wp.cond_split (b := decide ((i : Int) < (j : Int))) (by simp only [go_sem, reduceIte, Nat.reduceEqDiff, Nat.reduceAdd, bx]) (fun hc => ?_) (fun hc => ?_)
    · have hc' : (i : Int) < (j : Int) := by simpa using hc
      have e1 : IntKind.i64.wrap ((i : Int) + (j : Int)) = ((i + j : Nat) : Int) := by rw [IntWalk.i64_in _ (by omega)]; omega
      have e2 : IntKind.u64.wrap ((i + j : Nat) : Int) = ((i + j : Nat) : Int) := IntWalk.u64_in _ (by omega)
      have e3 : ((i + j : Nat) : Int).fdiv (2 ^ (min (Int.toNat 1) 64)) = (((i + j) / 2 : Nat) : Int) := by
        rw [show min (Int.toNat 1) 64 = 1 from rfl, Int.fdiv_eq_ediv_of_nonneg _ (by omega)]
        omega
      have e4 : IntKind.i64.wrap (((i + j) / 2 : Nat) : Int) = (((i + j) / 2 : Nat) : Int) := IntWalk.i64_in _ (by omega)
      have e5 : ¬ (1 : Int) < 0 := by omega
      refine Wp.skip ?_
      refine Wp.block ?_
      refine Wp.seqReg (by simp only [go_sem, reduceIte, Nat.reduceEqDiff, Nat.reduceAdd, bx, e1, e2, IntKind.bits, e3, e4, e5]; exact rfl) (by trivial) ?_
      refine Wp.seqItems (by simp only [go_sem, reduceIte, Nat.reduceEqDiff, Nat.reduceAdd, bx]; exact rfl) ?_
      by_cases hh : (i + j) / 2 < r
      · refine WpItems.pcallv (by simp only [go_sem]) (by simp only [go_sem, reduceIte, Nat.reduceEqDiff]; exact rfl) hf hb hn (by simp only [go_sem, reduceIte, Nat.reduceEqDiff, List.map]; exact VSubs.refl _) (h0 _ hh) ?_
        refine WpItems.eval (by simp only [go_sem, reduceIte, Nat.reduceEqDiff, Nat.reduceAdd, bx]; exact rfl) ?_
        refine WpItems.nil ⟨by trivial, ?_⟩
        refine Wp.cond_true (by simp only [go_sem, reduceIte, Nat.reduceEqDiff, Nat.reduceAdd, bx]) ?_
        refine Wp.reg1 (by simp only [go_sem, reduceIte, Nat.reduceEqDiff, Nat.reduceAdd, bx]; simp (disch := omega) only [IntWalk.i64_in]; exact rfl) (by trivial) ?_
        refine ⟨((i + j) / 2 + 1, j), ⟨by simp only; omega, by simp only; omega, by simp only; omega⟩, by simp only; omega, ?_⟩
        refine StLe.tm (by simp only [AllSub, go_sem, reduceIte, Nat.reduceEqDiff, Nat.reduceAdd, bx]; and_intros <;> first | exact trivial | exact VSub.refl _ | exact VSub.any _ | (refine VSub.int ?_; omega))
      · refine WpItems.pcallv (by simp only [go_sem]) (by simp only [go_sem, reduceIte, Nat.reduceEqDiff]; exact rfl) hf hb hn (by simp only [go_sem, reduceIte, Nat.reduceEqDiff, List.map]; exact VSubs.refl _) (h1 _ (by omega) (by omega)) ?_
        refine WpItems.eval (by simp only [go_sem, reduceIte, Nat.reduceEqDiff, Nat.reduceAdd, bx]; exact rfl) ?_
        refine WpItems.nil ⟨by trivial, ?_⟩
        refine Wp.cond_false (by simp only [go_sem, reduceIte, Nat.reduceEqDiff, Nat.reduceAdd, bx]) ?_
        refine Wp.reg1 (by simp only [go_sem, reduceIte, Nat.reduceEqDiff, Nat.reduceAdd, bx]; exact rfl) (by trivial) ?_
        refine ⟨(i, (i + j) / 2), ⟨by simp only; omega, by simp only; omega, by simp only; omega⟩, by simp only; omega, ?_⟩
        refine StLe.tm (by simp only [AllSub, go_sem, reduceIte, Nat.reduceEqDiff, Nat.reduceAdd, bx]; and_intros <;> first | exact trivial | exact VSub.refl _ | exact VSub.any _ | (refine VSub.int ?_; omega))
    · have hc' : ¬ (i : Int) < (j : Int) := by simpa using hc
      obtain rfl : i = r := by omega
      refine Wp.exit ?_
      refine Wp.seqReg (by simp only [go_sem, reduceIte, Nat.reduceEqDiff, Nat.reduceAdd, bx]; exact rfl) (by trivial) ?_
      refine Wp.ret ⟨trivial, _, rfl, ?_⟩
      simp only [go_sem, reduceIte, Nat.reduceEqDiff, Nat.reduceAdd, bx]
      exact VSub.refl _
theorem place1_p (l : List Ver) (hl : l.length ≤ 1152921504606846976) (t : Int) (i : Nat) (hi : i < l.length) : PCalls Try.prog 139 [.int .i64 i, .ref [.sl 3 (l.map encV) .any], .ref [.int .i64 t]] (.bool (decide ((l.getD i default).t ≤ t))) := by
  refine f139.pcalls0 (by simp) (by simp [allPure, isPure, capPure, vers_pure]) rfl ?_
  unfold c139
  have g1 : decide (((i : Nat) : Int) < ((l.length : Nat) : Int)) = true := decide_eq_true (by omega)
  have h2 : (0 : Int) ≤ ((i : Nat) : Int) := by omega
  have h3 : ((i : Nat) : Int) < ((l.length : Nat) : Int) := by omega
  have e1 : IntKind.i64.wrap (((i : Nat) : Int) + 1) = ((i + 1 : Nat) : Int) := by rw [IntWalk.i64_in _ (by omega)]; omega
  have hat := enc_at encV l i .any hi
  repeat (first
    | ((first | apply Wp.seqItems | apply Wp.items); (· simp only [go_sem, reduceIte, Nat.reduceEqDiff, Nat.reduceAdd, bx, ax, if_true, if_false, Nat.reduceMul, Nat.reduceLeDiff, g1, h2, h3, Int.toNat_natCast, List.length_map, hat, encV]; exact rfl))
    | (refine WpItems.nil ⟨?_, ?_⟩; (· first | trivial | simp [pairsQ, pairsOk, apart, ent0]))
    | (apply Wp.cond_lit; (· simp only [go_sem, reduceIte, Nat.reduceEqDiff, Nat.reduceAdd, bx, ax, if_true, if_false, Nat.reduceMul, Nat.reduceLeDiff, g1, h2, h3, Int.toNat_natCast, List.length_map, hat, encV]; exact rfl); (· rfl))
    | refine Wp.skip ?_
    | refine Wp.label ?_
    | refine Wp.block ?_
    | refine Wp.exit ?_
    | refine Wp.seq ?_)
  refine Wp.ret ⟨trivial, _, rfl, ?_⟩
  simp only [go_sem, reduceIte, Nat.reduceEqDiff, Nat.reduceAdd, bx]
  exact VSub.refl _
theorem place_p (l : List Ver) (hl : l.length ≤ 1152921504606846976) (hc : chB l = true) (t : Int) : PCalls Try.prog 107 [.sl 3 (l.map encV) .any, .int .i64 t] (.int .i64 (plc l t)) := by
  refine f107.pcalls0 (by simp) (by simp [allPure, isPure, capPure, vers_pure]) rfl ?_
  unfold c107
  refine Wp.seqReg (by simp only [go_sem, reduceIte, Nat.reduceEqDiff, Nat.reduceAdd, bx]; exact rfl) (by trivial) ?_
  refine Wp.frz (fun _ => true) [(2, .ref [.sl 3 (l.map encV) .any]), (3, .ref [.int .i64 t])] ⟨none', 2, [], 0⟩ ?_ (OLe.none _) (by simp) (by simp [go_sem]) (Nat.le_refl _) ?_
  · simp only [AllSub, go_sem, reduceIte, Nat.reduceEqDiff, unT, and_true]
    and_intros <;> exact VSub.refl _
  have hs := sortSearch_p l.length hl Try.func139 rfl (of_decide_eq_true (by kernel_rfl)) [.ref [.sl 3 (l.map encV) .any], .ref [.int .i64 t]] (by simp [allPure, isPure, capPure, vers_pure]) (plc l t) (plc_le l t)
    (fun i hi => by have := place1_p l hl t i (by have := plc_le l t; omega); rwa [decide_eq_false (plc_lt hi)] at this)
    (fun i hi hi2 => by have := place1_p l hl t i hi2; rwa [decide_eq_true (plc_ge hc hi hi2)] at this)
  repeat (first
    | ((first | apply Wp.seqItems | apply Wp.items | ((first
        | (refine WpItems.pcall ?_ ?_ (hs) ?_; (· simp only [go_sem, reduceIte, Nat.reduceEqDiff, Nat.reduceAdd, bx]); (· simp only [go_sem, reduceIte, Nat.reduceEqDiff, Nat.reduceAdd, bx, List.map]; first | exact VSubs.refl _ | (repeat (first | exact VSubs.nil | refine VSubs.cons (by first | exact VSub.refl _ | assumption | exact VSub.cap | exact VSub.any _) ?_))))); apply WpItems.eval)); (· simp only [go_sem, reduceIte, Nat.reduceEqDiff, Nat.reduceAdd, bx, ax, if_true, if_false, Nat.reduceMul, Nat.reduceLeDiff, List.length_map]; exact rfl))
    | (refine WpItems.nil ⟨?_, ?_⟩; (· first | trivial | simp [pairsQ, pairsOk, apart, ent0]))
    | (apply Wp.cond_lit; (· simp only [go_sem, reduceIte, Nat.reduceEqDiff, Nat.reduceAdd, bx, ax, if_true, if_false, Nat.reduceMul, Nat.reduceLeDiff, List.length_map]; exact rfl); (· rfl))
    | refine Wp.skip ?_
    | refine Wp.label ?_
    | refine Wp.block ?_
    | refine Wp.exit ?_
    | refine Wp.seq ?_)
  refine Wp.ret ⟨trivial, _, rfl, ?_⟩
  simp only [go_sem, reduceIte, Nat.reduceEqDiff, Nat.reduceAdd, bx]
  exact VSub.refl _
def sinceB (l : List Ver) (t : Int) : Bool := chB l && decide (0 < plc l t)
theorem since_p (l : List Ver) (hl : l.length ≤ 1152921504606846976) (t : Int) : PCalls Try.prog 63 [.sl 3 (l.map encV) .any, .int .i64 t] (.bool (sinceB l t)) := by
  refine f63.pcalls0 (by simp) (by simp [allPure, isPure, capPure, vers_pure]) rfl ?_
  unfold c63
  have hck := check_p l hl
  have d0 : decide ((0 : Int) = 0) = true := rfl
  have d4 : decide ((4 : Int) = 0) = false := rfl
  cases hc : chB l with
  | false =>
    simp only [hc, Bool.false_eq_true, if_false] at hck
    repeat (first
      | ((first | apply Wp.seqItems | apply Wp.items | ((first
          | (refine WpItems.pcall ?_ ?_ (hck) ?_; (· simp only [go_sem, reduceIte, Nat.reduceEqDiff, Nat.reduceAdd, bx]); (· simp only [go_sem, reduceIte, Nat.reduceEqDiff, Nat.reduceAdd, bx, List.map]; first | exact VSubs.refl _ | (repeat (first | exact VSubs.nil | refine VSubs.cons (by first | exact VSub.refl _ | assumption | exact VSub.cap | exact VSub.any _) ?_))))); apply WpItems.eval)); (· simp only [go_sem, reduceIte, Nat.reduceEqDiff, Nat.reduceAdd, bx, ax, if_true, if_false, Nat.reduceMul, Nat.reduceLeDiff, d4]; exact rfl))
      | (refine WpItems.nil ⟨?_, ?_⟩; (· first | trivial | simp [pairsQ, pairsOk, apart, ent0]))
      | (apply Wp.cond_lit; (· simp only [go_sem, reduceIte, Nat.reduceEqDiff, Nat.reduceAdd, bx, ax, if_true, if_false, Nat.reduceMul, Nat.reduceLeDiff, d4]; exact rfl); (· rfl))
      | refine Wp.skip ?_
      | refine Wp.label ?_
      | refine Wp.block ?_
      | refine Wp.exit ?_
      | refine Wp.seq ?_)
    refine Wp.ret ⟨trivial, _, rfl, ?_⟩
    simp only [go_sem, reduceIte, Nat.reduceEqDiff, Nat.reduceAdd, bx]
    simp only [sinceB, hc, Bool.false_and]; exact VSub.refl _
  | true =>
    simp only [hc, if_true] at hck
    repeat (first
      | ((first | apply Wp.seqItems | apply Wp.items | ((first
          | (refine WpItems.pcall ?_ ?_ (hck) ?_; (· simp only [go_sem, reduceIte, Nat.reduceEqDiff, Nat.reduceAdd, bx]); (· simp only [go_sem, reduceIte, Nat.reduceEqDiff, Nat.reduceAdd, bx, List.map]; first | exact VSubs.refl _ | (repeat (first | exact VSubs.nil | refine VSubs.cons (by first | exact VSub.refl _ | assumption | exact VSub.cap | exact VSub.any _) ?_))))
          | (refine WpItems.pcall ?_ ?_ (place_p l hl hc t) ?_; (· simp only [go_sem, reduceIte, Nat.reduceEqDiff, Nat.reduceAdd, bx]); (· simp only [go_sem, reduceIte, Nat.reduceEqDiff, Nat.reduceAdd, bx, List.map]; first | exact VSubs.refl _ | (repeat (first | exact VSubs.nil | refine VSubs.cons (by first | exact VSub.refl _ | assumption | exact VSub.cap | exact VSub.any _) ?_))))); apply WpItems.eval)); (· simp only [go_sem, reduceIte, Nat.reduceEqDiff, Nat.reduceAdd, bx, ax, if_true, if_false, Nat.reduceMul, Nat.reduceLeDiff, d0]; exact rfl))
      | (refine WpItems.nil ⟨?_, ?_⟩; (· first | trivial | simp [pairsQ, pairsOk, apart, ent0]))
      | (apply Wp.cond_lit; (· simp only [go_sem, reduceIte, Nat.reduceEqDiff, Nat.reduceAdd, bx, ax, if_true, if_false, Nat.reduceMul, Nat.reduceLeDiff, d0]; exact rfl); (· rfl))
      | refine Wp.skip ?_
      | refine Wp.label ?_
      | refine Wp.block ?_
      | refine Wp.exit ?_
      | refine Wp.seq ?_)
    refine Wp.ret ⟨trivial, _, rfl, ?_⟩
    simp only [go_sem, reduceIte, Nat.reduceEqDiff, Nat.reduceAdd, bx]
    simp only [sinceB, hc, Bool.true_and]
    refine VSub.of_eq (congrArg AV.bool ?_)
    rw [Bool.eq_iff_iff]; simp only [decide_eq_true_eq]; omega
theorem plc_pos (l : List Ver) (t : Int) : 0 < plc l t ↔ 0 < l.length ∧ t < (l.getD 0 default).t := by
  constructor
  · intro h
    have := plc_lt h
    have := plc_le l t
    exact ⟨by omega, by omega⟩
  · rintro ⟨h1, h2⟩
    rcases Nat.eq_zero_or_pos (plc l t) with e | e
    · have := plc_at (l := l) (t := t) (by omega)
      rw [e] at this; omega
    · exact e
end Go.Proofs.Ytpehfflehebmbaa.Space
end
section
set_option linter.unusedSimpArgs false
set_option linter.unusedVariables false
set_option maxRecDepth 10000
namespace Go.Proofs.Ytpehfflehebmbaa.Space
open Go Go.Av Go.Proofs Go.Proofs.Ytpehfflehebmbaa.C Go.Proofs.Ytpehfflehebmbaa.Batch
theorem clone_p (l : List Ver) (hl : l.length ≤ 4398046511104) : PCalls Try.prog 64 [.sl 3 (l.map encV) .any] (.sl 3 (l.map encV) .any) :=
  clone_gen (sz := 3) (bytes := 32) f64 (l.map encV) (vers_pure l) (by rw [List.length_map]; omega) (by rw [List.length_map]; omega)
theorem grow_p (k : Nat) (h0 : 0 < k) (hk : k ≤ 4398046511104) (n m : Nat) : ACalls Try.prog 137 [.sl 3 [] (.exact 0), .int .i64 k] (H0 n m) (.sl 3 [] (.own m)) (.only none' [m] (n + 1) (m + 1)) := by
  refine ACalls.thaw (cs := (List.replicate k (AV.agg [.int .i64 0, .str [], .bool false])).flatMap cellsOf) (id := n) (off := 0) ⟨Nat.le_refl _, Nat.lt_succ_self _⟩ ?_
  have key : ∃ r h', ACalls Try.prog 137 [.sl 3 [] (.exact 0), .int .i64 k] (H0 n m) r h' ∧ (r = .tsl 3 n 0 0 none ∧ h' = .only (upd none' n (some (.cells ((List.replicate k (AV.agg [.int .i64 0, .str [], .bool false])).flatMap cellsOf)))) [] (n + 1) m) := by
    refine f137.acalls (by simp) ?_
    unfold c137
    have g1 : decide ((k : Int) < 0) = false := decide_eq_false (by omega)
    have g2 : decide ((0 : Int) < (k : Int)) = true := decide_eq_true (by omega)
    have e0 : IntKind.i64.wrap (((0 : Nat) : Int) - ((0 : Nat) : Int)) = 0 := rfl
    have e1 : IntKind.i64.wrap ((k : Int) - 0) = (k : Int) := by rw [Int.sub_zero]; exact IntWalk.i64_in _ (by omega)
    have h3 : (0 : Int) < (k : Int) := by omega
    have z : ((0 : Nat) : Int) = 0 := rfl
    have r1 : k * 32 ≤ 140737488355328 := by omega
    have r2 : k < 4611686018427387904 := by omega
    repeat (first
      | ((first | apply Wp.seqItemsR | apply Wp.itemsR); (· simp only [go_sem, reduceIte, Nat.reduceEqDiff, Nat.reduceAdd, bx, ax, if_true, if_false, Nat.reduceMul, Nat.reduceLeDiff, g1, g2, e0, e1]; exact rfl))
      | (refine WpItems.nil ⟨?_, ?_⟩; (· first | trivial | simp [pairsQ, pairsOk, apart, ent0]))
      | (apply Wp.cond_lit; (· simp only [go_sem, reduceIte, Nat.reduceEqDiff, Nat.reduceAdd, bx, ax, if_true, if_false, Nat.reduceMul, Nat.reduceLeDiff, g1, g2, e0, e1]; exact rfl); (· rfl))
      | refine Wp.skip ?_
      | refine Wp.label ?_
      | refine Wp.block ?_
      | refine Wp.exit ?_
      | refine Wp.seq ?_)
    refine Wp.regN ?_
    refine WpItemsN.op (by simp only [go_sem, reduceIte, Nat.reduceEqDiff, Nat.reduceAdd, bx]) (by simp only [go_sem, reduceIte, Nat.reduceEqDiff, Nat.reduceAdd, bx]; exact rfl) ?_
    refine WpItemsN.op (by simp only [go_sem, reduceIte, Nat.reduceEqDiff, Nat.reduceAdd, bx]) (by simp only [go_sem, reduceIte, Nat.reduceEqDiff, Nat.reduceAdd, bx]; exact rfl) ?_
    refine WpItemsN.op (by simp only [go_sem, reduceIte, Nat.reduceEqDiff, Nat.reduceAdd, bx]) (by simp only [go_sem, reduceIte, Nat.reduceEqDiff, Nat.reduceAdd, bx]; exact rfl) ?_
    refine WpItemsN.op (by simp only [go_sem, reduceIte, Nat.reduceEqDiff, Nat.reduceAdd, bx]) (by simp only [go_sem, reduceIte, Nat.reduceEqDiff, Nat.reduceAdd, bx, z, Int.le_refl, and_self, if_true, Int.toNat_zero, Nat.sub_self]; exact rfl) ?_
    refine WpItemsN.op (by simp only [go_sem, reduceIte, Nat.reduceEqDiff, Nat.reduceAdd, bx]) (by simp only [go_sem, reduceIte, Nat.reduceEqDiff, Nat.reduceAdd, bx, z, Int.le_refl, and_self, if_true, Int.toNat_zero, Nat.sub_self]; exact rfl) ?_
    refine WpItemsN.opZ (by simp only [go_sem]) (by simp only [aopZ, go_sem, reduceIte, Nat.reduceEqDiff, h3, Int.toNat_natCast, r1, r2, and_self, if_true, true_and]; exact rfl) ?_
    refine WpItemsN.op (by simp only [go_sem, reduceIte, Nat.reduceEqDiff, Nat.reduceAdd, bx]) (by simp only [go_sem, reduceIte, Nat.reduceEqDiff, Nat.reduceAdd, bx, z, Int.le_refl, and_self, if_true, Int.toNat_zero, Nat.sub_self, true_and, Int.toNat_natCast, Int.natCast_nonneg]; exact rfl) ?_
    refine WpItemsN.op (by simp only [go_sem, reduceIte, Nat.reduceEqDiff, Nat.reduceAdd, bx]) (by simp only [go_sem, reduceIte, Nat.reduceEqDiff, Nat.reduceAdd, bx, z, Int.le_refl, and_self, if_true, Int.toNat_zero, Nat.sub_self, true_and, Int.toNat_natCast, Int.natCast_nonneg]; exact rfl) ?_
    refine WpItemsN.op (by simp only [go_sem, reduceIte, Nat.reduceEqDiff, Nat.reduceAdd, bx]) (by simp only [go_sem, reduceIte, Nat.reduceEqDiff, Nat.reduceAdd, bx, z, Int.le_refl, and_self, if_true, Int.toNat_zero, Nat.sub_self, true_and, Int.toNat_natCast, Int.natCast_nonneg]; exact rfl) ?_
    refine WpItemsN.op (by simp only [go_sem, reduceIte, Nat.reduceEqDiff, Nat.reduceAdd, bx]) (by simp only [go_sem, reduceIte, Nat.reduceEqDiff, Nat.reduceAdd, bx, z, Int.le_refl, and_self, if_true, Int.toNat_zero, Nat.sub_self, true_and, Int.toNat_natCast, Int.natCast_nonneg]; exact rfl) ?_
    refine WpItems.toN (log := []) (WpItems.nil ?_)
    repeat (first
      | ((first | apply Wp.seqItemsR | apply Wp.itemsR); (· simp only [go_sem, reduceIte, Nat.reduceEqDiff, Nat.reduceAdd, bx, ax, if_true, if_false, Nat.reduceMul, Nat.reduceLeDiff]; exact rfl))
      | (refine WpItems.nil ⟨?_, ?_⟩; (· first | trivial | simp [pairsQ, pairsOk, apart, ent0]))
      | (apply Wp.cond_lit; (· simp only [go_sem, reduceIte, Nat.reduceEqDiff, Nat.reduceAdd, bx, ax, if_true, if_false, Nat.reduceMul, Nat.reduceLeDiff]; exact rfl); (· rfl))
      | refine Wp.skip ?_
      | refine Wp.label ?_
      | refine Wp.block ?_
      | refine Wp.exit ?_
      | refine Wp.seq ?_)
    exact Wp.ret ⟨trivial, _, rfl, rfl, rfl⟩
  obtain ⟨r, h', hc, rfl, rfl⟩ := key
  exact hc
theorem concat_p (v : Ver) (l : List Ver) (hl : l.length ≤ 4398046511103) : PCalls Try.prog 103 [.sl 1 [.sl 3 [encV v] .any, .sl 3 (l.map encV) .any] .any] (.sl 3 ((v :: l).map encV) .any) := by
  refine f103.pcalls0 (by simp) (by simp [allPure, isPure, capPure, vers_pure, encV_pure]) (by simp [isPure, capPure, vers_pure, allPure, encV_pure]) ?_
  unfold c103
  have d1 : decide ((0 : Int) < ((2 : Nat) : Int)) = true := rfl
  have d2 : decide ((1 : Int) < ((2 : Nat) : Int)) = true := rfl
  have d3 : decide ((2 : Int) < ((2 : Nat) : Int)) = false := rfl
  have f1 : IntKind.i64.wrap ((0 : Int) + 1) = 1 := rfl
  have f2 : IntKind.i64.wrap ((1 : Int) + 1) = 2 := rfl
  have f3 : IntKind.i64.wrap ((0 : Int) + ((1 : Nat) : Int)) = 1 := rfl
  have f4 : IntKind.i64.wrap ((1 : Int) + (l.length : Int)) = ((l.length + 1 : Nat) : Int) := by rw [IntWalk.i64_in _ (by omega)]; omega
  have c1 : decide ((1 : Int) < 0) = false := rfl
  have c2 : decide (((l.length + 1 : Nat) : Int) < 0) = false := decide_eq_false (by omega)
  have i1 : (0 : Int) ≤ 0 ∧ (0 : Int) < ((2 : Nat) : Int) := by decide
  have i2 : (0 : Int) ≤ 1 ∧ (1 : Int) < ((2 : Nat) : Int) := by decide
  have t0 : Int.toNat 0 = 0 := rfl
  have t1 : Int.toNat 1 = 1 := rfl
  repeat (first
    | ((first | apply Wp.seqItemsR | apply Wp.itemsR); (· simp only [go_sem, reduceIte, Nat.reduceEqDiff, Nat.reduceAdd, bx, ax, if_true, if_false, Nat.reduceMul, Nat.reduceLeDiff]; exact rfl))
    | (refine WpItems.nil ⟨?_, ?_⟩; (· first | trivial | simp [pairsQ, pairsOk, apart, ent0]))
    | (apply Wp.cond_lit; (· simp only [go_sem, reduceIte, Nat.reduceEqDiff, Nat.reduceAdd, bx, ax, if_true, if_false, Nat.reduceMul, Nat.reduceLeDiff]; exact rfl); (· rfl))
    | refine Wp.skip ?_
    | refine Wp.label ?_
    | refine Wp.block ?_
    | refine Wp.exit ?_
    | refine Wp.seq ?_)
  refine Wp.loopL (WpL.next ?_)
  repeat (first
    | ((first | apply Wp.seqItemsR | apply Wp.itemsR); (· simp only [go_sem, reduceIte, Nat.reduceEqDiff, Nat.reduceAdd, bx, ax, if_true, if_false, Nat.reduceMul, Nat.reduceLeDiff, d1, f1, f3, c1, i1, t0]; exact rfl))
    | (refine WpItems.nil ⟨?_, ?_⟩; (· first | trivial | simp [pairsQ, pairsOk, apart, ent0]))
    | (apply Wp.cond_lit; (· simp only [go_sem, reduceIte, Nat.reduceEqDiff, Nat.reduceAdd, bx, ax, if_true, if_false, Nat.reduceMul, Nat.reduceLeDiff, d1, f1, f3, c1, i1, t0]; exact rfl); (· rfl))
    | refine Wp.skip ?_
    | refine Wp.label ?_
    | refine Wp.block ?_
    | refine Wp.exit ?_
    | refine Wp.seq ?_)
  refine WpL.next ?_
  repeat (first
    | ((first | apply Wp.seqItemsR | apply Wp.itemsR); (· simp only [go_sem, reduceIte, Nat.reduceEqDiff, Nat.reduceAdd, bx, ax, if_true, if_false, Nat.reduceMul, Nat.reduceLeDiff, d2, f2, f4, c2, i2, t1, List.length_map]; exact rfl))
    | (refine WpItems.nil ⟨?_, ?_⟩; (· first | trivial | simp [pairsQ, pairsOk, apart, ent0]))
    | (apply Wp.cond_lit; (· simp only [go_sem, reduceIte, Nat.reduceEqDiff, Nat.reduceAdd, bx, ax, if_true, if_false, Nat.reduceMul, Nat.reduceLeDiff, d2, f2, f4, c2, i2, t1, List.length_map]; exact rfl); (· rfl))
    | refine Wp.skip ?_
    | refine Wp.label ?_
    | refine Wp.block ?_
    | refine Wp.exit ?_
    | refine Wp.seq ?_)
  refine WpL.next ?_
  repeat (first
    | ((first | apply Wp.seqItemsR | apply Wp.itemsR); (· simp only [go_sem, reduceIte, Nat.reduceEqDiff, Nat.reduceAdd, bx, ax, if_true, if_false, Nat.reduceMul, Nat.reduceLeDiff, d3]; exact rfl))
    | (refine WpItems.nil ⟨?_, ?_⟩; (· first | trivial | simp [pairsQ, pairsOk, apart, ent0]))
    | (apply Wp.cond_lit; (· simp only [go_sem, reduceIte, Nat.reduceEqDiff, Nat.reduceAdd, bx, ax, if_true, if_false, Nat.reduceMul, Nat.reduceLeDiff, d3]; exact rfl); (· rfl))
    | refine Wp.skip ?_
    | refine Wp.label ?_
    | refine Wp.block ?_
    | refine Wp.exit ?_
    | refine Wp.seq ?_)
  refine WpItems.acall (by simp only [go_sem]) (by simp only [go_sem, reduceIte, Nat.reduceEqDiff, List.map]; exact VSubs.refl _) (grow_p (l.length + 1) (by omega) (by omega) _ _) (touch_gen ⟨none', 0, [], 0⟩ _ _ (ids := []) ⟨fun j o h => h, fun t h => h⟩ rfl rfl (fun id h => by simp [H0, H.only, none'] at h) (by simp [H.only]) (by simp [H.only])) ?_
  refine WpItems.evR (by simp only [go_sem, reduceIte, Nat.reduceEqDiff, Nat.reduceAdd, bx]; exact rfl) ?_
  refine WpItems.nil ⟨by trivial, ?_⟩
  repeat (first
    | ((first | apply Wp.seqItemsR | apply Wp.itemsR); (· simp only [go_sem, reduceIte, Nat.reduceEqDiff, Nat.reduceAdd, bx, ax, if_true, if_false, Nat.reduceMul, Nat.reduceLeDiff]; exact rfl))
    | (refine WpItems.nil ⟨?_, ?_⟩; (· first | trivial | simp [pairsQ, pairsOk, apart, ent0]))
    | (apply Wp.cond_lit; (· simp only [go_sem, reduceIte, Nat.reduceEqDiff, Nat.reduceAdd, bx, ax, if_true, if_false, Nat.reduceMul, Nat.reduceLeDiff]; exact rfl); (· rfl))
    | refine Wp.skip ?_
    | refine Wp.label ?_
    | refine Wp.block ?_
    | refine Wp.exit ?_
    | refine Wp.seq ?_)
  have m1 : (0 + 1) * 32 ≤ 140737488355328 ∧ 0 + 1 < 4611686018427387904 := by decide
  have m2 : (1 + l.length) * 32 ≤ 140737488355328 := by omega
  have m3 : 1 + l.length < 4611686018427387904 := by omega
  refine Wp.loopL (WpL.next ?_)
  repeat (first
    | ((first | apply Wp.seqItemsR | apply Wp.itemsR); (· simp only [go_sem, reduceIte, Nat.reduceEqDiff, Nat.reduceAdd, bx, ax, if_true, if_false, Nat.reduceMul, Nat.reduceLeDiff, d1, f1, i1, t0, H.patch, m1, List.filter_cons, List.contains_nil, List.singleton_append, List.mem_singleton]; exact rfl))
    | (refine WpItems.nil ⟨?_, ?_⟩; (· first | trivial | simp [pairsQ, pairsOk, apart, ent0]))
    | (apply Wp.cond_lit; (· simp only [go_sem, reduceIte, Nat.reduceEqDiff, Nat.reduceAdd, bx, ax, if_true, if_false, Nat.reduceMul, Nat.reduceLeDiff, d1, f1, i1, t0, H.patch, m1, List.filter_cons, List.contains_nil, List.singleton_append, List.mem_singleton]; exact rfl); (· rfl))
    | refine Wp.skip ?_
    | refine Wp.label ?_
    | refine Wp.block ?_
    | refine Wp.exit ?_
    | refine Wp.seq ?_)
  refine WpL.next ?_
  repeat (first
    | ((first | apply Wp.seqItemsR | apply Wp.itemsR); (· simp only [go_sem, reduceIte, Nat.reduceEqDiff, Nat.reduceAdd, bx, ax, if_true, if_false, Nat.reduceMul, Nat.reduceLeDiff, d2, f2, i2, t1, m2, m3, List.length_map, List.mem_cons, List.mem_filter]; exact rfl))
    | (refine WpItems.nil ⟨?_, ?_⟩; (· first | trivial | simp [pairsQ, pairsOk, apart, ent0]))
    | (apply Wp.cond_lit; (· simp only [go_sem, reduceIte, Nat.reduceEqDiff, Nat.reduceAdd, bx, ax, if_true, if_false, Nat.reduceMul, Nat.reduceLeDiff, d2, f2, i2, t1, m2, m3, List.length_map, List.mem_cons, List.mem_filter]; exact rfl); (· rfl))
    | refine Wp.skip ?_
    | refine Wp.label ?_
    | refine Wp.block ?_
    | refine Wp.exit ?_
    | refine Wp.seq ?_)
  refine WpL.next ?_
  repeat (first
    | ((first | apply Wp.seqItemsR | apply Wp.itemsR); (· simp only [go_sem, reduceIte, Nat.reduceEqDiff, Nat.reduceAdd, bx, ax, if_true, if_false, Nat.reduceMul, Nat.reduceLeDiff, d3]; exact rfl))
    | (refine WpItems.nil ⟨?_, ?_⟩; (· first | trivial | simp [pairsQ, pairsOk, apart, ent0]))
    | (apply Wp.cond_lit; (· simp only [go_sem, reduceIte, Nat.reduceEqDiff, Nat.reduceAdd, bx, ax, if_true, if_false, Nat.reduceMul, Nat.reduceLeDiff, d3]; exact rfl); (· rfl))
    | refine Wp.skip ?_
    | refine Wp.label ?_
    | refine Wp.block ?_
    | refine Wp.exit ?_
    | refine Wp.seq ?_)
  refine Wp.ret ⟨trivial, _, rfl, ?_⟩
  simp only [go_sem, reduceIte, Nat.reduceEqDiff, Nat.reduceAdd, bx]
  exact VSub.cap
def addB (l : List Ver) (v : Ver) : List Ver × Int := if chB l = false then ([], 4) else if okV v = false then ([], 2) else if 0 < l.length ∧ v.t ≤ (l.getD 0 default).t then ([], 18) else (v :: l, 0)
theorem add_p (l : List Ver) (hl : l.length ≤ 4398046511103) (v : Ver) : PCalls Try.prog 54 [.sl 3 (l.map encV) .any, encV v] (.tup [.sl 3 ((addB l v).1.map encV) .any, .int .i64 (addB l v).2]) := by
  refine f54.pcalls0 (by simp) (by simp [allPure, isPure, capPure, vers_pure, encV_pure]) (by simp [isPure, allPure, capPure, vers_pure]) ?_
  unfold c54
  have hck := check_p l (by omega)
  have hr := right_p v
  have d0 : decide ((0 : Int) = 0) = true := rfl
  have d4 : decide ((4 : Int) = 0) = false := rfl
  have bad : ∀ e : Int, VSub (.tup [.sl 3 [] (.exact 0), .int .i64 e]) (.tup [.sl 3 (([] : List Ver).map encV) .any, .int .i64 e]) := fun e => VSub.tup (VSubs.cons VSub.cap (VSubs.refl _))
  cases hc : chB l with
  | false =>
    simp only [hc, Bool.false_eq_true, if_false] at hck
    repeat (first
      | ((first | apply Wp.seqItemsR | apply Wp.itemsR | ((first
          | (refine WpItems.pcall ?_ ?_ (hck) ?_; (· simp only [go_sem, reduceIte, Nat.reduceEqDiff, Nat.reduceAdd, bx]); (· simp only [go_sem, reduceIte, Nat.reduceEqDiff, Nat.reduceAdd, bx, List.map]; first | exact VSubs.refl _ | (repeat (first | exact VSubs.nil | refine VSubs.cons (by first | exact VSub.refl _ | assumption | exact VSub.cap | exact VSub.any _) ?_))))); apply WpItems.evR)); (· simp only [go_sem, reduceIte, Nat.reduceEqDiff, Nat.reduceAdd, bx, ax, if_true, if_false, Nat.reduceMul, Nat.reduceLeDiff, d4, encV]; exact rfl))
      | (refine WpItems.nil ⟨?_, ?_⟩; (· first | trivial | simp [pairsQ, pairsOk, apart, ent0]))
      | (apply Wp.cond_lit; (· simp only [go_sem, reduceIte, Nat.reduceEqDiff, Nat.reduceAdd, bx, ax, if_true, if_false, Nat.reduceMul, Nat.reduceLeDiff, d4, encV]; exact rfl); (· rfl))
      | refine Wp.skip ?_
      | refine Wp.label ?_
      | refine Wp.block ?_
      | refine Wp.exit ?_
      | refine Wp.seq ?_)
    refine Wp.ret ⟨trivial, _, rfl, ?_⟩
    simp only [go_sem, reduceIte, Nat.reduceEqDiff, Nat.reduceAdd, bx]
    rw [addB, if_pos hc]; exact bad 4
  | true =>
    simp only [hc, if_true] at hck
    have n1 : ¬ (chB l = false) := by simp [hc]
    cases ho : okV v with
    | false =>
      rw [ho] at hr
      simp only [encV] at hr
      repeat (first
        | ((first | apply Wp.seqItemsR | apply Wp.itemsR | ((first
            | (refine WpItems.pcall ?_ ?_ (hck) ?_; (· simp only [go_sem, reduceIte, Nat.reduceEqDiff, Nat.reduceAdd, bx]); (· simp only [go_sem, reduceIte, Nat.reduceEqDiff, Nat.reduceAdd, bx, List.map]; first | exact VSubs.refl _ | (repeat (first | exact VSubs.nil | refine VSubs.cons (by first | exact VSub.refl _ | assumption | exact VSub.cap | exact VSub.any _) ?_))))
            | (refine WpItems.pcall ?_ ?_ (hr) ?_; (· simp only [go_sem, reduceIte, Nat.reduceEqDiff, Nat.reduceAdd, bx]); (· simp only [go_sem, reduceIte, Nat.reduceEqDiff, Nat.reduceAdd, bx, List.map]; first | exact VSubs.refl _ | (repeat (first | exact VSubs.nil | refine VSubs.cons (by first | exact VSub.refl _ | assumption | exact VSub.cap | exact VSub.any _) ?_))))); apply WpItems.evR)); (· simp only [go_sem, reduceIte, Nat.reduceEqDiff, Nat.reduceAdd, bx, ax, if_true, if_false, Nat.reduceMul, Nat.reduceLeDiff, d0, encV]; exact rfl))
        | (refine WpItems.nil ⟨?_, ?_⟩; (· first | trivial | simp [pairsQ, pairsOk, apart, ent0]))
        | (apply Wp.cond_lit; (· simp only [go_sem, reduceIte, Nat.reduceEqDiff, Nat.reduceAdd, bx, ax, if_true, if_false, Nat.reduceMul, Nat.reduceLeDiff, d0, encV]; exact rfl); (· rfl))
        | refine Wp.skip ?_
        | refine Wp.label ?_
        | refine Wp.block ?_
        | refine Wp.exit ?_
        | refine Wp.seq ?_)
      refine Wp.ret ⟨trivial, _, rfl, ?_⟩
      simp only [go_sem, reduceIte, Nat.reduceEqDiff, Nat.reduceAdd, bx]
      rw [addB, if_neg n1, if_pos ho]; exact bad 2
    | true =>
      rw [ho] at hr
      have n2 : ¬ (okV v = false) := by simp [ho]
      have hcc := concat_p v l hl
      simp only [encV] at hr
      have fit : VSubs [.sl 1 [.sl 3 [encV v] (.exact 1), .sl 3 (l.map encV) .any] (.exact 2)] [.sl 1 [.sl 3 [encV v] .any, .sl 3 (l.map encV) .any] .any] := VSubs.cons (VSub.sl ⟨VSub.sl ⟨VSub.refl _, trivial⟩, VSub.refl _, trivial⟩) VSubs.nil
      simp only [encV] at fit hcc
      by_cases h0 : 0 < l.length
      · have g1 : decide ((0 : Int) < (l.length : Int)) = true := decide_eq_true (by omega)
        have h2 : (0 : Int) < (l.length : Int) := by omega
        have hat := enc_at encV l 0 .any h0
        cases hp : decide (v.t ≤ (l.getD 0 default).t) with
        | true =>
          repeat (first
            | ((first | apply Wp.seqItemsR | apply Wp.itemsR | ((first
                | (refine WpItems.pcall ?_ ?_ (hck) ?_; (· simp only [go_sem, reduceIte, Nat.reduceEqDiff, Nat.reduceAdd, bx]); (· simp only [go_sem, reduceIte, Nat.reduceEqDiff, Nat.reduceAdd, bx, List.map]; first | exact VSubs.refl _ | (repeat (first | exact VSubs.nil | refine VSubs.cons (by first | exact VSub.refl _ | assumption | exact VSub.cap | exact VSub.any _) ?_))))
                | (refine WpItems.pcall ?_ ?_ (hr) ?_; (· simp only [go_sem, reduceIte, Nat.reduceEqDiff, Nat.reduceAdd, bx]); (· simp only [go_sem, reduceIte, Nat.reduceEqDiff, Nat.reduceAdd, bx, List.map]; first | exact VSubs.refl _ | (repeat (first | exact VSubs.nil | refine VSubs.cons (by first | exact VSub.refl _ | assumption | exact VSub.cap | exact VSub.any _) ?_))))); apply WpItems.evR)); (· simp only [go_sem, reduceIte, Nat.reduceEqDiff, Nat.reduceAdd, bx, ax, if_true, if_false, Nat.reduceMul, Nat.reduceLeDiff, d0, g1, h2, hp, Int.toNat_zero, Int.le_refl, List.length_map, hat, encV]; exact rfl))
            | (refine WpItems.nil ⟨?_, ?_⟩; (· first | trivial | simp [pairsQ, pairsOk, apart, ent0]))
            | (apply Wp.cond_lit; (· simp only [go_sem, reduceIte, Nat.reduceEqDiff, Nat.reduceAdd, bx, ax, if_true, if_false, Nat.reduceMul, Nat.reduceLeDiff, d0, g1, h2, hp, Int.toNat_zero, Int.le_refl, List.length_map, hat, encV]; exact rfl); (· rfl))
            | refine Wp.skip ?_
            | refine Wp.label ?_
            | refine Wp.block ?_
            | refine Wp.exit ?_
            | refine Wp.seq ?_)
          refine Wp.ret ⟨trivial, _, rfl, ?_⟩
          simp only [go_sem, reduceIte, Nat.reduceEqDiff, Nat.reduceAdd, bx]
          rw [addB, if_neg n1, if_neg n2, if_pos ⟨h0, of_decide_eq_true hp⟩]; exact bad 18
        | false =>
          repeat (first
            | ((first | apply Wp.seqItemsR | apply Wp.itemsR | ((first
                | (refine WpItems.pcall ?_ ?_ (hck) ?_; (· simp only [go_sem, reduceIte, Nat.reduceEqDiff, Nat.reduceAdd, bx]); (· simp only [go_sem, reduceIte, Nat.reduceEqDiff, Nat.reduceAdd, bx, List.map]; first | exact VSubs.refl _ | (repeat (first | exact VSubs.nil | refine VSubs.cons (by first | exact VSub.refl _ | assumption | exact VSub.cap | exact VSub.any _) ?_))))
                | (refine WpItems.pcall ?_ ?_ (hr) ?_; (· simp only [go_sem, reduceIte, Nat.reduceEqDiff, Nat.reduceAdd, bx]); (· simp only [go_sem, reduceIte, Nat.reduceEqDiff, Nat.reduceAdd, bx, List.map]; first | exact VSubs.refl _ | (repeat (first | exact VSubs.nil | refine VSubs.cons (by first | exact VSub.refl _ | assumption | exact VSub.cap | exact VSub.any _) ?_))))
                | (refine WpItems.pcall ?_ ?_ (hcc) ?_; (· simp only [go_sem, reduceIte, Nat.reduceEqDiff, Nat.reduceAdd, bx]); (· simp only [go_sem, reduceIte, Nat.reduceEqDiff, Nat.reduceAdd, bx, List.map]; exact fit))); apply WpItems.evR)); (· simp only [go_sem, reduceIte, Nat.reduceEqDiff, Nat.reduceAdd, bx, ax, if_true, if_false, Nat.reduceMul, Nat.reduceLeDiff, d0, g1, h2, hp, Int.toNat_zero, Int.le_refl, List.length_map, hat, encV]; exact rfl))
            | (refine WpItems.nil ⟨?_, ?_⟩; (· first | trivial | simp [pairsQ, pairsOk, apart, ent0]))
            | (apply Wp.cond_lit; (· simp only [go_sem, reduceIte, Nat.reduceEqDiff, Nat.reduceAdd, bx, ax, if_true, if_false, Nat.reduceMul, Nat.reduceLeDiff, d0, g1, h2, hp, Int.toNat_zero, Int.le_refl, List.length_map, hat, encV]; exact rfl); (· rfl))
            | refine Wp.skip ?_
            | refine Wp.label ?_
            | refine Wp.block ?_
            | refine Wp.exit ?_
            | refine Wp.seq ?_)
          refine Wp.ret ⟨trivial, _, rfl, ?_⟩
          simp only [go_sem, reduceIte, Nat.reduceEqDiff, Nat.reduceAdd, bx]
          rw [addB, if_neg n1, if_neg n2, if_neg (fun h => of_decide_eq_false hp h.2)]; exact VSub.refl _
      · have g1 : decide ((0 : Int) < (l.length : Int)) = false := decide_eq_false (by omega)
        repeat (first
          | ((first | apply Wp.seqItemsR | apply Wp.itemsR | ((first
              | (refine WpItems.pcall ?_ ?_ (hck) ?_; (· simp only [go_sem, reduceIte, Nat.reduceEqDiff, Nat.reduceAdd, bx]); (· simp only [go_sem, reduceIte, Nat.reduceEqDiff, Nat.reduceAdd, bx, List.map]; first | exact VSubs.refl _ | (repeat (first | exact VSubs.nil | refine VSubs.cons (by first | exact VSub.refl _ | assumption | exact VSub.cap | exact VSub.any _) ?_))))
              | (refine WpItems.pcall ?_ ?_ (hr) ?_; (· simp only [go_sem, reduceIte, Nat.reduceEqDiff, Nat.reduceAdd, bx]); (· simp only [go_sem, reduceIte, Nat.reduceEqDiff, Nat.reduceAdd, bx, List.map]; first | exact VSubs.refl _ | (repeat (first | exact VSubs.nil | refine VSubs.cons (by first | exact VSub.refl _ | assumption | exact VSub.cap | exact VSub.any _) ?_))))
              | (refine WpItems.pcall ?_ ?_ (hcc) ?_; (· simp only [go_sem, reduceIte, Nat.reduceEqDiff, Nat.reduceAdd, bx]); (· simp only [go_sem, reduceIte, Nat.reduceEqDiff, Nat.reduceAdd, bx, List.map]; exact fit))); apply WpItems.evR)); (· simp only [go_sem, reduceIte, Nat.reduceEqDiff, Nat.reduceAdd, bx, ax, if_true, if_false, Nat.reduceMul, Nat.reduceLeDiff, d0, g1, List.length_map, encV]; exact rfl))
          | (refine WpItems.nil ⟨?_, ?_⟩; (· first | trivial | simp [pairsQ, pairsOk, apart, ent0]))
          | (apply Wp.cond_lit; (· simp only [go_sem, reduceIte, Nat.reduceEqDiff, Nat.reduceAdd, bx, ax, if_true, if_false, Nat.reduceMul, Nat.reduceLeDiff, d0, g1, List.length_map, encV]; exact rfl); (· rfl))
          | refine Wp.skip ?_
          | refine Wp.label ?_
          | refine Wp.block ?_
          | refine Wp.exit ?_
          | refine Wp.seq ?_)
        refine Wp.ret ⟨trivial, _, rfl, ?_⟩
        simp only [go_sem, reduceIte, Nat.reduceEqDiff, Nat.reduceAdd, bx]
        rw [addB, if_neg n1, if_neg n2, if_neg (fun h => h0 h.1)]; exact VSub.refl _
end Go.Proofs.Ytpehfflehebmbaa.Space
end
section
set_option linter.unusedSimpArgs false
set_option linter.unusedVariables false
set_option maxRecDepth 10000
namespace Go.Proofs.Ytpehfflehebmbaa.Space
open Go Go.Av Go.Proofs Go.Proofs.Ytpehfflehebmbaa.C Go.Proofs.Ytpehfflehebmbaa.Reads Go.Lib Go.RowKit
def lays24_ren : Go.Shelf.Ren := ⟨fun | 24 => 104 | n => n, fun | 24 => 37 | 9 => 9 | 3 => 3 | 4 => 4 | 0 => 0 | n => n, fun | n => n⟩
theorem lays24 : Lays2.n24 Try.prog lays24_ren where
  mixed := by kernel_rfl
  f24 := Try.func104.trans (congrArg some (by kernel_rfl))
  t0 := Try.underlying0
  a0 := Try.isAgg0
  z0 := Try.sizeOf0
  v0 := Try.zeroValue0
  t3 := Try.underlying3
  a3 := Try.isAgg3
  z3 := Try.sizeOf3
  v3 := Try.zeroValue3
  t4 := Try.underlying4
  a4 := Try.isAgg4
  z4 := Try.sizeOf4
  v4 := Try.zeroValue4
  t9 := Try.underlying9
  a9 := Try.isAgg9
  z9 := Try.sizeOf9
  v9 := Try.zeroValue9
  t24 := Try.underlying37
  a24 := Try.isAgg37
  z24 := Try.sizeOf37
  v24 := Try.zeroValue37
  i9 := by kernel_rfl
theorem delete_t (l : List (List UInt8)) (i : Nat) (hi : i < l.length) (hl : l.length < 1099511627776) {id : Nat} {h : H} (ho : h.objs id = some (.cells (strs l))) (htk : h.toks = []) :
    ACalls Try.prog 104 [.tsl 1 id 0 l.length none, .int .i64 i, .int .i64 ((i + 1 : Nat) : Int)] h (.tsl 1 h.n 0 (l.length - 1) none) (h.turn id (.cells (strs (l.take i ++ l.drop (i + 1))))) := by
  intro G w vs hv R F
  simp only [VRels, VRel] at hv
  obtain ⟨v1, _, rfl, ⟨hd1, hv1⟩, v2, _, rfl, rfl, v3, _, rfl, rfl, rfl⟩ := hv
  obtain ⟨C, c, T, fr, rfl, ⟨hnC, hc63⟩, -, hg, hroom⟩ | ⟨hz, -⟩ := hv1
  rotate_left
  · omega
  obtain ⟨-, hown, hB, us, rest, T', fr', hg', hvs, hfr, -⟩ := R.obj id _ ho
  have hus := sv_of hvs
  subst hus
  rw [hg] at hg'
  obtain ⟨rfl, rfl, rfl⟩ : c = (sv l ++ rest).toArray ∧ T = T' ∧ fr = fr' := by simpa using hg'
  have hsl := sv_length l
  have hfz : ∀ j, w.frozen? ⟨G.ι id, j, none⟩ = false := fun j => by
    unfold World.frozen?; simp only [hg]
    have := hfr j
    simp; omega
  have hout : (strs (l.take i ++ l.drop (i + 1))).length = l.length - 1 := by simp [strs]; omega
  have hcell : ∀ j, j < l.length → w.cell? ⟨G.ι id, 0 + j, none⟩ = some (.string (⟨(l.getD j []).toArray⟩ : ByteArray)) := fun j hj => cell_of hg j _ (by
    simp [sv, List.getElem?_map, List.getElem?_eq_getElem hj, List.getD_eq_getElem?_getD])
  have hS : Lib.strsOf (fun j => (⟨(l.getD j []).toArray⟩ : ByteArray)) l.length = l := by
    refine List.ext_getElem (Lib.strsOf_length _ _) fun j h1 h2 => ?_
    simp [Lib.strsOf, List.getD_eq_getElem?_getD, List.getElem?_eq_getElem h2]
  refine (Any.slices_Delete_string_cells lays24 (G.ι id) 0 l.length C i (i + 1) (fun j => (⟨(l.getD j []).toArray⟩ : ByteArray)) w hnC hc63 (by omega) (by omega) hcell (fun j hj => hfz _)).mono ?_
  rintro e w' ⟨rfl, q, rfl⟩
  rw [hS]
  have hm : ∀ m : List (List UInt8), m.map encStr = sv m := fun m => rfl
  rw [hm]
  have hsv : sv (l.take i ++ l.drop (i + 1) ++ List.replicate (i + 1 - i) []) = sv (l.take i ++ l.drop (i + 1)) ++ [.string ⟨#[]⟩] := by
    rw [show i + 1 - i = 1 by omega]; simp [sv]
  have hlen : (sv (l.take i ++ l.drop (i + 1) ++ List.replicate (i + 1 - i) [])).length = l.length := by rw [sv_length]; simp; omega
  obtain ⟨a1, a2, a3, a4, a5⟩ := setCells_heap (G.ι id) T fr (sv (l.take i ++ l.drop (i + 1) ++ List.replicate (i + 1 - i) [])) 0 (sv l ++ rest) (w.drewN q) hg (by rw [hlen, List.length_append, hsl]; omega)
  have e1 : (sv l ++ rest).take 0 ++ sv (l.take i ++ l.drop (i + 1) ++ List.replicate (i + 1 - i) []) ++ (sv l ++ rest).drop (0 + (sv (l.take i ++ l.drop (i + 1) ++ List.replicate (i + 1 - i) [])).length) = sv (l.take i ++ l.drop (i + 1)) ++ (Value.string ⟨#[]⟩ :: rest) := by
    rw [hlen, hsv, Nat.zero_add, ← hsl, List.drop_left, List.take_zero]; simp
  rw [e1] at a1
  have hC : C ≤ l.length + rest.length := by simpa [hsl] using hroom
  obtain ⟨G', T1, R1, V⟩ := row_new (B := G.ι id) (C := C) (xs := strs (l.take i ++ l.drop (i + 1))) (vs := sv (l.take i ++ l.drop (i + 1))) R ho htk (F.1 _ (Nat.le_refl _) (Nat.lt_succ_self _)) (Nat.le_of_eq a3.symm) a4 a5 (fun b _ hb => a2 b hb) (by
    rw [hg, a1]
    refine ⟨_, rfl, ?_⟩
    simp only [List.size_toArray, List.length_append, sv_length, List.length_cons, List.length_take, List.length_drop]
    omega) (.inl rfl) ⟨by rw [hout]; omega, hc63⟩ (by rw [hout, sv_length]; simp; omega) (sv_rels _) (fun v hv => sv_one hv) a1 (by simp only [sv_length, List.length_cons, List.length_append, List.length_take, List.length_drop]; omega) hfr
  refine ⟨_, G', rfl, T1, R1, ?_⟩
  rw [hout] at V
  rw [show l.length - (i + 1 - i) = l.length - 1 by omega]
  exact V
theorem insert_z (x : List UInt8) {id id2 : Nat} (hne : id ≠ id2) {h : H} (ho : h.objs id = some (.cells (strs []))) (ho2 : h.objs id2 = some (.cells [.str x])) (htk : h.toks = []) :
    ACalls Try.prog 82 [.tsl 1 id 0 0 none, .int .i64 0, .tsl 1 id2 0 1 none] h (.tsl 1 h.n 0 1 none) (h.turn id (.cells (strs [x]))) := by
  intro G w vs hv R F
  simp only [VRels, VRel] at hv
  obtain ⟨v1, _, rfl, ⟨hd1, hv1⟩, v2, _, rfl, rfl, v3, _, rfl, ⟨hd2, hv3⟩, rfl⟩ := hv
  obtain ⟨C2, c2, T2, fr2, rfl, ⟨hnC2, -⟩, -, hg2, hroom2⟩ | ⟨hz, -⟩ := hv3
  rotate_left
  · omega
  obtain ⟨-, hown2, hB2, us2, rest2, T2', fr2', hg2', hvs2, hfr2, -⟩ := R.obj id2 _ ho2
  obtain ⟨-, hown, hB, us, rest, T', fr', hg', hvs, hfr, -⟩ := R.obj id _ ho
  have hus := sv_of hvs
  subst hus
  have hus2 : us2 = [.string ⟨x.toArray⟩] := by
    simp only [VRels, VRel] at hvs2
    obtain ⟨v, _, rfl, rfl, rfl⟩ := hvs2
    rfl
  subst hus2
  rw [hg2] at hg2'
  obtain ⟨rfl, rfl, rfl⟩ : c2 = ([Value.string ⟨x.toArray⟩] ++ rest2).toArray ∧ T2 = T2' ∧ fr2 = fr2' := by simpa using hg2'
  have hvs' : ∀ (j : Nat) v, ([Value.string ⟨x.toArray⟩] : List Value)[j]? = some v → w.cell? ⟨G.ι id2, 0 + j, none⟩ = some v := fun j v => cell_of hg2 j v
  have h1v : ∀ v ∈ ([Value.string ⟨x.toArray⟩] : List Value), v.oneCell' = true := by simp [Value.oneCell']
  have grow : ∀ a0 : Option Addr, Calls Try.prog 82 #[.slice a0 0 0, .int .i64 0, .slice (some ⟨G.ι id2, 0, none⟩) 1 C2] w fun e w' => ∃ v G', e = .returned v ∧ Trans G w h G' w' (h.turn id (.cells (strs [x]))) ∧ RepH G' (h.turn id (.cells (strs [x]))) w' ∧ VRel G' w' (.tsl 1 h.n 0 1 none) v := by
    intro a0
    refine (Any2.slices_Insert_string_end_grow lays22 a0 0 0 (G.ι id2) 0 1 C2 [] [.string ⟨x.toArray⟩] w (by omega) (Nat.le_refl _) (by omega) (by omega) rfl rfl (fun _ => rfl) (fun a ha j v hj => by simp at hj) hvs' h1v).mono ?_
    rintro e w' ⟨rfl, rfl⟩
    have hgc' : 0 + 1 ≤ grownCap w (0 + 1) 0 (lays22_ren.t 9) := by simp [grownCap, Question.cut]
    have hgl : grownCap w (0 + 1) 0 (lays22_ren.t 9) ≤ 9223372036854775807 := grown_le (by omega)
    generalize grownCap w (0 + 1) 0 (lays22_ren.t 9) = C0 at hgc' hgl ⊢
    have hZs : (Builtin.zeroCells (Value.string ⟨#[]⟩).cells (C0 - (0 + 1))).toList.length = C0 - (0 + 1) := by
      have hz : (Value.string ⟨#[]⟩).cells.size = 1 := rfl
      generalize (Value.string ⟨#[]⟩).cells = zc at hz
      simp [Builtin.zeroCells, hz]
    generalize Builtin.zeroCells (Value.string ⟨#[]⟩).cells (C0 - (0 + 1)) = Zc at hZs ⊢
    have hs : (w.drew.alloc (.cells (([] ++ [Value.string ⟨x.toArray⟩]).toArray ++ Zc) (lays22_ren.t 9))).heap.size = w.heap.size + 1 := by
      show (w.heap.push _).size = _
      rw [Array.size_push]
    have hold : ∀ b, b < w.heap.size → (w.drew.alloc (.cells (([] ++ [Value.string ⟨x.toArray⟩]).toArray ++ Zc) (lays22_ren.t 9))).heap[b]? = w.heap[b]? := fun b hb => by
      show (w.heap.push _)[b]? = _
      rw [Array.getElem?_push, if_neg (Nat.ne_of_lt hb)]
    have hnew : (w.drew.alloc (.cells (([] ++ [Value.string ⟨x.toArray⟩]).toArray ++ Zc) (lays22_ren.t 9))).heap[w.heap.size]? = some (.cells (sv [x] ++ Zc.toList).toArray (lays22_ren.t 9) (0, 0)) := by
      show (w.heap.push _)[w.heap.size]? = _
      rw [Array.getElem?_push_size]
      refine congrArg some (congrArg (fun c => Go.Obj.cells c _ (0, 0)) (Array.ext' ?_))
      simp only [Array.toList_append]
      rfl
    obtain ⟨G', T1, R1, V⟩ := row_new (w' := w.drew.alloc (.cells (([] ++ [Value.string ⟨x.toArray⟩]).toArray ++ Zc) (lays22_ren.t 9))) (B := w.heap.size) (C := C0) (xs := strs [x]) (vs := sv [x]) R ho htk (F.1 _ (Nat.le_refl _) (Nat.lt_succ_self _)) (by omega) rfl rfl (fun b hb _ => hold b hb) (by rw [hold _ hB]; exact SameForm.refl _) (.inr (Nat.le_refl _)) ⟨by simpa [strs] using hgc', hgl⟩ rfl (sv_rels _) (fun v hv => sv_one hv) hnew (by simp only [sv_length, List.length_singleton]; omega) (fun j => by simp)
    exact ⟨_, G', rfl, T1, R1, V⟩
  rcases hv1 with ⟨C, c, T, fr, rfl, ⟨hnC, hc63⟩, -, hg, hroom⟩ | ⟨-, ⟨a0, rfl⟩, -⟩
  · by_cases hC : C = 0
    · subst hC; exact grow _
    · rw [hg] at hg'
      obtain ⟨rfl, rfl, rfl⟩ : c = (sv [] ++ rest).toArray ∧ T = T' ∧ fr = fr' := by simpa using hg'
      have hrl : C ≤ rest.length := by simpa [sv] using hroom
      have hfz : ∀ j, w.frozen? ⟨G.ι id, j, none⟩ = false := fun j => by
        unfold World.frozen?; simp only [hg]
        have := hfr j
        simp; omega
      have hsome : ∀ j, j < C → (w.cell? ⟨G.ι id, 0 + j, none⟩).isSome = true := fun j hj => by
        unfold World.cell?; simp only [hg]; simp [sv]; omega
      refine (Any2.slices_Insert_string_end_room lays22 (G.ι id) 0 0 C (G.ι id2) 0 1 C2 [.string ⟨x.toArray⟩] w (by omega) (by omega) hc63 rfl (fun j hj => by have := hsome (0 + j) (by omega); rwa [← Nat.add_assoc] at this) (fun j hj => hfz _) hvs' h1v).mono ?_
      rintro e w' ⟨rfl, rfl⟩
      obtain ⟨a1, a2, a3, a4, a5⟩ := setCells_heap (G.ι id) T fr [.string ⟨x.toArray⟩] (0 + 0) (sv [] ++ rest) w hg (by simp [sv]; omega)
      have e1 : (sv [] ++ rest).take (0 + 0) ++ [Value.string ⟨x.toArray⟩] ++ (sv [] ++ rest).drop (0 + 0 + [Value.string ⟨x.toArray⟩].length) = sv [x] ++ rest.drop 1 := by simp [sv]
      rw [e1] at a1
      obtain ⟨G', T1, R1, V⟩ := row_new (B := G.ι id) (C := C) (xs := strs [x]) (vs := sv [x]) R ho htk (F.1 _ (Nat.le_refl _) (Nat.lt_succ_self _)) (Nat.le_of_eq a3.symm) a4 a5 (fun b _ hb => a2 b hb) (by rw [hg, a1]; exact ⟨_, rfl, by simp [sv]; omega⟩) (.inl rfl) ⟨by simp [strs]; omega, hc63⟩ rfl (sv_rels _) (fun v hv => sv_one hv) a1 (by simp [sv]; omega) hfr
      exact ⟨_, G', rfl, T1, R1, V⟩
  · exact grow _
end Go.Proofs.Ytpehfflehebmbaa.Space
end
section
set_option linter.unusedVariables false
set_option linter.unusedSimpArgs false
namespace Go.Av
section
variable {P : Program} {N : Nat}
theorem Ends.same {l : List Fr} {n m : Nat} {Q : AV → List Fr → Prop} {q r : AV} {h : H} (ok : Ok l n (ks l) m) (hs : VSub q r) (hk : ∀ j, j < n → h.objs j = lay l j) (hn : n ≤ h.n) (hm : m ≤ h.m) (ht : ∀ t ∈ ks l, t ∈ h.toks) (hq : Q r l) : Ends l n m Q q h r l where
  sub := hs
  ole j o hj := by
    refine ⟨o, ?_, OSub.refl _⟩
    rcases Nat.lt_or_ge j n with e | e
    · rw [hk j e]; exact hj
    · rw [ok.lay_bd e] at hj; cases hj
  tk := ht
  ok := ok.grow hn hm
  new j := by
    cases h : lay l j with
    | none => exact .inr (.inr rfl)
    | some o => exact .inr (.inl rfl)
  knew t ht := .inl ht
  q := hq
theorem FnIs.gsame {f : FuncId} {ac : AC} {args : List AV} {ds : List RV} {l : List Fr} {r : AV} (hF : FnIs P f N ac ds) (hl : args.length ≤ N)
    (hw : ∀ n m, Ok l n (ks l) m → Wp P N ac ⟨initT args, ⟨lay l, n, ks l, m⟩⟩ fun e s' => isEnd e ∧ ∃ q, resOf ds s'.t s'.h = some q ∧ VSub q r ∧ (∀ j, j < n → s'.h.objs j = lay l j) ∧ (∀ t ∈ ks l, t ∈ s'.h.toks)) : GCalls P f args l (fun r' l' => r' = r ∧ l' = l) := by
  refine hF.gcalls hl fun n m ok => ?_
  refine (hw n m ok).nm.mono ?_
  rintro e s' ⟨⟨h1, q, h2, h3, h4, h5⟩, h6, h7⟩
  exact ⟨h1, q, h2, r, l, Ends.same ok h3 h4 h6 h7 h5 ⟨rfl, rfl⟩⟩
theorem FnIs.gsameF {f : FuncId} {ac : AC} {args : List AV} {ds : List RV} {l : List Fr} {r : AV} (hF : FnIs P f N ac ds) (hl : args.length ≤ N)
    (hw : ∀ n m, Ok l n (ks l) m → Wp P N ac ⟨initT args, ⟨lay l, n, ks l, m⟩⟩ fun e s' => isEnd e ∧ ∃ q, resOf ds s'.t s'.h = some q ∧ VSub (unT s'.h (fun j => decide (n ≤ j)) q) r ∧ (∀ j, j < n → s'.h.objs j = lay l j) ∧ (∀ t ∈ ks l, t ∈ s'.h.toks)) : GCalls P f args l (fun r' l' => r' = r ∧ l' = l) := by
  intro n m ok
  obtain ⟨q, h', hc, ⟨h3, h4, h5⟩, hn, hm⟩ := hF.acalls (Q := fun q h' => (VSub (unT h' (fun j => decide (n ≤ j)) q) r ∧ (∀ j, j < n → h'.objs j = lay l j) ∧ (∀ t ∈ ks l, t ∈ h'.toks)) ∧ n ≤ h'.n ∧ m ≤ h'.m) hl ((hw n m ok).nm.mono fun e s' ⟨⟨h1, q, h2, h3⟩, h4, h5⟩ => ⟨h1, q, h2, h3, h4, h5⟩)
  have hc2 := hc.frz (fun j => decide (n ≤ j))
  have E : Ends l n m (fun r' l' => r' = r ∧ l' = l) (unT h' (fun j => decide (n ≤ j)) q) (h'.drop fun j => decide (n ≤ j)) r l := Ends.same ok h3 (fun j hj => by simp only [H.drop]; rw [if_neg (by simp; omega)]; exact h4 j hj) hn hm h5 ⟨rfl, rfl⟩
  exact ⟨r, l, h'.n, h'.m, hc2.le E.sub ⟨E.ole, E.tk⟩ rfl rfl, hn, hm, E.ok, E.new, E.knew, E.q⟩
theorem ne_off {s n : Nat} (h : s < n) : (∀ k, (s = n + k) = False) ∧ (∀ k, (n + k = s) = False) ∧ (s = n) = False ∧ (n = s) = False := by
  refine ⟨fun k => ?_, fun k => ?_, ?_, ?_⟩ <;> simp <;> omega
theorem Ok.lt {F : Fr} {l : List Fr} {n m j : Nat} {T : List Nat} {o : Obj} (ok : Ok l n T m) (hF : F ∈ l) (h : F.o j = some o) : j < n := by
  rcases Nat.lt_or_ge j n with e | e
  · exact e
  · rw [ok.bd F hF j e] at h; cases h
theorem Ok.at {F : Fr} {A B : List Fr} {n m j : Nat} {T : List Nat} {o : Obj} (ok : Ok (A ++ F :: B) n T m) (h : F.o j = some o) : lay (A ++ F :: B) j = some o := by
  rw [lay_append, lay_cons, h]
  have : lay A j = none := lay_none.2 fun F' hF' => by
    rcases (List.pairwise_append.1 ok.dj).2.2 F' hF' F (by simp) j with e | e
    · exact e
    · rw [e] at h; cases h
  rw [this]; rfl
theorem Ok.at0 {F : Fr} {B : List Fr} {n m j : Nat} {T : List Nat} {o : Obj} (ok : Ok (F :: B) n T m) (h : F.o j = some o) : lay (F :: B) j = some o := Ok.at (A := []) ok h
def Fr.Fin (F : Fr) : Prop := ∃ ids : List Nat, ∀ id, (F.o id).isSome = true → id ∈ ids
def Looks (P : Program) (f : FuncId) (args : List AV) (F : Fr) (r : AV) : Prop := F.Fin ∧ RCalls P f args F.o r
theorem FnIs.looks {f : FuncId} {ac : AC} {args : List AV} {ds : List RV} {F : Fr} {r : AV} (hfin : F.Fin) (hF : FnIs P f N ac ds) (hl : args.length ≤ N)
    (hw : ∀ n m, Wp P N ac ⟨initT args, ⟨F.o, n, [], m⟩⟩ fun e s' => isEnd e ∧ ∃ q, resOf ds s'.t s'.h = some q ∧ VSub q r ∧ s'.h = ⟨F.o, n, [], m⟩) : Looks P f args F r := by
  refine ⟨hfin, fun n m => ?_⟩
  obtain ⟨q, h', hc, hs, rfl⟩ := hF.acalls (Q := fun q h' => VSub q r ∧ h' = ⟨F.o, n, [], m⟩) hl ((hw n m).mono fun e s' ⟨h1, q, h2, h3, h4⟩ => ⟨h1, q, h2, h3, h4⟩)
  exact hc.le hs ⟨fun j o h => ⟨o, h, OSub.refl _⟩, fun t h => h⟩ rfl rfl
theorem WpItems.glook {dst : Option Nat} {g : Option (Nat × Bool)} {f : FuncId} {l : List Opd} {its : List AItem} {t : Tm} {log : List Ent} {K : Tm → H → List Ent → Prop} {vals : List AV} {r : AV} {F : Fr} {n' m' : Nat} {T' : List Nat} {objs : Objs}
    (hg : guardOf t g = some true) (hs : VSubs (l.map (ev t)) vals) (hc : Looks P f vals F r) (ho : ∀ j o, F.o j = some o → objs j = some o)
    (rest : ∀ ids, WpItems P N its (putT t dst r) ⟨objs, n', T', m'⟩ (⟨ids, [], []⟩ :: log) K) : WpItems P N (⟨dst, g, .call f l⟩ :: its) t ⟨objs, n', T', m'⟩ log K := by
  obtain ⟨⟨ids, hi⟩, hc⟩ := hc
  exact WpItems.rcall ids hg hs ho hi hc (rest ids)
theorem Ok.sub {l : List Fr} {n m : Nat} {T : List Nat} (ok : Ok l n T m) {F : Fr} (hF : F ∈ l) : ∀ j o, F.o j = some o → lay l j = some o := by
  intro j o h
  obtain ⟨A, B, rfl⟩ := List.append_of_mem hF
  exact ok.at h
end
end Go.Av
end
section
set_option linter.unusedSimpArgs false
set_option linter.unusedVariables false
set_option maxRecDepth 10000
namespace Go.Proofs.Ytpehfflehebmbaa.Space
open Go Go.Av Go.Proofs Go.Proofs.Ytpehfflehebmbaa.C Go.Proofs.Ytpehfflehebmbaa.Batch
abbrev It := Bs × List Ver
def vAV (v : List Ver) : AV := .sl 3 (v.map encV) .any
def encM (M : List It) : List (AV × AV) := M.map fun p => (.str p.1, vAV p.2)
def mres : List It → Bs → Option (Nat × AV)
  | [], _ => none
  | p :: M, q => if p.1 = q then some (0, vAV p.2) else (mres M q).map fun r => (r.1 + 1, r.2)
def mget : List It → Bs → List Ver
  | [], _ => []
  | p :: M, q => if p.1 = q then p.2 else mget M q
def mput : List It → Bs → List Ver → List It
  | [], q, v => [(q, v)]
  | p :: M, q, v => if p.1 = q then (q, v) :: M else p :: mput M q v
def mdel : List It → Bs → List It
  | [], _ => []
  | p :: M, q => if p.1 = q then M else p :: mdel M q
theorem mfind_enc (q : Bs) : ∀ M : List It, mfind q (encM M) = some (mres M q)
  | [] => rfl
  | p :: M => by
    have ih := mfind_enc q M
    simp only [encM, List.map_cons, mfind, mres] at ih ⊢
    by_cases h : p.1 = q
    · simp only [if_pos h]
    · simp only [if_neg h, ih, Option.map_some]
theorem look_sub (M : List It) (q : Bs) : VSub (lookAV (.sl 3 [] (.exact 0)) false (mres M q)) (vAV (mget M q)) := by
  have key : ∀ M : List It, (mres M q = none ∧ mget M q = []) ∨ ∃ i, mres M q = some (i, vAV (mget M q)) := by
    intro M
    induction M with
    | nil => exact .inl ⟨rfl, rfl⟩
    | cons p M ih =>
      simp only [mres, mget]
      by_cases h : p.1 = q
      · simp only [if_pos h]; exact .inr ⟨0, rfl⟩
      · simp only [if_neg h]
        rcases ih with ⟨h1, h2⟩ | ⟨i, h1⟩
        · exact .inl ⟨by rw [h1]; rfl, h2⟩
        · exact .inr ⟨i + 1, by rw [h1]; rfl⟩
  rcases key M with ⟨h1, h2⟩ | ⟨i, h1⟩
  · rw [h1, h2]; exact VSub.cap
  · rw [h1]; exact VSub.refl _
theorem put_enc (q : Bs) (v : List Ver) : ∀ M : List It, putEs (encM M) q (vAV v) (mres M q) = encM (mput M q v)
  | [] => rfl
  | p :: M => by
    have ih := put_enc q v M
    simp only [mres, mput]
    by_cases h : p.1 = q
    · simp only [if_pos h, putEs, encM, List.map_cons, List.set_cons_zero]
    · simp only [if_neg h]
      cases hr : mres M q with
      | none => rw [hr] at ih; simp only [Option.map_none, putEs, encM, List.map_cons, List.cons_append] at ih ⊢; rw [ih]
      | some r => rw [hr] at ih; simp only [Option.map_some, putEs, encM, List.map_cons, List.set_cons_succ] at ih ⊢; rw [ih]
theorem del_enc (q : Bs) : ∀ M : List It, delEs (encM M) (mres M q) = encM (mdel M q)
  | [] => rfl
  | p :: M => by
    have ih := del_enc q M
    simp only [mres, mdel]
    by_cases h : p.1 = q
    · simp only [if_pos h, delEs, encM, List.map_cons, List.eraseIdx_cons_zero]
    · simp only [if_neg h]
      cases hr : mres M q with
      | none => rw [hr] at ih; simp only [Option.map_none, delEs, encM, List.map_cons] at ih ⊢; rw [ih]
      | some r => rw [hr] at ih; simp only [Option.map_some, delEs, encM, List.map_cons, List.eraseIdx_cons_succ] at ih ⊢; rw [ih]
theorem mget_put (q q' : Bs) (v : List Ver) : ∀ M : List It, mget (mput M q v) q' = if q = q' then v else mget M q'
  | [] => by simp [mput, mget]
  | p :: M => by
    simp only [mput]
    by_cases h : p.1 = q
    · simp only [if_pos h, mget]
      by_cases h' : q = q'
      · simp [h']
      · simp only [if_neg h', if_neg (fun e => h' (h ▸ e : q = q'))]
    · simp only [if_neg h, mget, mget_put q q' v M]
      by_cases h' : q = q'
      · subst h'; simp [h]
      · simp [h']
theorem keys_put (q : Bs) (v : List Ver) : ∀ (M : List It) (x : Bs), x ∈ (mput M q v).map (·.1) → x = q ∨ x ∈ M.map (·.1)
  | [], x, h => by simp [mput] at h; exact .inl h
  | p :: M, x, h => by
    simp only [mput] at h
    split at h
    · simp only [List.map_cons, List.mem_cons] at h ⊢
      rcases h with h | h
      · exact .inl h
      · exact .inr (.inr h)
    · simp only [List.map_cons, List.mem_cons] at h ⊢
      rcases h with h | h
      · exact .inr (.inl h)
      · exact (keys_put q v M x h).imp id .inr
theorem nodup_put (q : Bs) (v : List Ver) : ∀ M : List It, (M.map (·.1)).Nodup → ((mput M q v).map (·.1)).Nodup
  | [], _ => by simp [mput]
  | p :: M, h => by
    simp only [List.map_cons, List.nodup_cons] at h
    simp only [mput]
    by_cases hp : p.1 = q
    · simp only [if_pos hp, List.map_cons, List.nodup_cons]; rw [← hp]; exact h
    · simp only [if_neg hp, List.map_cons, List.nodup_cons]
      refine ⟨fun hm => ?_, nodup_put q v M h.2⟩
      rcases keys_put q v M _ hm with e | e
      · exact hp e
      · exact h.1 e
theorem mget_none (q : Bs) : ∀ M : List It, q ∉ M.map (·.1) → mget M q = []
  | [], _ => rfl
  | p :: M, h => by
    simp only [List.map_cons, List.mem_cons, not_or] at h
    have h1 : ¬ p.1 = q := fun e => h.1 e.symm
    simp only [mget, if_neg h1]
    exact mget_none q M h.2
theorem mget_del (q q' : Bs) : ∀ M : List It, (M.map (·.1)).Nodup → mget (mdel M q) q' = if q = q' then [] else mget M q'
  | [], _ => by simp [mdel, mget]
  | p :: M, h => by
    simp only [List.map_cons, List.nodup_cons] at h
    simp only [mdel]
    by_cases hp : p.1 = q
    · simp only [if_pos hp, mget]
      by_cases h' : q = q'
      · subst h'; rw [if_pos rfl]; exact mget_none _ M (by rw [← hp]; exact h.1)
      · simp only [if_neg h', if_neg (fun e => h' (hp ▸ e : q = q'))]
    · simp only [if_neg hp, mget, mget_del q q' M h.2]
      by_cases h' : q = q'
      · subst h'; simp [hp]
      · simp [h']
theorem keys_del (q : Bs) : ∀ (M : List It) (x : Bs), x ∈ (mdel M q).map (·.1) → x ∈ M.map (·.1)
  | [], x, h => by simp [mdel] at h
  | p :: M, x, h => by
    simp only [mdel] at h
    split at h
    · simp only [List.map_cons, List.mem_cons]; exact .inr h
    · simp only [List.map_cons, List.mem_cons] at h ⊢
      exact h.imp id (keys_del q M x)
theorem nodup_del (q : Bs) : ∀ M : List It, (M.map (·.1)).Nodup → ((mdel M q).map (·.1)).Nodup
  | [], _ => by simp [mdel]
  | p :: M, h => by
    simp only [List.map_cons, List.nodup_cons] at h
    simp only [mdel]
    split
    · exact h.2
    · simp only [List.map_cons, List.nodup_cons]
      exact ⟨fun hm => h.1 (keys_del q M _ hm), nodup_del q M h.2⟩
structure Spc where
  L : List It
  last : Int
  mark : Int
structure MapOk (M L : List It) : Prop where
  nd : (M.map (·.1)).Nodup
  eq : ∀ q, mget M q = mget L q
def keysOf (L : List It) : List Bs := L.map (·.1)
def RowIs (K : AV) (keys : List Bs) (o : Objs) (s c : Nat) : Prop :=
  (K = .sl 1 [] (.exact 0) ∧ keys = []) ∨ ∃ k, K = .tsl 1 k 0 keys.length none ∧ o k = some (.cells (strs keys)) ∧ k ≠ s ∧ k ≠ c
structure SpcF (s : Nat) (S : Spc) (F : Fr) : Prop where
  go : ∃ c M K, MapOk M S.L ∧ s ≠ c ∧ F.o s = some (.cells [K, .mp c, .int .i64 S.last, .int .i64 S.mark]) ∧ F.o c = some (.map (encM M)) ∧ RowIs K (keysOf S.L) F.o s c
  k : F.k = []
  fin : F.Fin
def Small (S : Spc) : Prop := S.L.length ≤ 500000 ∧ ∀ q, (mget S.L q).length ≤ 500000
def Wide (S : Spc) : Prop := S.L.length ≤ 500000 ∧ ∀ q, (mget S.L q).length ≤ 4398046511104
theorem Small.wide {S : Spc} (h : Small S) : Wide S := ⟨h.1, fun q => by have := h.2 q; omega⟩
theorem made_r {s : Nat} {S : Spc} {F : Fr} (hF : SpcF s S F) : Looks Try.prog 52 [.ptr s 0] F (.bool true) := by
  obtain ⟨c, M, K, hM, hsc, hs, hc, hK⟩ := hF.go
  refine f52.looks hF.fin (by simp) fun n m => ?_
  unfold c52
  repeat (first
    | ((first | apply Wp.seqItemsR | apply Wp.itemsR); (· simp only [go_sem, reduceIte, Nat.reduceEqDiff, Nat.reduceAdd, bx, ax, if_true, if_false, Nat.reduceMul, Nat.reduceLeDiff, hs]; exact rfl))
    | (refine WpItems.nil ⟨?_, ?_⟩; (· first | trivial | simp [pairsQ, pairsOk, apart, ent0]))
    | (apply Wp.cond_lit; (· simp only [go_sem, reduceIte, Nat.reduceEqDiff, Nat.reduceAdd, bx, ax, if_true, if_false, Nat.reduceMul, Nat.reduceLeDiff, hs]; exact rfl); (· rfl))
    | refine Wp.skip ?_
    | refine Wp.label ?_
    | refine Wp.block ?_
    | refine Wp.exit ?_
    | refine Wp.seq ?_)
  exact Wp.ret ⟨trivial, _, rfl, VSub.refl _, rfl⟩
end Go.Proofs.Ytpehfflehebmbaa.Space
end
section
set_option linter.unusedSimpArgs false
set_option linter.unusedVariables false
set_option maxRecDepth 10000
namespace Go.Proofs.Ytpehfflehebmbaa.Space
open Go Go.Av Go.Proofs Go.Proofs.Ytpehfflehebmbaa.C Go.Proofs.Ytpehfflehebmbaa.Batch
def Rise (k : List Bs) : Prop := k.Pairwise fun a b => Op.bytesLess a b = true
def plK (k : List Bs) (q : Bs) : Nat := k.findIdx fun x => !Op.bytesLess x q
def thK (k : List Bs) (q : Bs) : Bool := decide (plK k q < k.length) && decide (k.getD (plK k q) [] = q)
theorem plK_le (k : List Bs) (q : Bs) : plK k q ≤ k.length := List.findIdx_le_length
theorem plK_lt {k : List Bs} {q : Bs} {i : Nat} (h : i < plK k q) : Op.bytesLess (k.getD i []) q = true := by
  have hl : i < k.length := Nat.lt_of_lt_of_le h (plK_le k q)
  have := List.not_of_lt_findIdx h
  rw [getD_el hl]
  simpa using this
theorem Rise.at {k : List Bs} (h : Rise k) {i j : Nat} (hij : i < j) (hj : j < k.length) : Op.bytesLess (k.getD i []) (k.getD j []) = true := by
  rw [getD_el hj, getD_el (by omega)]
  exact List.pairwise_iff_getElem.1 h i j (by omega) hj hij
theorem plK_ge {k : List Bs} (hk : Rise k) {q : Bs} {i : Nat} (h : plK k q ≤ i) (hl : i < k.length) : Op.bytesLess (k.getD i []) q = false := by
  have hp : plK k q < k.length := Nat.lt_of_le_of_lt h hl
  have h1 : Op.bytesLess (k.getD (plK k q) []) q = false := by
    have := List.findIdx_getElem (p := fun x => !Op.bytesLess x q) (xs := k) (w := hp)
    rw [getD_el hp]
    have h2 : (!Op.bytesLess (k[plK k q]'hp) q) = true := this
    simpa using h2
  by_cases e : i = plK k q
  · rw [e]; exact h1
  · have h2 := hk.at (i := plK k q) (j := i) (by omega) hl
    cases hc : Op.bytesLess (k.getD i []) q with
    | false => rfl
    | true => rw [less_trans h2 hc] at h1; cases h1
theorem thK_iff {k : List Bs} (h : Rise k) (q : Bs) : thK k q = decide (q ∈ k) := by
  have hp := plK_le k q
  refine Bool.eq_iff_iff.2 ?_
  simp only [thK, Bool.and_eq_true, decide_eq_true_eq]
  constructor
  · rintro ⟨h1, h2⟩
    rw [getD_el h1] at h2
    rw [← h2]; exact List.getElem_mem h1
  · intro hm
    obtain ⟨i, hi, e⟩ := List.mem_iff_getElem.1 hm
    have he : k.getD i [] = q := by rw [getD_el hi]; exact e
    have h1 : ¬ i < plK k q := by
      intro hlt
      have := plK_lt hlt
      rw [he, less_irrefl] at this; cases this
    have h2 : ¬ plK k q < i := by
      intro hlt
      have a1 := h.at hlt hi
      rw [he] at a1
      have a2 := plK_ge (q := q) h (Nat.le_refl _) (Nat.lt_trans hlt hi)
      rw [a1] at a2; cases a2
    have : plK k q = i := by omega
    rw [this]
    exact ⟨hi, he⟩
theorem bs_row {K : AV} {keys : List Bs} {o : Objs} {s c : Nat} (hK : RowIs K keys o s c) (hr : Rise keys) (hl : keys.length ≤ 1152921504606846976) (q : Bs) :
    ∃ (objs : Objs) (ids : List Nat), (∀ id p, objs id = some p → o id = some p) ∧ (∀ id, (objs id).isSome → id ∈ ids) ∧ RCalls Try.prog 81 [K, .str q] objs (.tup [.int .i64 (plK keys q), .bool (thK keys q)]) := by
  have hb := Reads.bsearch_p keys hl q (plK keys q) (plK_le keys q) (fun i h => plK_lt h) (fun i h hi => plK_ge hr h hi)
  rcases hK with ⟨rfl, rfl⟩ | ⟨k, rfl, h1, h2, h3⟩
  · refine ⟨none', [], fun id p h => by simp [none'] at h, fun id h => by simp [none'] at h, fun n m => ?_⟩
    intro G w vs hv R F
    refine hb n m G w vs ?_ R F
    exact (VSubs.cons VSub.cap (VSubs.refl _)) G w vs hv
  · refine ⟨upd none' k (some (.cells (strs keys))), [k], fun id p h => ?_, fun id h => ?_, ?_⟩
    · simp only [upd, none'] at h
      split at h
      · rename_i e; subst e; cases h; exact h1
      · cases h
    · simp only [upd, none'] at h
      split at h
      · rename_i e; simp [e]
      · cases h
    · have := hb.look (fun G G' w v h => by simpa only [VRel, VRels] using h) none k
      rwa [strs_length] at this
theorem ends_spc {s c n m : Nat} {F : Fr} {q r K : AV} {h : H} {S' : Spc} {M' : List It} {Q : AV → List Fr → Prop} (hs0 : (F.o s).isSome = true) (hc0 : (F.o c).isSome = true) (hsn : s < n) (hcn : c < n) (hsc : s ≠ c) (hn : n ≤ h.n)
    (h1 : h.objs s = some (.cells [K, .mp c, .int .i64 S'.last, .int .i64 S'.mark])) (h2 : h.objs c = some (.map (encM M'))) (hM : MapOk M' S'.L)
    (hrow : (K = .sl 1 [] (.exact 0) ∧ keysOf S'.L = []) ∨ ∃ k, K = .tsl 1 k 0 (keysOf S'.L).length none ∧ h.objs k = some (.cells (strs (keysOf S'.L))) ∧ k ≠ s ∧ k ≠ c ∧ k < h.n ∧ ((F.o k).isSome = true ∨ n ≤ k))
    (sub : VSub q r) (hQ : ∀ F', SpcF s S' F' → Q r [F']) : ∃ r l', Av.Ends [F] n m Q q h r l' := by
  have getF : ∀ j, (F.o j).isSome = true → (lay [F] j).isSome = true := fun j hj => by
    rw [lay_cons]
    obtain ⟨x, hx⟩ := Option.isSome_iff_exists.1 hj
    rw [hx]; rfl
  rcases hrow with ⟨rfl, hk⟩ | ⟨k, rfl, h3, hks, hkc, hkn, hk⟩
  · refine ⟨r, [cat [ob s (.cells [.sl 1 [] (.exact 0), .mp c, .int .i64 S'.last, .int .i64 S'.mark]), ob c (.map (encM M'))]], ⟨sub, ?_, fun t ht => ?_, ?_, fun j => ?_, fun t ht => ?_, hQ _ ⟨⟨c, M', _, hM, hsc, ?_, ?_, .inl ⟨rfl, hk⟩⟩, rfl, ⟨[s, c], fun id hid => ?_⟩⟩⟩⟩
    · exact OLe.lay_cat (m := []) (OLe.lay_ob h1 (OSub.refl _) (OLe.lay_ob h2 (OSub.refl _) (OLe.lay_nil _)))
    · simp [ks, cat, ob] at ht
    · refine ⟨fun F' hF' j hj => ?_, by simp, fun t ht => by simp [ks, cat, ob] at ht, by simp, fun t ht => by simp [ks, cat, ob] at ht⟩
      rw [List.mem_singleton.1 hF']
      simp only [cat, lay, ob_o, none']
      rw [if_neg (by omega), if_neg (by omega)]; rfl
    · by_cases e1 : j = s
      · subst e1; exact .inr (.inl (getF _ hs0))
      · by_cases e2 : j = c
        · subst e2; exact .inr (.inl (getF _ hc0))
        · right; right
          simp [lay, cat, ob_o, none', e1, e2]
    · simp [ks, cat, ob] at ht
    · simp [cat, lay, ob_o]
    · simp [cat, lay, ob_o, Ne.symm hsc]
    · simp only [cat, lay, ob_o, none'] at hid
      by_cases e1 : id = s
      · simp [e1]
      · by_cases e2 : id = c
        · simp [e2]
        · simp [e1, e2] at hid
  · refine ⟨r, [cat [ob s (.cells [.tsl 1 k 0 (keysOf S'.L).length none, .mp c, .int .i64 S'.last, .int .i64 S'.mark]), ob c (.map (encM M')), ob k (.cells (strs (keysOf S'.L)))]], ⟨sub, ?_, fun t ht => ?_, ?_, fun j => ?_, fun t ht => ?_, hQ _ ⟨⟨c, M', _, hM, hsc, ?_, ?_, .inr ⟨k, rfl, ?_, hks, hkc⟩⟩, rfl, ⟨[s, c, k], fun id hid => ?_⟩⟩⟩⟩
    · exact OLe.lay_cat (m := []) (OLe.lay_ob h1 (OSub.refl _) (OLe.lay_ob h2 (OSub.refl _) (OLe.lay_ob h3 (OSub.refl _) (OLe.lay_nil _))))
    · simp [ks, cat, ob] at ht
    · refine ⟨fun F' hF' j hj => ?_, by simp, fun t ht => by simp [ks, cat, ob] at ht, by simp, fun t ht => by simp [ks, cat, ob] at ht⟩
      rw [List.mem_singleton.1 hF']
      simp only [cat, lay, ob_o, none']
      rw [if_neg (by omega), if_neg (by omega), if_neg (by omega)]; rfl
    · by_cases e1 : j = s
      · subst e1; exact .inr (.inl (getF _ hs0))
      · by_cases e2 : j = c
        · subst e2; exact .inr (.inl (getF _ hc0))
        · by_cases e3 : j = k
          · subst e3
            rcases hk with hk | hk
            · exact .inr (.inl (getF _ hk))
            · exact .inl hk
          · right; right
            simp [lay, cat, ob_o, none', e1, e2, e3]
    · simp [ks, cat, ob] at ht
    · simp [cat, lay, ob_o]
    · simp [cat, lay, ob_o, Ne.symm hsc]
    · simp [cat, lay, ob_o, hks, hkc]
    · simp only [cat, lay, ob_o, none'] at hid
      by_cases e1 : id = s
      · simp [e1]
      · by_cases e2 : id = c
        · simp [e2]
        · by_cases e3 : id = k
          · simp [e3]
          · simp [e1, e2, e3] at hid
theorem new_g : GCalls Try.prog 13 [] [] (fun r l => ∃ s F, r = .ptr s 0 ∧ l = [F] ∧ SpcF s ⟨[], 0, 0⟩ F) := by
  refine f13.gcalls (by simp) fun n m ok => ?_
  unfold c13
  repeat (first
    | ((first | apply Wp.seqItemsR | apply Wp.itemsR); (· simp only [go_sem, reduceIte, Nat.reduceEqDiff, Nat.reduceAdd, bx, ax, if_true, if_false, Nat.reduceMul, Nat.reduceLeDiff]; exact rfl))
    | (refine WpItems.nil ⟨?_, ?_⟩; (· first | trivial | simp [pairsQ, pairsOk, apart, ent0]))
    | (apply Wp.cond_lit; (· simp only [go_sem, reduceIte, Nat.reduceEqDiff, Nat.reduceAdd, bx, ax, if_true, if_false, Nat.reduceMul, Nat.reduceLeDiff]; exact rfl); (· rfl))
    | refine Wp.skip ?_
    | refine Wp.label ?_
    | refine Wp.block ?_
    | refine Wp.exit ?_
    | refine Wp.seq ?_)
  refine Wp.ret ⟨trivial, _, rfl, .ptr (n + 1) 0, [cat [ob (n + 1) (.cells [.sl 1 [] (.exact 0), .mp n, .int .i64 0, .int .i64 0]), ob n (.map (encM []))]], ?_⟩
  refine ⟨VSub.refl _, ?_, fun t ht => ?_, ?_, fun j => ?_, fun t ht => ?_, n + 1, _, rfl, rfl, ⟨n, [], _, ⟨by simp, fun q => rfl⟩, by omega, ?_, ?_, .inl ⟨rfl, rfl⟩⟩, rfl, ⟨[n + 1, n], fun id hid => ?_⟩⟩
  · exact OLe.lay_cat (m := []) (OLe.lay_ob (by simp [upd]) (OSub.refl _) (OLe.lay_ob (by simp [upd]; rfl) (OSub.refl _) (OLe.lay_nil _)))
  · simp [ks, cat, ob] at ht
  · refine ⟨fun F' hF' j hj => ?_, by simp, fun t ht => by simp [ks, cat, ob] at ht, by simp, fun t ht => by simp [ks, cat, ob] at ht⟩
    rw [List.mem_singleton.1 hF']
    simp only at hj
    simp only [cat, lay, ob_o, none']
    rw [if_neg (by omega), if_neg (by omega)]; rfl
  · by_cases e : n ≤ j
    · exact .inl e
    · right; right
      simp only [lay, cat, ob_o, none']
      rw [if_neg (by omega), if_neg (by omega)]; rfl
  · simp [ks, cat, ob] at ht
  · simp [cat, lay, ob_o]
  · simp [cat, lay, ob_o]
  · simp only [cat, lay, ob_o, none'] at hid
    by_cases e1 : id = n + 1
    · simp [e1]
    · by_cases e2 : id = n
      · simp [e2]
      · simp [e1, e2] at hid
def setL (L : List It) (q : Bs) (v : List Ver) : List It :=
  if v = [] then (if thK (keysOf L) q = true then L.take (plK (keysOf L) q) ++ L.drop (plK (keysOf L) q + 1) else L)
  else if thK (keysOf L) q = true then L.take (plK (keysOf L) q) ++ (q, v) :: L.drop (plK (keysOf L) q + 1) else L.take (plK (keysOf L) q) ++ (q, v) :: L.drop (plK (keysOf L) q)
def RiseL (L : List It) : Prop := Rise (keysOf L)
theorem mget_app (q : Bs) : ∀ (A B : List It), mget (A ++ B) q = if q ∈ A.map (·.1) then mget A q else mget B q
  | [], B => by simp
  | p :: A, B => by
    simp only [List.cons_append, mget, List.map_cons, List.mem_cons]
    by_cases h : p.1 = q
    · simp [h]
    · have h' : ¬ q = p.1 := fun e => h e.symm
      simp only [if_neg h, h', false_or, mget_app q A B]
theorem setL_get {L : List It} (h : RiseL L) (q : Bs) (v : List Ver) (q' : Bs) : mget (setL L q v) q' = if q = q' then v else mget L q' := by
  have hp := plK_le (keysOf L) q
  have hlen : (keysOf L).length = L.length := by simp [keysOf]
  have hne : ∀ i (hi : i < L.length), i ≠ plK (keysOf L) q → (L[i]).1 ≠ q ∨ thK (keysOf L) q = false := by
    intro i hi hd
    by_cases ht : thK (keysOf L) q = true
    · left
      intro e
      simp only [thK, Bool.and_eq_true, decide_eq_true_eq] at ht
      have e1 : (keysOf L).getD i [] = q := by rw [getD_el (by omega)]; simpa [keysOf] using e
      rcases Nat.lt_or_gt_of_ne hd with hlt | hlt
      · have := h.at hlt ht.1
        rw [ht.2, e1, less_irrefl] at this; cases this
      · have := h.at hlt (by omega)
        rw [ht.2, e1, less_irrefl] at this; cases this
    · exact .inr (by simpa using ht)
  have memk : ∀ x, x ∈ (L.take (plK (keysOf L) q)).map (·.1) → x ≠ q := by
    intro x hx e
    obtain ⟨p, hp1, hp2⟩ := List.mem_map.1 hx
    obtain ⟨i, hi, rfl⟩ := List.mem_iff_getElem.1 hp1
    rw [List.length_take] at hi
    have h2 := plK_lt (k := keysOf L) (q := q) (i := i) (by omega)
    have h3 : (keysOf L).getD i [] = q := by
      rw [getD_el (by omega)]
      refine Eq.trans ?_ (hp2.trans e)
      simp [keysOf]
    rw [h3, less_irrefl] at h2; cases h2
  have hL : L = L.take (plK (keysOf L) q) ++ L.drop (plK (keysOf L) q) := by simp
  by_cases ht : thK (keysOf L) q = true
  · have ht2 := ht
    simp only [thK, Bool.and_eq_true, decide_eq_true_eq] at ht2
    have hlt : plK (keysOf L) q < L.length := by omega
    have hkey : (L[plK (keysOf L) q]).1 = q := by
      have := ht2.2
      rw [getD_el ht2.1] at this
      simpa [keysOf] using this
    have hd : L.drop (plK (keysOf L) q) = L[plK (keysOf L) q] :: L.drop (plK (keysOf L) q + 1) := List.drop_eq_getElem_cons hlt
    have nomem : q ∉ (L.drop (plK (keysOf L) q + 1)).map (·.1) := by
      intro hx
      obtain ⟨p, hp1, hp2⟩ := List.mem_map.1 hx
      obtain ⟨i, hi, rfl⟩ := List.mem_iff_getElem.1 hp1
      rw [List.length_drop] at hi
      rw [List.getElem_drop] at hp2
      rcases hne (plK (keysOf L) q + 1 + i) (by omega) (by omega) with e | e
      · exact e hp2
      · rw [ht] at e; cases e
    by_cases hv : v = []
    · rw [setL, if_pos hv, if_pos ht, mget_app]
      by_cases he : q = q'
      · subst he
        rw [if_neg (fun hm => memk _ hm rfl), if_pos rfl, hv]
        exact mget_none _ _ nomem
      · rw [if_neg he]
        conv => rhs; rw [hL, mget_app, hd]
        simp only [mget, hkey, if_neg he]
    · rw [setL, if_neg hv, if_pos ht, mget_app]
      by_cases he : q = q'
      · subst he
        rw [if_neg (fun hm => memk _ hm rfl), if_pos rfl]
        simp only [mget, if_true]
      · rw [if_neg he]
        conv => rhs; rw [hL, mget_app, hd]
        simp only [mget, hkey, if_neg he]
  · have hq : mget L q = [] := by
      refine mget_none _ _ fun hm => ?_
      have := thK_iff h q
      rw [decide_eq_true (show q ∈ keysOf L from hm)] at this
      exact ht this
    by_cases hv : v = []
    · rw [setL, if_pos hv, if_neg ht]
      by_cases he : q = q'
      · subst he; rw [if_pos rfl, hv, hq]
      · rw [if_neg he]
    · rw [setL, if_neg hv, if_neg ht, mget_app]
      by_cases he : q = q'
      · subst he
        rw [if_neg (fun hm => memk _ hm rfl), if_pos rfl]
        simp only [mget, if_true]
      · rw [if_neg he]
        conv => rhs; rw [hL, mget_app]
        simp only [mget, if_neg he]
theorem setL_keys (L : List It) (q : Bs) (v : List Ver) : keysOf (setL L q v) =
    if v = [] then (if thK (keysOf L) q = true then (keysOf L).take (plK (keysOf L) q) ++ (keysOf L).drop (plK (keysOf L) q + 1) else keysOf L)
    else if thK (keysOf L) q = true then keysOf L else (keysOf L).take (plK (keysOf L) q) ++ q :: (keysOf L).drop (plK (keysOf L) q) := by
  unfold setL
  split
  · split <;> simp [keysOf, List.map_take, List.map_drop]
  · split
    · rename_i ht
      simp only [thK, Bool.and_eq_true, decide_eq_true_eq] at ht
      have hlt : plK (keysOf L) q < (keysOf L).length := ht.1
      have hd := List.drop_eq_getElem_cons hlt
      have hk : (keysOf L)[plK (keysOf L) q] = q := by have := ht.2; rwa [getD_el hlt] at this
      have e1 : keysOf (L.take (plK (keysOf L) q) ++ (q, v) :: L.drop (plK (keysOf L) q + 1)) = (keysOf L).take (plK (keysOf L) q) ++ q :: (keysOf L).drop (plK (keysOf L) q + 1) := by
        simp [keysOf, List.map_take, List.map_drop]
      rw [e1]
      conv => rhs; rw [← List.take_append_drop (plK (keysOf L) q) (keysOf L), hd, hk]
    · simp [keysOf, List.map_take, List.map_drop]
theorem setL_rise {L : List It} (h : RiseL L) (q : Bs) (v : List Ver) : RiseL (setL L q v) := by
  unfold RiseL
  rw [setL_keys]
  have hk : Rise (keysOf L) := h
  split
  · split
    · refine List.pairwise_append.2 ⟨hk.sublist (List.take_sublist _ _), hk.sublist (List.drop_sublist _ _), fun a ha b hb => ?_⟩
      have e : keysOf L = (keysOf L).take (plK (keysOf L) q + 1) ++ (keysOf L).drop (plK (keysOf L) q + 1) := (List.take_append_drop _ _).symm
      have hp := hk
      unfold Rise at hp
      rw [e] at hp
      exact (List.pairwise_append.1 hp).2.2 a (List.take_subset_take_left _ (by omega) ha) b hb
    · exact hk
  · split
    · exact hk
    · rename_i ht
      refine List.pairwise_append.2 ⟨hk.sublist (List.take_sublist _ _), List.pairwise_cons.2 ⟨fun b hb => ?_, hk.sublist (List.drop_sublist _ _)⟩, fun a ha b hb => ?_⟩
      · obtain ⟨i, hi, rfl⟩ := List.mem_iff_getElem.1 hb
        rw [List.length_drop] at hi
        rw [List.getElem_drop]
        have h1 := plK_ge hk (q := q) (i := plK (keysOf L) q + i) (by omega) (by omega)
        rw [getD_el (by omega)] at h1
        rcases less_total q (keysOf L)[plK (keysOf L) q + i] with e | e | e
        · exact e
        · have := thK_iff hk q
          rw [decide_eq_true (show q ∈ keysOf L by rw [e]; exact List.getElem_mem _)] at this
          exact absurd this ht
        · rw [h1] at e; cases e
      · have hlt : Op.bytesLess a q = true := by
          obtain ⟨i, hi, rfl⟩ := List.mem_iff_getElem.1 ha
          rw [List.length_take] at hi
          have := plK_lt (k := keysOf L) (q := q) (i := i) (by omega)
          rw [getD_el (by omega)] at this
          rw [List.getElem_take]; exact this
        rcases List.mem_cons.1 hb with rfl | hb
        · exact hlt
        · obtain ⟨i, hi, rfl⟩ := List.mem_iff_getElem.1 hb
          obtain ⟨j, hj, rfl⟩ := List.mem_iff_getElem.1 ha
          rw [List.length_drop] at hi
          rw [List.length_take] at hj
          rw [List.getElem_drop, List.getElem_take]
          exact List.pairwise_iff_getElem.1 hk _ _ _ _ (by omega)
end Go.Proofs.Ytpehfflehebmbaa.Space
end
section
set_option linter.unusedSimpArgs false
set_option linter.unusedVariables false
set_option maxRecDepth 10000
namespace Go.Proofs.Ytpehfflehebmbaa.Space
open Go Go.Av Go.Proofs Go.Proofs.Ytpehfflehebmbaa.C Go.Proofs.Ytpehfflehebmbaa.Batch
def setS (S : Spc) (q : Bs) (v : List Ver) : Spc := { S with L := setL S.L q v }
set_option maxHeartbeats 2000000 in
theorem set_g {s : Nat} {S : Spc} {F : Fr} (hF : SpcF s S F) (hr : RiseL S.L) (hl : S.L.length ≤ 500000) (q : Bs) (v : List Ver) : GCalls Try.prog 55 [.ptr s 0, .str q, vAV v] [F] (fun r l => r = .tup [] ∧ ∃ F', l = [F'] ∧ SpcF s (setS S q v) F') := by
  obtain ⟨c, M, K, hM, hsc, hs, hc, hK⟩ := hF.go
  have hkl : (keysOf S.L).length = S.L.length := by simp [keysOf]
  obtain ⟨objs, ids, ho, hi, hb⟩ := bs_row hK hr (by omega) q
  refine f55.gcalls (by simp) fun n m ok => ?_
  unfold c55
  have fs := ok.at0 hs
  have fc := ok.at0 hc
  have hsn := ok.lt (by simp) hs
  have hcn := ok.lt (by simp) hc
  have ksF : ks [F] = [] := by simp [ks, hF.k]
  have hcs : (c = s) = False := by simp; exact Ne.symm hsc
  have hsc' : (s = c) = False := by simp [hsc]
  have hms : MapOk (if v = [] then mdel M q else mput M q v) (setS S q v).L := by
    refine ⟨?_, fun q' => ?_⟩
    · split
      · exact nodup_del _ _ hM.nd
      · exact nodup_put _ _ _ hM.nd
    · show _ = mget (setL S.L q v) q'
      rw [setL_get hr]
      split
      · rename_i hv; subst hv; rw [mget_del _ _ _ hM.nd, hM.eq]
      · rw [mget_put, hM.eq]
  have hke := setL_keys S.L q v
  rw [ksF]
  repeat (first
    | ((first | apply Wp.seqItemsR | apply Wp.itemsR); (· simp only [go_sem, reduceIte, Nat.reduceEqDiff, Nat.reduceAdd, bx, ax, if_true, if_false, Nat.reduceMul, Nat.reduceLeDiff, fs, fc]; exact rfl))
    | (refine WpItems.nil ⟨?_, ?_⟩; (· first | trivial | simp [pairsQ, pairsOk, apart, ent0]))
    | (apply Wp.cond_lit; (· simp only [go_sem, reduceIte, Nat.reduceEqDiff, Nat.reduceAdd, bx, ax, if_true, if_false, Nat.reduceMul, Nat.reduceLeDiff, fs, fc]; exact rfl); (· rfl))
    | refine Wp.skip ?_
    | refine Wp.label ?_
    | refine Wp.block ?_
    | refine Wp.exit ?_
    | refine Wp.seq ?_)
  refine WpItems.rcall ids (by simp only [go_sem]) (by simp only [go_sem, reduceIte, Nat.reduceEqDiff, List.map]; exact VSubs.refl _) (fun id o h => ok.sub (by simp) id o (ho id o h)) hi hb ?_
  refine WpItems.evR (by simp only [go_sem, reduceIte, Nat.reduceEqDiff, Nat.reduceAdd, bx]; exact rfl) ?_
  refine WpItems.nil ⟨by trivial, ?_⟩
  have b0 : decide (((0 : Nat) : Int) = 0) = true := rfl
  have b1 : decide ((0 : Int) < ((0 : Nat) : Int)) = false := rfl
  have hs0 : (F.o s).isSome = true := by rw [hs]; rfl
  have hc0 : (F.o c).isSome = true := by rw [hc]; rfl
  have row0 : ∀ (S' : Spc), keysOf S'.L = keysOf S.L → ((K = .sl 1 [] (.exact 0) ∧ keysOf S'.L = []) ∨ ∃ k, K = .tsl 1 k 0 (keysOf S'.L).length none ∧ lay [F] k = some (.cells (strs (keysOf S'.L))) ∧ k ≠ s ∧ k ≠ c ∧ k < n ∧ ((F.o k).isSome = true ∨ n ≤ k)) := by
    intro S' e
    rw [e]
    rcases hK with ⟨h1, h2⟩ | ⟨k, h1, h2, h3, h4⟩
    · exact .inl ⟨h1, h2⟩
    · exact .inr ⟨k, h1, ok.at0 h2, h3, h4, ok.lt (by simp) h2, .inl (by rw [h2]; rfl)⟩
  have hple := plK_le (keysOf S.L) q
  have i2 : IntKind.i64.wrap (((plK (keysOf S.L) q : Nat) : Int) + 1) = ((plK (keysOf S.L) q + 1 : Nat) : Int) := by rw [IntWalk.i64_in _ (by omega)]; omega
  by_cases hv : v = []
  · subst hv
    rw [if_pos rfl] at hms
    rw [if_pos rfl] at hke
    cases ht : thK (keysOf S.L) q with
    | false =>
      have e : setS S q [] = S := by
        simp only [setS, setL, if_true, ht, Bool.false_eq_true, if_false]
      rw [e]
      repeat (first
        | ((first | apply Wp.seqItemsR | apply Wp.itemsR); (· simp only [go_sem, reduceIte, Nat.reduceEqDiff, Nat.reduceAdd, bx, ax, if_true, if_false, Nat.reduceMul, Nat.reduceLeDiff, vAV, List.map_nil, List.length_nil, ht, b0, b1]; exact rfl))
        | (refine WpItems.nil ⟨?_, ?_⟩; (· first | trivial | simp [pairsQ, pairsOk, apart, ent0]))
        | (apply Wp.cond_lit; (· simp only [go_sem, reduceIte, Nat.reduceEqDiff, Nat.reduceAdd, bx, ax, if_true, if_false, Nat.reduceMul, Nat.reduceLeDiff, vAV, List.map_nil, List.length_nil, ht, b0, b1]; exact rfl); (· rfl))
        | refine Wp.skip ?_
        | refine Wp.label ?_
        | refine Wp.block ?_
        | refine Wp.exit ?_
        | refine Wp.seq ?_)
      exact ⟨trivial, _, rfl, ends_spc hs0 hc0 hsn hcn hsc (Nat.le_refl _) fs fc hM (row0 S rfl) (VSub.refl _) fun F' h => ⟨rfl, F', rfl, h⟩⟩
    | true =>
      rw [if_pos ht] at hke
      have ht2 := ht
      simp only [thK, Bool.and_eq_true, decide_eq_true_eq] at ht2
      rcases hK with ⟨rfl, h2⟩ | ⟨k, rfl, h2, h3, h4⟩
      · rw [h2] at ht2; simp at ht2
      have fk := ok.at0 h2
      have hkn := ok.lt (by simp) h2
      have hsk' : (s = k) = False := by simp; exact Ne.symm h3
      have hck' : (c = k) = False := by simp; exact Ne.symm h4
      obtain ⟨o1, o2, o3, o4⟩ := ne_off hsn
      obtain ⟨p1, p2, p3, p4⟩ := ne_off hcn
      repeat (first
        | ((first | apply Wp.seqItemsR | apply Wp.itemsR); (· simp only [go_sem, reduceIte, Nat.reduceEqDiff, Nat.reduceAdd, bx, ax, if_true, if_false, Nat.reduceMul, Nat.reduceLeDiff, vAV, List.map_nil, List.length_nil, ht, b0]; exact rfl))
        | (refine WpItems.nil ⟨?_, ?_⟩; (· first | trivial | simp [pairsQ, pairsOk, apart, ent0]))
        | (apply Wp.cond_lit; (· simp only [go_sem, reduceIte, Nat.reduceEqDiff, Nat.reduceAdd, bx, ax, if_true, if_false, Nat.reduceMul, Nat.reduceLeDiff, vAV, List.map_nil, List.length_nil, ht, b0]; exact rfl); (· rfl))
        | refine Wp.skip ?_
        | refine Wp.label ?_
        | refine Wp.block ?_
        | refine Wp.exit ?_
        | refine Wp.seq ?_)
      refine Wp.regN ?_
      refine WpItemsN.op (by simp only [go_sem, reduceIte, Nat.reduceEqDiff, Nat.reduceAdd, bx]) (by simp only [go_sem, reduceIte, Nat.reduceEqDiff, Nat.reduceAdd, bx]; exact rfl) ?_
      refine WpItemsN.op (by simp only [go_sem, reduceIte, Nat.reduceEqDiff, Nat.reduceAdd, bx]) (by simp only [go_sem, reduceIte, Nat.reduceEqDiff, Nat.reduceAdd, bx]; exact rfl) ?_
      refine WpItemsN.op (by simp only [go_sem, reduceIte, Nat.reduceEqDiff, Nat.reduceAdd, bx]) (by simp only [go_sem, reduceIte, Nat.reduceEqDiff, Nat.reduceAdd, bx]; exact rfl) ?_
      refine WpItemsN.op (by simp only [go_sem, reduceIte, Nat.reduceEqDiff, Nat.reduceAdd, bx]) (by simp only [go_sem, reduceIte, Nat.reduceEqDiff, Nat.reduceAdd, bx]; exact rfl) ?_
      refine WpItemsN.op (by simp only [go_sem, reduceIte, Nat.reduceEqDiff, Nat.reduceAdd, bx]) (by simp only [go_sem, reduceIte, Nat.reduceEqDiff, Nat.reduceAdd, bx, fs]; exact rfl) ?_
      refine WpItemsN.op (by simp only [go_sem, reduceIte, Nat.reduceEqDiff, Nat.reduceAdd, bx]) (by simp only [go_sem, reduceIte, Nat.reduceEqDiff, Nat.reduceAdd, bx, i2]; exact rfl) ?_
      refine WpItemsN.op (by simp only [go_sem, reduceIte, Nat.reduceEqDiff, Nat.reduceAdd, bx]) (by simp only [go_sem, reduceIte, Nat.reduceEqDiff, Nat.reduceAdd, bx, i2]; exact rfl) ?_
      refine WpItemsN.op (by simp only [go_sem, reduceIte, Nat.reduceEqDiff, Nat.reduceAdd, bx]) (by simp only [go_sem, reduceIte, Nat.reduceEqDiff, Nat.reduceAdd, bx, i2]; exact rfl) ?_
      refine WpItemsN.acall (by simp only [go_sem]) (by simp only [go_sem, reduceIte, Nat.reduceEqDiff, List.map]; exact VSubs.refl _) (delete_t (keysOf S.L) (plK (keysOf S.L) q) ht2.1 (by omega) (id := k) (h := .only (upd none' k (some (.cells (strs (keysOf S.L))))) [] n m) (by simp [H.only, upd]) rfl) (touch_turn _ fk hkn) ?_
      refine WpItemsN.op (by simp only [go_sem, reduceIte, Nat.reduceEqDiff, Nat.reduceAdd, bx]) (by simp only [go_sem, reduceIte, Nat.reduceEqDiff, Nat.reduceAdd, bx, H.turn, fs, o3, hsk']; exact rfl) ?_
      refine WpItemsN.op (by simp only [go_sem, reduceIte, Nat.reduceEqDiff, Nat.reduceAdd, bx]) (by simp only [go_sem, reduceIte, Nat.reduceEqDiff, Nat.reduceAdd, bx, H.turn, fs, o3, hsk']; exact rfl) ?_
      refine WpItemsN.op (by simp only [go_sem, reduceIte, Nat.reduceEqDiff, Nat.reduceAdd, bx]) (by simp only [go_sem, reduceIte, Nat.reduceEqDiff, Nat.reduceAdd, bx, H.turn, fs, o3, hsk']; exact rfl) ?_
      refine WpItems.toN (log := []) (WpItems.nil ?_)
      repeat (first
        | ((first | apply Wp.seqItemsR | apply Wp.itemsR); (· simp only [go_sem, reduceIte, Nat.reduceEqDiff, Nat.reduceAdd, bx, ax, if_true, if_false, Nat.reduceMul, Nat.reduceLeDiff, fc, mfind_enc, del_enc, p3, hck', hcs, hsc']; exact rfl))
        | (refine WpItems.nil ⟨?_, ?_⟩; (· first | trivial | simp [pairsQ, pairsOk, apart, ent0]))
        | (apply Wp.cond_lit; (· simp only [go_sem, reduceIte, Nat.reduceEqDiff, Nat.reduceAdd, bx, ax, if_true, if_false, Nat.reduceMul, Nat.reduceLeDiff, fc, mfind_enc, del_enc, p3, hck', hcs, hsc']; exact rfl); (· rfl))
        | refine Wp.skip ?_
        | refine Wp.label ?_
        | refine Wp.block ?_
        | refine Wp.exit ?_
        | refine Wp.seq ?_)
      have hl2 : (keysOf S.L).length - 1 = (keysOf (setS S q []).L).length := by
        show _ = (keysOf (setL S.L q [])).length
        rw [hke, List.length_append, List.length_take, List.length_drop]; omega
      refine ⟨trivial, _, rfl, ends_spc (S' := setS S q []) (M' := mdel M q) (K := .tsl 1 n 0 ((keysOf S.L).length - 1) none) hs0 hc0 hsn hcn hsc (by simp only; omega) ?_ ?_ hms (.inr ⟨n, by rw [hl2], ?_, by omega, by omega, by simp only; omega, .inr (Nat.le_refl _)⟩) (VSub.refl _) fun F' h => ⟨rfl, F', rfl, h⟩⟩
      · simp only [go_sem, H.turn, hsc', hcs, o3, hsk', fs, reduceIte]; rfl
      · simp only [go_sem, H.turn, hsc', hcs, p3, hck', fc, reduceIte]
        rw [← del_enc]; rfl
      · simp only [go_sem, H.turn, o4, p4, reduceIte]
        show some _ = some _
        rw [← hke]; rfl
  · rw [if_neg hv] at hms hke
    have hlen : 0 < v.length := List.length_pos_iff.2 hv
    have c0 : decide ((v.length : Int) = 0) = false := decide_eq_false (by omega)
    have c1 : decide ((0 : Int) < (v.length : Int)) = true := decide_eq_true (by omega)
    have hput := put_enc q v M
    simp only [vAV, putEs] at hput
    cases ht : thK (keysOf S.L) q with
    | true =>
      rw [if_pos ht] at hke
      repeat (first
        | ((first | apply Wp.seqItemsR | apply Wp.itemsR); (· simp only [go_sem, reduceIte, Nat.reduceEqDiff, Nat.reduceAdd, bx, ax, if_true, if_false, Nat.reduceMul, Nat.reduceLeDiff, vAV, List.length_map, ht, c0, c1, fc, fs, mfind_enc, hput]; exact rfl))
        | (refine WpItems.nil ⟨?_, ?_⟩; (· first | trivial | simp [pairsQ, pairsOk, apart, ent0]))
        | (apply Wp.cond_lit; (· simp only [go_sem, reduceIte, Nat.reduceEqDiff, Nat.reduceAdd, bx, ax, if_true, if_false, Nat.reduceMul, Nat.reduceLeDiff, vAV, List.length_map, ht, c0, c1, fc, fs, mfind_enc, hput]; exact rfl); (· rfl))
        | refine Wp.skip ?_
        | refine Wp.label ?_
        | refine Wp.block ?_
        | refine Wp.exit ?_
        | refine Wp.seq ?_)
      refine ⟨trivial, _, rfl, ends_spc (S' := setS S q v) (M' := mput M q v) (K := K) hs0 hc0 hsn hcn hsc (Nat.le_refl _) ?_ ?_ hms ?_ (VSub.refl _) fun F' h => ⟨rfl, F', rfl, h⟩⟩
      · simp only [go_sem, hsc', fs, reduceIte]; rfl
      · simp only [go_sem, reduceIte]
      · rcases row0 (setS S q v) hke with h | ⟨k, h1, h2, h3, h4, h5, h6⟩
        · exact .inl h
        · have hkc : (k = c) = False := by simp [h4]
          exact .inr ⟨k, h1, by simp only [go_sem, hkc, reduceIte]; exact h2, h3, h4, h5, h6⟩
    | false =>
      rw [if_neg (by simp [ht])] at hke
      obtain ⟨o1, o2, o3, o4⟩ := ne_off hsn
      obtain ⟨p1, p2, p3, p4⟩ := ne_off hcn
      have hl2 : (keysOf S.L).length + 1 = (keysOf (setS S q v).L).length := by
        show _ = (keysOf (setL S.L q v)).length
        rw [hke, List.length_append, List.length_cons, List.length_take, List.length_drop]; omega
      have n1 : (n = n + 1) = False := by simp
      have n2 : (n + 1 = n) = False := by simp
      rcases hK with ⟨rfl, h2⟩ | ⟨k, rfl, h2, h3, h4⟩
      · have hp0 : plK (keysOf S.L) q = 0 := by rw [h2]; rfl
        have z0 : ((0 : Nat) : Int) = 0 := rfl
        repeat (first
          | ((first | apply Wp.seqItemsR | apply Wp.itemsR); (· simp only [go_sem, reduceIte, Nat.reduceEqDiff, Nat.reduceAdd, bx, ax, if_true, if_false, Nat.reduceMul, Nat.reduceLeDiff, vAV, List.length_map, ht, c0, c1, hp0]; exact rfl))
          | (refine WpItems.nil ⟨?_, ?_⟩; (· first | trivial | simp [pairsQ, pairsOk, apart, ent0]))
          | (apply Wp.cond_lit; (· simp only [go_sem, reduceIte, Nat.reduceEqDiff, Nat.reduceAdd, bx, ax, if_true, if_false, Nat.reduceMul, Nat.reduceLeDiff, vAV, List.length_map, ht, c0, c1, hp0]; exact rfl); (· rfl))
          | refine Wp.skip ?_
          | refine Wp.label ?_
          | refine Wp.block ?_
          | refine Wp.exit ?_
          | refine Wp.seq ?_)
        refine Wp.regN ?_
        refine WpItemsN.op (by simp only [go_sem, reduceIte, Nat.reduceEqDiff, Nat.reduceAdd, bx]) (by simp only [go_sem, reduceIte, Nat.reduceEqDiff, Nat.reduceAdd, bx]; exact rfl) ?_
        refine WpItemsN.op (by simp only [go_sem, reduceIte, Nat.reduceEqDiff, Nat.reduceAdd, bx]) (by simp only [go_sem, reduceIte, Nat.reduceEqDiff, Nat.reduceAdd, bx]; exact rfl) ?_
        refine WpItemsN.op (by simp only [go_sem, reduceIte, Nat.reduceEqDiff, Nat.reduceAdd, bx]) (by simp only [go_sem, reduceIte, Nat.reduceEqDiff, Nat.reduceAdd, bx]; exact rfl) ?_
        refine WpItemsN.op (by simp only [go_sem, reduceIte, Nat.reduceEqDiff, Nat.reduceAdd, bx]) (by simp only [go_sem, reduceIte, Nat.reduceEqDiff, Nat.reduceAdd, bx]; exact rfl) ?_
        refine WpItemsN.op (by simp only [go_sem, reduceIte, Nat.reduceEqDiff, Nat.reduceAdd, bx]) (by simp only [go_sem, reduceIte, Nat.reduceEqDiff, Nat.reduceAdd, bx, fs]; exact rfl) ?_
        refine WpItemsN.op (by simp only [go_sem, reduceIte, Nat.reduceEqDiff, Nat.reduceAdd, bx]) (by simp only [go_sem, reduceIte, Nat.reduceEqDiff, Nat.reduceAdd, bx]; exact rfl) ?_
        refine WpItemsN.op (by simp only [go_sem, reduceIte, Nat.reduceEqDiff, Nat.reduceAdd, bx]) (by simp only [go_sem, reduceIte, Nat.reduceEqDiff, Nat.reduceAdd, bx]; exact rfl) ?_
        refine WpItemsN.opT (by simp only [go_sem, reduceIte, Nat.reduceEqDiff, Nat.reduceAdd, bx]) (by simp only [aopT, go_sem, reduceIte, Nat.reduceEqDiff, Nat.reduceAdd, bx, List.all_cons, List.all_nil, List.length_cons, List.length_nil, Nat.reduceMul, Nat.reduceLeDiff, and_self, if_true, decide_true, Bool.and_self]; exact rfl) ?_
        refine WpItemsN.acall (by simp only [go_sem]) (by simp only [go_sem, reduceIte, Nat.reduceEqDiff, List.map, z0]; exact VSubs.refl _) (Reads.insert_e q (id2 := n) (h := .only (upd none' n (some (.cells [.str q]))) [] (n + 1) m) (by simp [H.only, upd]) rfl) (touch_turn _ (id := n) (ob := .cells [.str q]) (by simp [upd, cellsOf]) (by simp)) ?_
        refine WpItemsN.op (by simp only [go_sem, reduceIte, Nat.reduceEqDiff, Nat.reduceAdd, bx]) (by simp only [go_sem, reduceIte, Nat.reduceEqDiff, Nat.reduceAdd, bx, H.turn, fs, o1, o3, n1, n2]; exact rfl) ?_
        refine WpItemsN.op (by simp only [go_sem, reduceIte, Nat.reduceEqDiff, Nat.reduceAdd, bx]) (by simp only [go_sem, reduceIte, Nat.reduceEqDiff, Nat.reduceAdd, bx, H.turn, fs, o1, o3, n1, n2]; exact rfl) ?_
        refine WpItemsN.op (by simp only [go_sem, reduceIte, Nat.reduceEqDiff, Nat.reduceAdd, bx]) (by simp only [go_sem, reduceIte, Nat.reduceEqDiff, Nat.reduceAdd, bx, H.turn, fs, o1, o3, n1, n2]; exact rfl) ?_
        refine WpItems.toN (log := []) (WpItems.nil ?_)
        repeat (first
          | ((first | apply Wp.seqItemsR | apply Wp.itemsR); (· simp only [go_sem, reduceIte, Nat.reduceEqDiff, Nat.reduceAdd, bx, ax, if_true, if_false, Nat.reduceMul, Nat.reduceLeDiff, fc, mfind_enc, hput, p1, p3, hcs, hsc', List.length_map, n1, n2]; exact rfl))
          | (refine WpItems.nil ⟨?_, ?_⟩; (· first | trivial | simp [pairsQ, pairsOk, apart, ent0]))
          | (apply Wp.cond_lit; (· simp only [go_sem, reduceIte, Nat.reduceEqDiff, Nat.reduceAdd, bx, ax, if_true, if_false, Nat.reduceMul, Nat.reduceLeDiff, fc, mfind_enc, hput, p1, p3, hcs, hsc', List.length_map, n1, n2]; exact rfl); (· rfl))
          | refine Wp.skip ?_
          | refine Wp.label ?_
          | refine Wp.block ?_
          | refine Wp.exit ?_
          | refine Wp.seq ?_)
        refine ⟨trivial, _, rfl, ends_spc (S' := setS S q v) (M' := mput M q v) (K := .tsl 1 (n + 1) 0 1 none) hs0 hc0 hsn hcn hsc (by simp only; omega) ?_ ?_ hms (.inr ⟨n + 1, by rw [← hl2, h2]; rfl, ?_, by omega, by omega, by simp only; omega, .inr (by omega)⟩) (VSub.refl _) fun F' h => ⟨rfl, F', rfl, h⟩⟩
        · simp only [go_sem, H.turn, hsc', hcs, o1, o3, fs, n1, n2, reduceIte]; rfl
        · simp only [go_sem, H.turn, hsc', hcs, p1, p3, fc, n1, n2, reduceIte]
        · simp only [go_sem, H.turn, o2, o4, p2, p4, n1, n2, reduceIte]
          show some _ = some (Av.Obj.cells (strs (keysOf (setL S.L q v))))
          rw [hke, h2]; rfl
      · have fk := ok.at0 h2
        have hkn := ok.lt (by simp) h2
        have hsk' : (s = k) = False := by simp; exact Ne.symm h3
        have hck' : (c = k) = False := by simp; exact Ne.symm h4
        obtain ⟨r1, r2, r3, r4⟩ := ne_off hkn
        have ins : ∀ (m2 : Nat), ACalls Try.prog 82 [.tsl 1 k 0 (keysOf S.L).length none, .int .i64 (plK (keysOf S.L) q), .tsl 1 n 0 1 none] (.only (upd (upd none' k (some (.cells (strs (keysOf S.L))))) n (some (.cells [.str q]))) [] (n + 1) m2) (.tsl 1 (n + 1) 0 ((keysOf S.L).length + 1) none) ((H.only (upd (upd none' k (some (.cells (strs (keysOf S.L))))) n (some (.cells [.str q]))) [] (n + 1) m2).turn k (.cells (strs ((keysOf S.L).take (plK (keysOf S.L) q) ++ q :: (keysOf S.L).drop (plK (keysOf S.L) q))))) := by
          intro m2
          by_cases hz : keysOf S.L = []
          · rw [hz]
            exact insert_z q (id := k) (id2 := n) (h := .only (upd (upd none' k (some (.cells (strs [])))) n (some (.cells [.str q]))) [] (n + 1) m2) (by omega) (by simp [H.only, upd, r3]) (by simp [H.only, upd]) rfl
          · exact Reads.insert_t (keysOf S.L) (plK (keysOf S.L) q) q (by omega) (by omega) (List.length_pos_iff.2 hz) (id := k) (id2 := n) (h := .only (upd (upd none' k (some (.cells (strs (keysOf S.L))))) n (some (.cells [.str q]))) [] (n + 1) m2) (by omega) (by simp [H.only, upd, r3]) (by simp [H.only, upd]) rfl
        repeat (first
          | ((first | apply Wp.seqItemsR | apply Wp.itemsR); (· simp only [go_sem, reduceIte, Nat.reduceEqDiff, Nat.reduceAdd, bx, ax, if_true, if_false, Nat.reduceMul, Nat.reduceLeDiff, vAV, List.length_map, ht, c0, c1]; exact rfl))
          | (refine WpItems.nil ⟨?_, ?_⟩; (· first | trivial | simp [pairsQ, pairsOk, apart, ent0]))
          | (apply Wp.cond_lit; (· simp only [go_sem, reduceIte, Nat.reduceEqDiff, Nat.reduceAdd, bx, ax, if_true, if_false, Nat.reduceMul, Nat.reduceLeDiff, vAV, List.length_map, ht, c0, c1]; exact rfl); (· rfl))
          | refine Wp.skip ?_
          | refine Wp.label ?_
          | refine Wp.block ?_
          | refine Wp.exit ?_
          | refine Wp.seq ?_)
        refine Wp.regN ?_
        refine WpItemsN.op (by simp only [go_sem, reduceIte, Nat.reduceEqDiff, Nat.reduceAdd, bx]) (by simp only [go_sem, reduceIte, Nat.reduceEqDiff, Nat.reduceAdd, bx]; exact rfl) ?_
        refine WpItemsN.op (by simp only [go_sem, reduceIte, Nat.reduceEqDiff, Nat.reduceAdd, bx]) (by simp only [go_sem, reduceIte, Nat.reduceEqDiff, Nat.reduceAdd, bx]; exact rfl) ?_
        refine WpItemsN.op (by simp only [go_sem, reduceIte, Nat.reduceEqDiff, Nat.reduceAdd, bx]) (by simp only [go_sem, reduceIte, Nat.reduceEqDiff, Nat.reduceAdd, bx]; exact rfl) ?_
        refine WpItemsN.op (by simp only [go_sem, reduceIte, Nat.reduceEqDiff, Nat.reduceAdd, bx]) (by simp only [go_sem, reduceIte, Nat.reduceEqDiff, Nat.reduceAdd, bx]; exact rfl) ?_
        refine WpItemsN.op (by simp only [go_sem, reduceIte, Nat.reduceEqDiff, Nat.reduceAdd, bx]) (by simp only [go_sem, reduceIte, Nat.reduceEqDiff, Nat.reduceAdd, bx, fs]; exact rfl) ?_
        refine WpItemsN.op (by simp only [go_sem, reduceIte, Nat.reduceEqDiff, Nat.reduceAdd, bx]) (by simp only [go_sem, reduceIte, Nat.reduceEqDiff, Nat.reduceAdd, bx]; exact rfl) ?_
        refine WpItemsN.op (by simp only [go_sem, reduceIte, Nat.reduceEqDiff, Nat.reduceAdd, bx]) (by simp only [go_sem, reduceIte, Nat.reduceEqDiff, Nat.reduceAdd, bx]; exact rfl) ?_
        refine WpItemsN.opT (by simp only [go_sem, reduceIte, Nat.reduceEqDiff, Nat.reduceAdd, bx]) (by simp only [aopT, go_sem, reduceIte, Nat.reduceEqDiff, Nat.reduceAdd, bx, List.all_cons, List.all_nil, List.length_cons, List.length_nil, Nat.reduceMul, Nat.reduceLeDiff, and_self, if_true, decide_true, Bool.and_self]; exact rfl) ?_
        refine WpItemsN.acall (by simp only [go_sem]) (by simp only [go_sem, reduceIte, Nat.reduceEqDiff, List.map]; exact VSubs.refl _) (ins _) (touch_turn2 _ (id := k) (id2 := n) (ob := .cells (strs (keysOf S.L))) (ob2 := .cells [.str q]) (by simp [upd, r3, fk]) (by simp [upd, cellsOf]) (by omega) (by simp only; omega) (by simp)) ?_
        refine WpItemsN.op (by simp only [go_sem, reduceIte, Nat.reduceEqDiff, Nat.reduceAdd, bx]) (by simp only [go_sem, reduceIte, Nat.reduceEqDiff, Nat.reduceAdd, bx, H.turn, fs, o1, o3, hsk', n1, n2]; exact rfl) ?_
        refine WpItemsN.op (by simp only [go_sem, reduceIte, Nat.reduceEqDiff, Nat.reduceAdd, bx]) (by simp only [go_sem, reduceIte, Nat.reduceEqDiff, Nat.reduceAdd, bx, H.turn, fs, o1, o3, hsk', n1, n2]; exact rfl) ?_
        refine WpItemsN.op (by simp only [go_sem, reduceIte, Nat.reduceEqDiff, Nat.reduceAdd, bx]) (by simp only [go_sem, reduceIte, Nat.reduceEqDiff, Nat.reduceAdd, bx, H.turn, fs, o1, o3, hsk', n1, n2]; exact rfl) ?_
        refine WpItems.toN (log := []) (WpItems.nil ?_)
        repeat (first
          | ((first | apply Wp.seqItemsR | apply Wp.itemsR); (· simp only [go_sem, reduceIte, Nat.reduceEqDiff, Nat.reduceAdd, bx, ax, if_true, if_false, Nat.reduceMul, Nat.reduceLeDiff, fc, mfind_enc, hput, p1, p3, hck', hcs, hsc', List.length_map, n1, n2]; exact rfl))
          | (refine WpItems.nil ⟨?_, ?_⟩; (· first | trivial | simp [pairsQ, pairsOk, apart, ent0]))
          | (apply Wp.cond_lit; (· simp only [go_sem, reduceIte, Nat.reduceEqDiff, Nat.reduceAdd, bx, ax, if_true, if_false, Nat.reduceMul, Nat.reduceLeDiff, fc, mfind_enc, hput, p1, p3, hck', hcs, hsc', List.length_map, n1, n2]; exact rfl); (· rfl))
          | refine Wp.skip ?_
          | refine Wp.label ?_
          | refine Wp.block ?_
          | refine Wp.exit ?_
          | refine Wp.seq ?_)
        refine ⟨trivial, _, rfl, ends_spc (S' := setS S q v) (M' := mput M q v) (K := .tsl 1 (n + 1) 0 ((keysOf S.L).length + 1) none) hs0 hc0 hsn hcn hsc (by simp only; omega) ?_ ?_ hms (.inr ⟨n + 1, by rw [← hl2], ?_, by omega, by omega, by simp only; omega, .inr (by omega)⟩) (VSub.refl _) fun F' h => ⟨rfl, F', rfl, h⟩⟩
        · simp only [go_sem, H.turn, hsc', hcs, o1, o3, hsk', fs, n1, n2, reduceIte]; rfl
        · simp only [go_sem, H.turn, hsc', hcs, p1, p3, hck', fc, n1, n2, reduceIte]
        · simp only [go_sem, H.turn, o2, o4, p2, p4, n1, n2, reduceIte]
          show some _ = some (Av.Obj.cells (strs (keysOf (setL S.L q v))))
          rw [hke]
end Go.Proofs.Ytpehfflehebmbaa.Space
end
section
set_option linter.unusedVariables false
set_option linter.unusedSimpArgs false
namespace Go.Av
section
variable {P : Program} {N : Nat} {Q : AExit → St → Prop}
structure On (l0 : List Fr) (n0 m0 : Nat) (l : List Fr) (n : Nat) (T : List Nat) (m : Nat) : Prop where
  gn : n0 ≤ n
  gm : m0 ≤ m
  ok : Ok l n T m
  wi : Wi l0 n0 l
  ki : Ki l0 m0 l
theorem On.refl {l : List Fr} {n m : Nat} {T : List Nat} (ok : Ok l n T m) : On l n m l n T m := ⟨Nat.le_refl _, Nat.le_refl _, ok, .refl, .refl⟩
theorem On.step {l0 l l' : List Fr} {n0 m0 n m n' m' : Nat} {T T' : List Nat} (a : On l0 n0 m0 l n T m) (b : On l n m l' n' T' m') : On l0 n0 m0 l' n' T' m' :=
  ⟨Nat.le_trans a.gn b.gn, Nat.le_trans a.gm b.gm, b.ok, a.wi.trans a.gn b.wi, a.ki.trans a.gm b.ki⟩
theorem On.ends {l0 l : List Fr} {n0 m0 n m : Nat} {T : List Nat} {q r : AV} {QQ : AV → List Fr → Prop} (a : On l0 n0 m0 l n T m) (hs : VSub q r) (hq : QQ r l) : Ends l0 n0 m0 QQ q ⟨lay l, n, T, m⟩ r l :=
  ⟨hs, fun j o h => ⟨o, h, OSub.refl _⟩, a.ok.tk, a.ok.shrink, a.wi, a.ki, hq⟩
theorem Wp.loopG {β : Type} (L : List Nat) {K : List (Nat × AV)} {c : AC} {t : Tm} {l0 : List Fr} {n0 m0 : Nat} {T0 : List Nat} (hK : (L.map fun i => (i, t i)) = K) (ch : β → List (Nat × AV)) (J : β → List Fr → Prop) (μ : β → Nat) (b0 : β) (h0 : J b0 l0) (ok0 : Ok l0 n0 T0 m0) (hs : AllSub t (ch b0))
    (round : ∀ b l n T m, On l0 n0 m0 l n T m → J b l → Wp P N c ⟨tm (K ++ ch b), ⟨lay l, n, T, m⟩⟩ (AExit.andThen (fun s' => ∃ b' l' n' T' m', On l n m l' n' T' m' ∧ J b' l' ∧ μ b' < μ b ∧ StLe s' ⟨tm (K ++ ch b'), ⟨lay l', n', T', m'⟩⟩) Q)) : Wp P N (.loop c) ⟨t, ⟨lay l0, n0, T0, m0⟩⟩ Q := by
  refine Wp.loopH (β := β × List Fr × Nat × List Nat × Nat) L hK (fun j => ch j.1) (fun j => ⟨lay j.2.1, j.2.2.1, j.2.2.2.1, j.2.2.2.2⟩) (fun j => On l0 n0 m0 j.2.1 j.2.2.1 j.2.2.2.1 j.2.2.2.2 ∧ J j.1 j.2.1) (fun j => μ j.1) (b0, l0, n0, T0, m0) ⟨On.refl ok0, h0⟩ rfl hs ?_
  rintro ⟨b, l, n, T, m⟩ ⟨hn, hb⟩
  refine Wp.mono (round b l n T m hn hb) ?_
  intro e s' h
  cases e with
  | normal => obtain ⟨b', l', n', T', m', h1, h2, h3, h4⟩ := h; exact ⟨(b', l', n', T', m'), ⟨hn.step h1, h2⟩, h3, h4⟩
  | exit id => exact h
  | goto l => exact h
  | ret => exact h
  | panic v => exact h
theorem WpItems.gyield1 {dst : Option Nat} {g : Option (Nat × Bool)} {id : Nat} {y : Opd} {l : List Opd} {its : List AItem} {t : Tm} {log : List Ent} {K : Tm → H → List Ent → Prop} {vals : List AV} {Q : AV → List Fr → Prop} {G : List Fr} {n m : Nat} {T : List Nat}
    (hg : guardOf t g = some true) (hy : ev t y = .yld id) (hs : VSubs (l.map (ev t)) vals) (hc : GYields P id vals G Q) (ok : Ok G n T m)
    (rest : ∀ r G' n' T' m' ids, Q r G' → On G n m G' n' T' m' → WpItems P N its (putT t dst r) ⟨lay G', n', T', m'⟩ (⟨[], ids, ks G ++ ks G'⟩ :: log) K) :
    WpItems P N (⟨dst, g, .callv y l⟩ :: its) t ⟨lay G, n, T, m⟩ log K := by
  have ok' : Ok ([] ++ G ++ []) n T m := by simpa using ok
  have := WpItems.gyield (P := P) (N := N) (dst := dst) (its := its) (log := log) (K := K) [] G [] hg hy hs hc ok' fun r G' n' m' ids h1 h2 h3 h4 h5 h6 => ?_
  · simpa using this
  · simp only [List.nil_append, List.append_nil] at h4 h5 h6 ⊢
    exact rest r G' n' _ m' _ h1 ⟨h2, h3, h4, h5, h6⟩
theorem WpItems.gkeep {dst : Option Nat} {g : Option (Nat × Bool)} {f : FuncId} {l : List Opd} {its : List AItem} {t : Tm} {log : List Ent} {K : Tm → H → List Ent → Prop} {vals : List AV} {r : AV} {F : Fr} (A B : List Fr) {n m : Nat} {T : List Nat}
    (hg : guardOf t g = some true) (hs : VSubs (l.map (ev t)) vals) (hc : GCalls P f vals [F] fun r' l' => r' = r ∧ l' = [F]) (hk : F.k = []) (ok : Ok (A ++ F :: B) n T m)
    (rest : ∀ n' m' ids, n ≤ n' → m ≤ m' → Ok (A ++ F :: B) n' T m' → WpItems P N its (putT t dst r) ⟨lay (A ++ F :: B), n', T, m'⟩ (⟨[], ids, []⟩ :: log) K) :
    WpItems P N (⟨dst, g, .call f l⟩ :: its) t ⟨lay (A ++ F :: B), n, T, m⟩ log K := by
  have e : A ++ F :: B = A ++ [F] ++ B := by simp
  rw [e] at ok ⊢
  refine WpItems.gcall A [F] B hg hs hc ok fun r' G' n' m' ids h1 h2 h3 h4 h5 h6 => ?_
  obtain ⟨rfl, rfl⟩ := h1
  have k0 : ks [F] = [] := by simp [ks, hk]
  have f0 : T.filter (fun _ : Nat => true) = T := by simp
  simp only [k0, List.nil_append, List.contains_nil, Bool.not_false, f0] at h4 ⊢
  rw [← e] at h4 ⊢
  exact rest n' m' ids h2 h3 h4
theorem Ok.more {l : List Fr} {n m : Nat} {T : List Nat} (ok : Ok l n T m) (o : Obj) : Ok (ob n o :: l) (n + 1) T m where
  bd F hF j hj := by
    rcases List.mem_cons.1 hF with rfl | hF
    · rw [ob_o, if_neg (by omega)]
    · exact ok.bd F hF j (by omega)
  dj := List.pairwise_cons.2 ⟨fun F hF j => by
    rw [ob_o]
    by_cases e : j = n
    · exact .inr (ok.bd F hF j (by omega))
    · exact .inl (if_neg e), ok.dj⟩
  tk t ht := ok.tk t (by simpa [ks, ob] using ht)
  td := List.pairwise_cons.2 ⟨fun F hF t ht => by simp [ob] at ht, ok.td⟩
  tb := ok.tb
theorem lay_ob_at (i : Nat) (o : Obj) (l : List Fr) : lay (ob i o :: l) i = some o := by simp [lay, ob_o]
theorem lay_ob_ne {i j : Nat} (o : Obj) (l : List Fr) (h : j ≠ i) : lay (ob i o :: l) j = lay l j := by simp [lay, ob_o, h]
theorem upd_ob (i : Nat) (o o' : Obj) (l : List Fr) : upd (lay (ob i o :: l)) i (some o') = lay (ob i o' :: l) := by
  funext j
  simp only [upd]
  split
  · rename_i e; subst e; rw [lay_ob_at]
  · rename_i e; rw [lay_ob_ne _ _ e, lay_ob_ne _ _ e]
theorem upd_new {n : Nat} {o : Obj} {l : List Fr} : upd (lay l) n (some o) = lay (ob n o :: l) := by
  funext j
  simp only [upd]
  split
  · rename_i e; subst e; rw [lay_ob_at]
  · rename_i e; rw [lay_ob_ne _ _ e]
theorem Ok.alone {i : Nat} {o : Obj} {l : List Fr} {n m : Nat} {T : List Nat} (ok : Ok (ob i o :: l) n T m) : lay l i = none := ok.old (by simp [ob_o])
theorem Ok.turn {i : Nat} {o o' : Obj} {l : List Fr} {n m : Nat} {T : List Nat} (ok : Ok (ob i o :: l) n T m) : Ok (ob i o' :: l) n T m := by
  have hi : i < n := ok.lt (by simp) (j := i) (F := ob i o) (o := o) (by simp [ob_o])
  have := ok.put (i := i) (o := o') ok.alone hi
  have e : (⟨upd (ob i o).o i (some o'), (ob i o).k⟩ : Fr) = ob i o' := by
    simp only [ob, Fr.mk.injEq, and_true]
    funext j
    simp only [upd, none']
    split <;> rfl
  rwa [e] at this
theorem ks_ob (i : Nat) (o : Obj) (l : List Fr) : ks (ob i o :: l) = ks l := by simp [ks, ob]
theorem ob_none (i j : Nat) (o o' : Obj) : (ob i o).o j = none → (ob i o').o j = none := by
  simp only [ob_o]; split <;> simp
theorem Ok.put_ob {A B : List Fr} {i : Nat} {o o' : Obj} {n m : Nat} {T : List Nat} (ok : Ok (A ++ ob i o :: B) n T m) : Ok (A ++ ob i o' :: B) n T m where
  bd F hF j hj := by
    rcases List.mem_append.1 hF with h | h
    · exact ok.bd F (by simp [h]) j hj
    · rcases List.mem_cons.1 h with rfl | h
      · exact ob_none i j o o' (ok.bd (ob i o) (by simp) j hj)
      · exact ok.bd F (by simp [h]) j hj
  dj := by
    have h1 := List.pairwise_append.1 ok.dj
    have h2 := List.pairwise_cons.1 h1.2.1
    refine List.pairwise_append.2 ⟨h1.1, List.pairwise_cons.2 ⟨fun F hF j => (h2.1 F hF j).imp (ob_none i j o o') id, h2.2⟩, fun F hF F' hF' j => ?_⟩
    rcases List.mem_cons.1 hF' with rfl | h
    · exact (h1.2.2 F hF (ob i o) (by simp) j).imp id (ob_none i j o o')
    · exact h1.2.2 F hF F' (by simp [h]) j
  tk t ht := ok.tk t (by simpa [ks, ob] using ht)
  td := by
    have h1 := List.pairwise_append.1 ok.td
    have h2 := List.pairwise_cons.1 h1.2.1
    refine List.pairwise_append.2 ⟨h1.1, List.pairwise_cons.2 ⟨fun F hF t ht => by simp [ob] at ht, h2.2⟩, fun F hF F' hF' t ht => ?_⟩
    rcases List.mem_cons.1 hF' with rfl | h
    · simp [ob]
    · exact h1.2.2 F hF F' (by simp [h]) t ht
  tb := ok.tb
theorem Ok.upd_ob {A B : List Fr} {i : Nat} {o : Obj} (o' : Obj) {n m : Nat} {T : List Nat} (ok : Ok (A ++ ob i o :: B) n T m) : upd (lay (A ++ ob i o :: B)) i (some o') = lay (A ++ ob i o' :: B) := by
  have h1 : lay A i = none := lay_none.2 fun F hF => by
    rcases (List.pairwise_append.1 ok.dj).2.2 F hF (ob i o) (by simp) i with h | h
    · exact h
    · simp [ob_o] at h
  funext j
  simp only [upd, lay_append]
  split
  · rename_i e; subst e; rw [h1, lay_ob_at]; rfl
  · rename_i e; rw [lay_ob_ne _ _ e, lay_ob_ne _ _ e]
theorem On.put_ob {A B : List Fr} {i : Nat} {o o' : Obj} {n m : Nat} {T : List Nat} (ok : Ok (A ++ ob i o :: B) n T m) : On (A ++ ob i o :: B) n m (A ++ ob i o' :: B) n T m where
  gn := Nat.le_refl _
  gm := Nat.le_refl _
  ok := ok.put_ob
  wi j := by
    simp only [lay_append]
    by_cases e : j = i
    · subst e
      rw [lay_ob_at]
      right; left
      cases lay A j <;> rfl
    · rw [lay_ob_ne _ _ e, lay_ob_ne _ _ e]
      cases h : (lay A j).or (lay B j) with
      | none => exact .inr (.inr rfl)
      | some x => exact .inr (.inl rfl)
  ki t ht := .inl (by simpa [ks, ob] using ht)
theorem ole_drop_ob {i : Nat} {o : Obj} {l : List Fr} (h : lay l i = none) : OLe (lay (ob i o :: l)) (lay l) := by
  intro j p hj
  have e : j ≠ i := by rintro rfl; rw [h] at hj; cases hj
  exact ⟨p, (lay_ob_ne _ _ e).trans hj, OSub.refl _⟩
theorem On.under {l l' : List Fr} {n m n' m' : Nat} {T' : List Nat} {o o' : Obj} (a : On (ob n o :: l) (n + 1) m (ob n o' :: l') n' T' m') : On l n m l' n' T' m' := by
  refine ⟨by have := a.gn; omega, a.gm, a.ok.tail, fun j => ?_, fun t ht => ?_⟩
  · by_cases e : j = n
    · exact .inl (by omega)
    · rcases a.wi j with h | h | h
      · exact .inl (by omega)
      · rw [lay_ob_ne _ _ e] at h; exact .inr (.inl h)
      · rw [lay_ob_ne _ _ e] at h; exact .inr (.inr h)
  · have := a.ki t (by rw [ks_ob]; exact ht)
    rwa [ks_ob] at this
theorem On.put {F : Fr} {l : List Fr} {i : Nat} {o : Obj} {n m : Nat} {T : List Nat} (ok : Ok (F :: l) n T m) (h : (F.o i).isSome = true) : On (F :: l) n m (⟨upd F.o i (some o), F.k⟩ :: l) n T m := by
  have hn : i < n := by
    obtain ⟨x, hx⟩ := Option.isSome_iff_exists.1 h
    exact ok.lt (by simp) hx
  refine ⟨Nat.le_refl _, Nat.le_refl _, ok.put (ok.old h) hn, fun j => ?_, fun t ht => .inl (by simpa [ks] using ht)⟩
  simp only [lay, upd]
  by_cases e : j = i
  · subst e
    right; left
    obtain ⟨x, hx⟩ := Option.isSome_iff_exists.1 h
    rw [hx]; rfl
  · rw [if_neg e]
    cases hh : (F.o j).or (lay l j) with
    | none => exact .inr (.inr rfl)
    | some x => exact .inr (.inl rfl)
theorem Wp.rfunG {g : Opd} {ps : List Nat} {x y : AC} {t : Tm} {l : List Fr} {n m : Nat} {T : List Nat} {fi : FuncId} {fn : Func} {first caps : List AV} (hg : ev t g = .clo (.func fi) first caps) (hf : P.funcs[fi]? = some fn) (hfb : fn.body.isSome = true) (hfn : fn.name ≠ "runtime.NumGoroutine")
    (ok : Ok l n T m) (hT : T = ks l)
    (hw : ∀ asg body, cCode P N asg = some x → cCode P N body = some y → noRF asg = true → noRF body = true →
      GCalls P fi (first ++ [.yld n] ++ caps) (ob n (.loop N t ps asg body .ready none) :: l) fun r l' => ∃ t2 st pend e l1, l' = ob n (.loop N t2 ps asg body st pend) :: l1 ∧ st ≠ .busy ∧ LoopEnd pend e ∧ ∀ n' m', On l n m l1 n' (ks l1) m' → Q e ⟨t, ⟨lay l1, n', ks l1, m'⟩⟩) : Wp P N (.rfun g ps x y) ⟨t, ⟨lay l, n, T, m⟩⟩ Q := by
  subst hT
  refine Wp.rfun hg hf hfb hfn (ok.lay_bd (Nat.le_refl _)) fun asg body h1 h2 h3 h4 => ?_
  obtain ⟨r, l', n', m', k1, k2, k3, k4, k5, k6, t2, st, pend, e, l1, rfl, k8, k9, k10⟩ := hw asg body h1 h2 h3 h4 (n + 1) m (by rw [ks_ob]; exact ok.more _)
  simp only [ks_ob] at k1 k4 k6
  refine ⟨r, lay (ob n (.loop N t2 ps asg body st pend) :: l1), n', ks l1, m', t2, st, pend, e, ?_, k2, k3, lay_ob_at _ _ _, k8, k9, ?_⟩
  · rw [upd_new]; exact k1
  · have e1 : (fun j => if j = n then none else lay (ob n (.loop N t2 ps asg body st pend) :: l1) j) = lay l1 := by
      funext j
      split
      · rename_i e; subst e; exact k4.alone.symm
      · rename_i e; rw [lay_ob_ne _ _ e]
    rw [e1]
    refine k10 n' m' ⟨by omega, k3, k4.tail, fun j => ?_, fun t ht => k6 t ht⟩
    by_cases e : j = n
    · exact .inl (by omega)
    · rcases k5 j with h | h | h
      · exact .inl (by omega)
      · rw [lay_ob_ne _ _ e] at h; exact .inr (.inl h)
      · rw [lay_ob_ne _ _ e] at h; exact .inr (.inr h)
theorem YCalls.le {id : Nat} {args : List AV} {h h' h'' : H} {r r' : AV} (hc : YCalls P id args h r h') (hs : VSub r r') (hl : HLe h' h'') (n : h'.n = h''.n) (m : h'.m = h''.m) : YCalls P id args h r' h'' := by
  intro G w vs hd hv R F
  obtain ⟨fn, tmps, assign, body, q1, q2⟩ := hc G w vs hd hv R (by unfold Fresh at F ⊢; rwa [n, m])
  refine ⟨fn, tmps, assign, body, q1, q2.mono ?_⟩
  rintro e w' ⟨v, G', rfl, T, R', V⟩
  exact ⟨v, G', rfl, T.trans R R' (Trans.le hl (by omega) (by omega)), R'.le hl, hs G' w' v V⟩
theorem gyields_of {id M : Nat} {t : Tm} {ps : List Nat} {asg body : Code} {x y : AC} {args : List AV} {l : List Fr} {Q : AV → List Fr → Prop} (ha : cCode P M asg = some x) (hb : cCode P M body = some y) (hna : noRF asg = true) (hnb : noRF body = true)
    (hl : args.length = ps.length) (hps : ∀ p ∈ ps, p < M)
    (hw : ∀ n m, Ok (ob id (.loop M t ps asg body .busy none) :: l) n (ks l) m →
      Wp P M x ⟨putPs t ps args, ⟨lay (ob id (.loop M t ps asg body .ready none) :: l), n, ks l, m⟩⟩ fun e s => e = .normal ∧ s.h = ⟨lay (ob id (.loop M t ps asg body .ready none) :: l), n, ks l, m⟩ ∧
        Wp P M y ⟨s.t, ⟨lay (ob id (.loop M t ps asg body .busy none) :: l), n, ks l, m⟩⟩ fun e2 s2 => ∃ b st pend l', RoundEnd e2 b st pend ∧
          Ends (ob id (.loop M t ps asg body .busy none) :: l) n m (fun _ _ => True) (.bool b) s2.h (.bool b) (ob id (.loop M t ps asg body .busy none) :: l') ∧ Q (.bool b) (ob id (.loop M t ps asg body st pend) :: l')) :
    GYields P id args (ob id (.loop M t ps asg body .ready none) :: l) Q := by
  intro n m ok
  rw [ks_ob] at ok
  have okb : Ok (ob id (.loop M t ps asg body .busy none) :: l) n (ks l) m := ok.turn
  obtain ⟨r, h', hy, st, pend, b, l', e2, rfl, hre, h2, E, hq, hn, hm, ho2, rfl⟩ := ycalls_of (P := P) (id := id) (M := M) (n := n) (m := m) (f := lay (ob id (.loop M t ps asg body .ready none) :: l)) (T := ks l) (t := t) (ps := ps) (asg := asg) (body := body) (x := x) (y := y) (args := args)
    (Q := fun r h' => ∃ st pend b l' e2, r = .bool b ∧ RoundEnd e2 b st pend ∧ ∃ h2 : H, Ends (ob id (.loop M t ps asg body .busy none) :: l) n m (fun _ _ => True) (.bool b) h2 (.bool b) (ob id (.loop M t ps asg body .busy none) :: l') ∧ Q (.bool b) (ob id (.loop M t ps asg body st pend) :: l') ∧ n ≤ h2.n ∧ m ≤ h2.m ∧ h2.objs id = some (.loop M t ps asg body .busy none) ∧ h' = { h2 with objs := upd h2.objs id (some (.loop M t ps asg body st pend)) })
    (lay_ob_at _ _ _) ha hb hna hnb hl hps ((hw n m okb).mono fun e s ⟨h1, h2, h3⟩ => ⟨h1, t, by rw [h2]; exact lay_ob_at _ _ _, by
      rw [h2]
      simp only [upd_ob]
      refine h3.nm.mono ?_
      rintro e2 s2 ⟨⟨b, st, pend, l', k1, k2, k3⟩, k4, k5⟩
      have hid : s2.h.objs id = some (.loop M t ps asg body .busy none) := by
        obtain ⟨o, a1, a2⟩ := k2.ole id _ (lay_ob_at _ _ _)
        rw [a1]
        cases o <;> simp only [OSub] at a2
        rw [a2]
      exact ⟨t, b, st, pend, hid, k1, st, pend, b, l', e2, rfl, k1, s2.h, k2, k3, k4, k5, hid, rfl⟩⟩)
  have low : OLe (upd h2.objs id (some (.loop M t ps asg body st pend))) (lay (ob id (.loop M t ps asg body st pend) :: l')) := by
    intro j o hj
    by_cases e : j = id
    · subst e
      rw [lay_ob_at] at hj
      cases hj
      exact ⟨_, by simp [upd], OSub.refl _⟩
    · rw [lay_ob_ne _ _ e] at hj
      obtain ⟨o', a1, a2⟩ := E.ole j o (by rw [lay_ob_ne _ _ e]; exact hj)
      exact ⟨o', by simp [upd, e, a1], a2⟩
  have ek := E.tk
  have eok := E.ok
  have ekn := E.knew
  simp only [ks_ob] at ek eok ekn
  refine ⟨.bool b, ob id (.loop M t ps asg body st pend) :: l', h2.n, h2.m, ?_, hn, hm, ?_, fun j => ?_, ?_, hq⟩
  · simp only [ks_ob]
    exact hy.le (VSub.refl _) ⟨low, ek⟩ rfl rfl
  · rw [ks_ob]; exact eok.turn
  · rcases E.new j with h | h | h
    · exact .inl h
    · by_cases e : j = id
      · subst e; rw [lay_ob_at]; exact .inr (.inl rfl)
      · rw [lay_ob_ne _ _ e] at h ⊢; exact .inr (.inl h)
    · by_cases e : j = id
      · subst e; rw [lay_ob_at]; exact .inr (.inl rfl)
      · rw [lay_ob_ne _ _ e] at h; rw [lay_ob_ne _ _ e, lay_ob_ne _ _ e]; exact .inr (.inr h)
  · simp only [ks_ob]; exact ekn
end
end Go.Av
end
section
set_option linter.unusedSimpArgs false
set_option linter.unusedVariables false
set_option maxRecDepth 10000
namespace Go.Proofs.Ytpehfflehebmbaa.Space
open Go Go.Av Go.Proofs Go.Proofs.Ytpehfflehebmbaa.C Go.Proofs.Ytpehfflehebmbaa.Batch
def iterV (s : Nat) (a b : Bs) : AV := .clo (.func 106) [] [.ref [.ptr s 0], .ref [.str a], .ref [.str b]]
theorem between_g {s : Nat} {S : Spc} {F : Fr} (hF : SpcF s S F) (a b : Bs) : GCalls Try.prog 59 [.ptr s 0, .str a, .str b] [F] (fun r l => r = iterV s a b ∧ l = [F]) := by
  obtain ⟨c, M, K, hM, hsc, hs, hc, hK⟩ := hF.go
  refine f59.gsameF (by simp) fun n m ok => ?_
  unfold c59
  have hsn := ok.lt (by simp) hs
  obtain ⟨o1, o2, o3, o4⟩ := ne_off hsn
  have d1 : decide (n ≤ s) = false := decide_eq_false (by omega)
  repeat (first
    | ((first | apply Wp.seqItemsR | apply Wp.itemsR); (· simp only [go_sem, reduceIte, Nat.reduceEqDiff, Nat.reduceAdd, bx, ax, if_true, if_false, Nat.reduceMul, Nat.reduceLeDiff]; exact rfl))
    | (refine WpItems.nil ⟨?_, ?_⟩; (· first | trivial | simp [pairsQ, pairsOk, apart, ent0]))
    | (apply Wp.cond_lit; (· simp only [go_sem, reduceIte, Nat.reduceEqDiff, Nat.reduceAdd, bx, ax, if_true, if_false, Nat.reduceMul, Nat.reduceLeDiff]; exact rfl); (· rfl))
    | refine Wp.skip ?_
    | refine Wp.label ?_
    | refine Wp.block ?_
    | refine Wp.exit ?_
    | refine Wp.seq ?_)
  refine Wp.ret ⟨trivial, _, rfl, ?_, fun j hj => ?_, fun t ht => ht⟩
  · have e1 : (n = n + 1 + 1) = False := by simp; omega
    have e2 : (n ≤ n + 1 + 1) = True := by simp; omega
    simp [unT, unTs, upd, d1, iterV, go_sem, e1, e2]
    exact VSub.refl _
  · simp only [upd]
    rw [if_neg (by omega), if_neg (by omega), if_neg (by omega)]
def selP (b x : Bs) : Bool := decide (b = []) || Op.bytesLess x b
def selK (k : List Bs) (a b : Bs) : List Bs := (k.drop (plK k a)).takeWhile (selP b)
theorem selK_at {k : List Bs} {a b : Bs} {i : Nat} (h : i < (selK k a b).length) : plK k a + i < k.length ∧ (selK k a b).getD i [] = k.getD (plK k a + i) [] ∧ selP b (k.getD (plK k a + i) []) = true := by
  have hp : selK k a b <+: k.drop (plK k a) := List.takeWhile_prefix _
  have hl := hp.length_le
  rw [List.length_drop] at hl
  have h1 : plK k a + i < k.length := by omega
  have h2 : (selK k a b).getD i [] = k.getD (plK k a + i) [] := by
    rw [getD_el h, getD_el h1, hp.getElem h, List.getElem_drop]
  refine ⟨h1, h2, ?_⟩
  rw [← h2, getD_el h]
  exact (List.all_eq_true.1 (List.all_takeWhile (p := selP b) (l := k.drop (plK k a)))) _ (List.getElem_mem h)
theorem selK_end {k : List Bs} {a b : Bs} (h : plK k a + (selK k a b).length < k.length) : selP b (k.getD (plK k a + (selK k a b).length) []) = false := by
  have key : ∀ l : List Bs, (h : (l.takeWhile (selP b)).length < l.length) → selP b (l[(l.takeWhile (selP b)).length]) = false := by
    intro l
    induction l with
    | nil => intro h; simp at h
    | cons x l ih =>
      intro h
      by_cases hx : selP b x = true
      · simp only [List.takeWhile_cons, hx, if_true, List.length_cons] at h ⊢
        simpa using ih (by omega)
      · simp [List.takeWhile_cons, hx]
  have h2 := key (k.drop (plK k a)) (by rw [List.length_drop]; unfold selK at h; omega)
  rw [getD_el h]
  rw [List.getElem_drop] at h2
  exact h2
theorem iter_g {s : Nat} {S : Spc} {F : Fr} (hF : SpcF s S F) (hr : RiseL S.L) (hl : S.L.length ≤ 500000) (a b : Bs) (id : Nat) (J : Nat → List Fr → Prop) (E : List Fr → Prop) (hJ : ∀ i l, J i l → F ∈ l)
    (hY : ∀ i l, i < (selK (keysOf S.L) a b).length → J i l → GYields Try.prog id [.str ((selK (keysOf S.L) a b).getD i [])] l fun r l' => (r = .bool true ∧ J (i + 1) l') ∨ (r = .bool false ∧ E l'))
    (l0 : List Fr) (h0 : J 0 l0) : GCalls Try.prog 106 [.yld id, .ref [.ptr s 0], .ref [.str a], .ref [.str b]] l0 (fun r l' => r = .tup [] ∧ (J (selK (keysOf S.L) a b).length l' ∨ E l')) := by
  obtain ⟨c, M, K, hM, hsc, hs, hc, hK⟩ := hF.go
  have hkl : (keysOf S.L).length = S.L.length := by simp [keysOf]
  obtain ⟨objs, ids, ho, hi, hb⟩ := bs_row hK hr (by omega) a
  have hple := plK_le (keysOf S.L) a
  have hsl : plK (keysOf S.L) a + (selK (keysOf S.L) a b).length ≤ (keysOf S.L).length := by
    have := (List.takeWhile_prefix (selP b) (l := (keysOf S.L).drop (plK (keysOf S.L) a))).length_le
    rw [List.length_drop] at this
    unfold selK; omega
  refine f106.gcalls (by simp) fun n m ok => ?_
  unfold c106
  have fs := ok.sub (hJ _ _ h0) _ _ hs
  repeat (first
    | ((first | apply Wp.seqItemsR | apply Wp.itemsR); (· simp only [go_sem, reduceIte, Nat.reduceEqDiff, Nat.reduceAdd, bx, ax, if_true, if_false, Nat.reduceMul, Nat.reduceLeDiff, fs]; exact rfl))
    | (refine WpItems.nil ⟨?_, ?_⟩; (· first | trivial | simp [pairsQ, pairsOk, apart, ent0]))
    | (apply Wp.cond_lit; (· simp only [go_sem, reduceIte, Nat.reduceEqDiff, Nat.reduceAdd, bx, ax, if_true, if_false, Nat.reduceMul, Nat.reduceLeDiff, fs]; exact rfl); (· rfl))
    | refine Wp.skip ?_
    | refine Wp.label ?_
    | refine Wp.block ?_
    | refine Wp.exit ?_
    | refine Wp.seq ?_)
  refine WpItems.rcall ids (by simp only [go_sem]) (by simp only [go_sem, reduceIte, Nat.reduceEqDiff, List.map]; exact VSubs.refl _) (fun id o h => ok.sub (hJ _ _ h0) id o (ho id o h)) hi hb ?_
  refine WpItems.evR (by simp only [go_sem, reduceIte, Nat.reduceEqDiff, Nat.reduceAdd, bx]; exact rfl) ?_
  refine WpItems.nil ⟨by simp [pairsQ, pairsOk, apart, ent0], ?_⟩
  rcases hK with ⟨rfl, h2⟩ | ⟨k, rfl, h2, h3, h4⟩
  · have hp0 : plK (keysOf S.L) a = 0 := by rw [h2]; rfl
    have hs0 : (selK (keysOf S.L) a b).length = 0 := by rw [h2]; simp [selK]
    have b1 : decide ((0 : Int) < ((0 : Nat) : Int)) = false := rfl
    repeat (first
      | ((first | apply Wp.seqItemsR | apply Wp.itemsR); (· simp only [go_sem, reduceIte, Nat.reduceEqDiff, Nat.reduceAdd, bx, ax, if_true, if_false, Nat.reduceMul, Nat.reduceLeDiff, fs, hp0]; exact rfl))
      | (refine WpItems.nil ⟨?_, ?_⟩; (· first | trivial | simp [pairsQ, pairsOk, apart, ent0]))
      | (apply Wp.cond_lit; (· simp only [go_sem, reduceIte, Nat.reduceEqDiff, Nat.reduceAdd, bx, ax, if_true, if_false, Nat.reduceMul, Nat.reduceLeDiff, fs, hp0]; exact rfl); (· rfl))
      | refine Wp.skip ?_
      | refine Wp.label ?_
      | refine Wp.block ?_
      | refine Wp.exit ?_
      | refine Wp.seq ?_)
    refine Wp.loopL (WpL.next ?_)
    repeat (first
      | ((first | apply Wp.seqItemsR | apply Wp.itemsR); (· simp only [go_sem, reduceIte, Nat.reduceEqDiff, Nat.reduceAdd, bx, ax, if_true, if_false, Nat.reduceMul, Nat.reduceLeDiff, b1]; exact rfl))
      | (refine WpItems.nil ⟨?_, ?_⟩; (· first | trivial | simp [pairsQ, pairsOk, apart, ent0]))
      | (apply Wp.cond_lit; (· simp only [go_sem, reduceIte, Nat.reduceEqDiff, Nat.reduceAdd, bx, ax, if_true, if_false, Nat.reduceMul, Nat.reduceLeDiff, b1]; exact rfl); (· rfl))
      | refine Wp.skip ?_
      | refine Wp.label ?_
      | refine Wp.block ?_
      | refine Wp.exit ?_
      | refine Wp.seq ?_)
    exact ⟨trivial, _, rfl, _, _, (On.refl ok).ends (VSub.refl _) ⟨rfl, .inl (hs0 ▸ h0)⟩⟩
  · have fk := ok.sub (hJ _ _ h0) _ _ h2
    have i1 : (0 : Int) ≤ ((plK (keysOf S.L) a : Nat) : Int) := by omega
    have i2 : ((plK (keysOf S.L) a : Nat) : Int) ≤ (((keysOf S.L).length : Nat) : Int) := by omega
    repeat (first
      | ((first | apply Wp.seqItemsR | apply Wp.itemsR); (· simp only [go_sem, reduceIte, Nat.reduceEqDiff, Nat.reduceAdd, bx, ax, if_true, if_false, Nat.reduceMul, Nat.reduceLeDiff, fs, i1, i2]; exact rfl))
      | (refine WpItems.nil ⟨?_, ?_⟩; (· first | trivial | simp [pairsQ, pairsOk, apart, ent0]))
      | (apply Wp.cond_lit; (· simp only [go_sem, reduceIte, Nat.reduceEqDiff, Nat.reduceAdd, bx, ax, if_true, if_false, Nat.reduceMul, Nat.reduceLeDiff, fs, i1, i2]; exact rfl); (· rfl))
      | refine Wp.skip ?_
      | refine Wp.label ?_
      | refine Wp.block ?_
      | refine Wp.exit ?_
      | refine Wp.seq ?_)
    refine Wp.loopG (β := Nat) [0, 3, 23, 24] (by simp only [go_sem, reduceIte, Nat.reduceEqDiff, List.map]; exact rfl) (fun i => [(25, .int .i64 (i : Nat))]) (fun i l => J i l ∧ i ≤ (selK (keysOf S.L) a b).length) (fun i => (keysOf S.L).length - i) 0 ⟨h0, Nat.zero_le _⟩ ok (by simp only [AllSub, go_sem, reduceIte, Nat.reduceEqDiff]; exact ⟨VSub.refl _, trivial⟩) ?_
    rintro i l n1 T1 m1 on ⟨hj, hil⟩
    have fk := on.ok.sub (hJ _ _ hj) _ _ h2
    have hget : plK (keysOf S.L) a + i < (keysOf S.L).length → (strs (keysOf S.L))[plK (keysOf S.L) a + i]? = some (.str ((keysOf S.L).getD (plK (keysOf S.L) a + i) [])) := by
      intro h
      have := getD_el (d := ([] : Bs)) h
      simp [strs, h]
    by_cases hi2 : i < (selK (keysOf S.L) a b).length
    · obtain ⟨k1, k2, k3⟩ := selK_at hi2
      have hg := hget k1
      have g1 : decide (((i : Nat) : Int) < ((((keysOf S.L).length - plK (keysOf S.L) a) : Nat) : Int)) = true := decide_eq_true (by omega)
      have h2 : (0 : Int) ≤ ((i : Nat) : Int) := by omega
      have h3 : ((i : Nat) : Int) < ((((keysOf S.L).length - plK (keysOf S.L) a) : Nat) : Int) := by omega
      have e1 : IntKind.i64.wrap (((i : Nat) : Int) + 1) = ((i + 1 : Nat) : Int) := by rw [IntWalk.i64_in _ (by omega)]; omega
      by_cases hbe : b = []
      · have d1 : decide (b = []) = true := decide_eq_true hbe
        repeat (first
          | ((first | apply Wp.seqItemsR | apply Wp.itemsR); (· simp only [go_sem, reduceIte, Nat.reduceEqDiff, Nat.reduceAdd, bx, ax, if_true, if_false, Nat.reduceMul, Nat.reduceLeDiff, g1, h2, h3, fk, hg, Nat.mul_one, d1]; exact rfl))
          | (refine WpItems.nil ⟨?_, ?_⟩; (· first | trivial | simp [pairsQ, pairsOk, apart, ent0]))
          | (apply Wp.cond_lit; (· simp only [go_sem, reduceIte, Nat.reduceEqDiff, Nat.reduceAdd, bx, ax, if_true, if_false, Nat.reduceMul, Nat.reduceLeDiff, g1, h2, h3, fk, hg, Nat.mul_one, d1]; exact rfl); (· rfl))
          | refine Wp.skip ?_
          | refine Wp.label ?_
          | refine Wp.block ?_
          | refine Wp.exit ?_
          | refine Wp.seq ?_)
        refine WpItems.gyield1 (by simp only [go_sem, reduceIte, Nat.reduceEqDiff]; rfl) (by simp only [go_sem, reduceIte, Nat.reduceEqDiff]) (by simp only [go_sem, reduceIte, Nat.reduceEqDiff, List.map]; rw [← k2]; exact VSubs.refl _) (hY i l hi2 hj) on.ok fun r l' n' T' m' ids hq on2 => ?_
        rcases hq with ⟨rfl, hq⟩ | ⟨rfl, hq⟩
        · refine WpItems.evR (by simp only [go_sem, reduceIte, Nat.reduceEqDiff, Nat.reduceAdd, bx]; exact rfl) ?_
          refine WpItems.nil ⟨by trivial, ?_⟩
          repeat (first
            | ((first | apply Wp.seqItemsR | apply Wp.itemsR); (· simp only [go_sem, reduceIte, Nat.reduceEqDiff, Nat.reduceAdd, bx, ax, if_true, if_false, Nat.reduceMul, Nat.reduceLeDiff, e1]; exact rfl))
            | (refine WpItems.nil ⟨?_, ?_⟩; (· first | trivial | simp [pairsQ, pairsOk, apart, ent0]))
            | (apply Wp.cond_lit; (· simp only [go_sem, reduceIte, Nat.reduceEqDiff, Nat.reduceAdd, bx, ax, if_true, if_false, Nat.reduceMul, Nat.reduceLeDiff, e1]; exact rfl); (· rfl))
            | refine Wp.skip ?_
            | refine Wp.label ?_
            | refine Wp.block ?_
            | refine Wp.exit ?_
            | refine Wp.seq ?_)
          refine ⟨i + 1, l', n', T', m', on2, ⟨hq, by omega⟩, by omega, ?_⟩
          refine StLe.tm (by simp only [AllSub, go_sem, reduceIte, Nat.reduceEqDiff, Nat.reduceAdd, bx, Nat.mul_one]; and_intros <;> first | exact trivial | exact VSub.refl _ | exact VSub.any _ | (refine VSub.int ?_; omega))
        · refine WpItems.evR (by simp only [go_sem, reduceIte, Nat.reduceEqDiff, Nat.reduceAdd, bx]; exact rfl) ?_
          refine WpItems.nil ⟨by trivial, ?_⟩
          repeat (first
            | ((first | apply Wp.seqItemsR | apply Wp.itemsR); (· simp only [go_sem, reduceIte, Nat.reduceEqDiff, Nat.reduceAdd, bx, ax, if_true, if_false, Nat.reduceMul, Nat.reduceLeDiff]; exact rfl))
            | (refine WpItems.nil ⟨?_, ?_⟩; (· first | trivial | simp [pairsQ, pairsOk, apart, ent0]))
            | (apply Wp.cond_lit; (· simp only [go_sem, reduceIte, Nat.reduceEqDiff, Nat.reduceAdd, bx, ax, if_true, if_false, Nat.reduceMul, Nat.reduceLeDiff]; exact rfl); (· rfl))
            | refine Wp.skip ?_
            | refine Wp.label ?_
            | refine Wp.block ?_
            | refine Wp.exit ?_
            | refine Wp.seq ?_)
          exact Wp.ret ⟨trivial, _, rfl, _, _, (on.step on2).ends (VSub.refl _) ⟨rfl, .inr hq⟩⟩
      · have d1 : decide (b = []) = false := decide_eq_false hbe
        have d2 : Op.bytesLess ((keysOf S.L).getD (plK (keysOf S.L) a + i) []) b = true := by
          unfold selP at k3; rw [d1, Bool.false_or] at k3; exact k3
        repeat (first
          | ((first | apply Wp.seqItemsR | apply Wp.itemsR); (· simp only [go_sem, reduceIte, Nat.reduceEqDiff, Nat.reduceAdd, bx, ax, if_true, if_false, Nat.reduceMul, Nat.reduceLeDiff, g1, h2, h3, fk, hg, Nat.mul_one, d1, d2]; exact rfl))
          | (refine WpItems.nil ⟨?_, ?_⟩; (· first | trivial | simp [pairsQ, pairsOk, apart, ent0]))
          | (apply Wp.cond_lit; (· simp only [go_sem, reduceIte, Nat.reduceEqDiff, Nat.reduceAdd, bx, ax, if_true, if_false, Nat.reduceMul, Nat.reduceLeDiff, g1, h2, h3, fk, hg, Nat.mul_one, d1, d2]; exact rfl); (· rfl))
          | refine Wp.skip ?_
          | refine Wp.label ?_
          | refine Wp.block ?_
          | refine Wp.exit ?_
          | refine Wp.seq ?_)
        refine WpItems.gyield1 (by simp only [go_sem, reduceIte, Nat.reduceEqDiff]; rfl) (by simp only [go_sem, reduceIte, Nat.reduceEqDiff]) (by simp only [go_sem, reduceIte, Nat.reduceEqDiff, List.map]; rw [← k2]; exact VSubs.refl _) (hY i l hi2 hj) on.ok fun r l' n' T' m' ids hq on2 => ?_
        rcases hq with ⟨rfl, hq⟩ | ⟨rfl, hq⟩
        · refine WpItems.evR (by simp only [go_sem, reduceIte, Nat.reduceEqDiff, Nat.reduceAdd, bx]; exact rfl) ?_
          refine WpItems.nil ⟨by trivial, ?_⟩
          repeat (first
            | ((first | apply Wp.seqItemsR | apply Wp.itemsR); (· simp only [go_sem, reduceIte, Nat.reduceEqDiff, Nat.reduceAdd, bx, ax, if_true, if_false, Nat.reduceMul, Nat.reduceLeDiff, e1]; exact rfl))
            | (refine WpItems.nil ⟨?_, ?_⟩; (· first | trivial | simp [pairsQ, pairsOk, apart, ent0]))
            | (apply Wp.cond_lit; (· simp only [go_sem, reduceIte, Nat.reduceEqDiff, Nat.reduceAdd, bx, ax, if_true, if_false, Nat.reduceMul, Nat.reduceLeDiff, e1]; exact rfl); (· rfl))
            | refine Wp.skip ?_
            | refine Wp.label ?_
            | refine Wp.block ?_
            | refine Wp.exit ?_
            | refine Wp.seq ?_)
          refine ⟨i + 1, l', n', T', m', on2, ⟨hq, by omega⟩, by omega, ?_⟩
          refine StLe.tm (by simp only [AllSub, go_sem, reduceIte, Nat.reduceEqDiff, Nat.reduceAdd, bx, Nat.mul_one]; and_intros <;> first | exact trivial | exact VSub.refl _ | exact VSub.any _ | (refine VSub.int ?_; omega))
        · refine WpItems.evR (by simp only [go_sem, reduceIte, Nat.reduceEqDiff, Nat.reduceAdd, bx]; exact rfl) ?_
          refine WpItems.nil ⟨by trivial, ?_⟩
          repeat (first
            | ((first | apply Wp.seqItemsR | apply Wp.itemsR); (· simp only [go_sem, reduceIte, Nat.reduceEqDiff, Nat.reduceAdd, bx, ax, if_true, if_false, Nat.reduceMul, Nat.reduceLeDiff]; exact rfl))
            | (refine WpItems.nil ⟨?_, ?_⟩; (· first | trivial | simp [pairsQ, pairsOk, apart, ent0]))
            | (apply Wp.cond_lit; (· simp only [go_sem, reduceIte, Nat.reduceEqDiff, Nat.reduceAdd, bx, ax, if_true, if_false, Nat.reduceMul, Nat.reduceLeDiff]; exact rfl); (· rfl))
            | refine Wp.skip ?_
            | refine Wp.label ?_
            | refine Wp.block ?_
            | refine Wp.exit ?_
            | refine Wp.seq ?_)
          exact Wp.ret ⟨trivial, _, rfl, _, _, (on.step on2).ends (VSub.refl _) ⟨rfl, .inr hq⟩⟩
    · have he : i = (selK (keysOf S.L) a b).length := by omega
      subst he
      by_cases hend : plK (keysOf S.L) a + (selK (keysOf S.L) a b).length < (keysOf S.L).length
      · have k3 := selK_end hend
        have hg := hget hend
        have g1 : decide ((((selK (keysOf S.L) a b).length : Nat) : Int) < ((((keysOf S.L).length - plK (keysOf S.L) a) : Nat) : Int)) = true := decide_eq_true (by omega)
        have h2 : (0 : Int) ≤ (((selK (keysOf S.L) a b).length : Nat) : Int) := by omega
        have h3 : (((selK (keysOf S.L) a b).length : Nat) : Int) < ((((keysOf S.L).length - plK (keysOf S.L) a) : Nat) : Int) := by omega
        have e1 : IntKind.i64.wrap ((((selK (keysOf S.L) a b).length : Nat) : Int) + 1) = (((selK (keysOf S.L) a b).length + 1 : Nat) : Int) := by rw [IntWalk.i64_in _ (by omega)]; omega
        unfold selP at k3
        rw [Bool.or_eq_false_iff] at k3
        repeat (first
          | ((first | apply Wp.seqItemsR | apply Wp.itemsR); (· simp only [go_sem, reduceIte, Nat.reduceEqDiff, Nat.reduceAdd, bx, ax, if_true, if_false, Nat.reduceMul, Nat.reduceLeDiff, g1, h2, h3, fk, hg, Nat.mul_one, k3.1, k3.2]; exact rfl))
          | (refine WpItems.nil ⟨?_, ?_⟩; (· first | trivial | simp [pairsQ, pairsOk, apart, ent0]))
          | (apply Wp.cond_lit; (· simp only [go_sem, reduceIte, Nat.reduceEqDiff, Nat.reduceAdd, bx, ax, if_true, if_false, Nat.reduceMul, Nat.reduceLeDiff, g1, h2, h3, fk, hg, Nat.mul_one, k3.1, k3.2]; exact rfl); (· rfl))
          | refine Wp.skip ?_
          | refine Wp.label ?_
          | refine Wp.block ?_
          | refine Wp.exit ?_
          | refine Wp.seq ?_)
        exact Wp.ret ⟨trivial, _, rfl, _, _, on.ends (VSub.refl _) ⟨rfl, .inl hj⟩⟩
      · have g1 : decide ((((selK (keysOf S.L) a b).length : Nat) : Int) < (((keysOf S.L).length - plK (keysOf S.L) a : Nat) : Int)) = false := decide_eq_false (by omega)
        repeat (first
          | ((first | apply Wp.seqItemsR | apply Wp.itemsR); (· simp only [go_sem, reduceIte, Nat.reduceEqDiff, Nat.reduceAdd, bx, ax, if_true, if_false, Nat.reduceMul, Nat.reduceLeDiff, g1]; exact rfl))
          | (refine WpItems.nil ⟨?_, ?_⟩; (· first | trivial | simp [pairsQ, pairsOk, apart, ent0]))
          | (apply Wp.cond_lit; (· simp only [go_sem, reduceIte, Nat.reduceEqDiff, Nat.reduceAdd, bx, ax, if_true, if_false, Nat.reduceMul, Nat.reduceLeDiff, g1]; exact rfl); (· rfl))
          | refine Wp.skip ?_
          | refine Wp.label ?_
          | refine Wp.block ?_
          | refine Wp.exit ?_
          | refine Wp.seq ?_)
        exact ⟨trivial, _, rfl, _, _, on.ends (VSub.refl _) ⟨rfl, .inl hj⟩⟩
def RndQ (J : List Fr → Prop) (E : AExit → List Fr → Prop) : AExit → List Fr → Prop
  | .normal, l => J l
  | .panic _, _ => False
  | e, l => E e l
theorem loop_between {N : Nat} {s : Nat} {S : Spc} {F : Fr} (hF : SpcF s S F) (hr : RiseL S.L) (hl : S.L.length ≤ 500000) (a b : Bs) {g : Opd} {p q : Nat} {y : AC} {t : Tm} {l : List Fr} {n m : Nat} {T : List Nat} {Q : AExit → St → Prop} (hg : ev t g = iterV s a b) (ok : Ok l n T m) (hT : T = ks l) (hp : p < N)
    (J : Nat → List Fr → Prop) (E : AExit → List Fr → Prop) (hJ : ∀ i l, J i l → F ∈ l) (h0 : J 0 l)
    (round : ∀ i l o n1 n2 m2, i < (selK (keysOf S.L) a b).length → J i l → n ≤ n1 → Ok (ob n1 o :: l) n2 (ks l) m2 →
      Wp Try.prog N y ⟨upd (upd t p (.str ((selK (keysOf S.L) a b).getD i []))) q (.str ((selK (keysOf S.L) a b).getD i [])), ⟨lay (ob n1 o :: l), n2, ks l, m2⟩⟩ fun e2 s2 => ∃ l', Av.Ends (ob n1 o :: l) n2 m2 (fun _ _ => True) (.tup []) s2.h (.tup []) (ob n1 o :: l') ∧ RndQ (J (i + 1)) E e2 l')
    (fin : ∀ l1 n' m', On l n m l1 n' (ks l1) m' → J (selK (keysOf S.L) a b).length l1 → Q .normal ⟨t, ⟨lay l1, n', ks l1, m'⟩⟩)
    (out : ∀ e l1 n' m', On l n m l1 n' (ks l1) m' → E e l1 → Q e ⟨t, ⟨lay l1, n', ks l1, m'⟩⟩) :
    Wp Try.prog N (.rfun g [p] (.reg [⟨some q, none, .mov (.t p)⟩] none) y) ⟨t, ⟨lay l, n, T, m⟩⟩ Q := by
  refine Wp.rfunG (fi := 106) (first := []) (caps := [.ref [.ptr s 0], .ref [.str a], .ref [.str b]]) hg (Try.func106) rfl (of_decide_eq_true (by kernel_rfl)) ok hT fun asg body c1 c2 c3 c4 => ?_
  refine (iter_g hF hr hl a b n (fun i L => ∃ l', L = ob n (.loop N t [p] asg body .ready none) :: l' ∧ J i l') (fun L => ∃ l' st pend e, L = ob n (.loop N t [p] asg body st pend) :: l' ∧ st ≠ .busy ∧ LoopEnd pend e ∧ E e l') ?_ ?_ _ ⟨l, rfl, h0⟩).mono ?_
  · rintro i L ⟨l', rfl, h⟩
    exact List.mem_cons_of_mem _ (hJ i l' h)
  · rintro i L hi ⟨l', rfl, h⟩
    refine gyields_of c1 c2 c3 c4 rfl (by simpa using hp) fun n2 m2 ok2 => ?_
    refine Wp.reg1 (by simp only [go_sem, reduceIte, Nat.reduceEqDiff, putPs]; exact rfl) (by trivial) ⟨rfl, rfl, ?_⟩
    refine (round i l' _ n n2 m2 hi h (Nat.le_refl _) ok2).mono ?_
    rintro e2 s2 ⟨l2, hE, hq⟩
    cases e2 with
    | normal => exact ⟨true, .ready, none, l2, .normal, ⟨VSub.refl _, hE.ole, hE.tk, hE.ok, hE.new, hE.knew, trivial⟩, .inl ⟨rfl, l2, rfl, hq⟩⟩
    | exit i => exact ⟨false, .done, _, l2, .exit i, ⟨VSub.refl _, hE.ole, hE.tk, hE.ok, hE.new, hE.knew, trivial⟩, .inr ⟨rfl, l2, _, _, _, rfl, by simp, .exit i, hq⟩⟩
    | goto i => exact ⟨false, .done, _, l2, .goto i, ⟨VSub.refl _, hE.ole, hE.tk, hE.ok, hE.new, hE.knew, trivial⟩, .inr ⟨rfl, l2, _, _, _, rfl, by simp, .goto i, hq⟩⟩
    | ret => exact ⟨false, .done, _, l2, .ret, ⟨VSub.refl _, hE.ole, hE.tk, hE.ok, hE.new, hE.knew, trivial⟩, .inr ⟨rfl, l2, _, _, _, rfl, by simp, .ret, hq⟩⟩
    | panic v => exact False.elim hq
  · rintro r L ⟨rfl, h⟩
    rcases h with ⟨l', rfl, h⟩ | ⟨l', st, pend, e, rfl, h1, h2, h3⟩
    · exact ⟨t, .ready, none, .normal, l', rfl, by simp, .none, fun n' m' on => fin l' n' m' on h⟩
    · exact ⟨t, st, pend, e, l', rfl, h1, h2, fun n' m' on => out e l' n' m' on h3⟩
end Go.Proofs.Ytpehfflehebmbaa.Space
end
section
set_option linter.unusedSimpArgs false
set_option linter.unusedVariables false
set_option maxRecDepth 10000
namespace Go.Proofs.Ytpehfflehebmbaa.Space
open Go Go.Av Go.Proofs Go.Proofs.Ytpehfflehebmbaa.C Go.Proofs.Ytpehfflehebmbaa.Batch
def sinceS (S : Spc) (a b : Bs) (t : Int) : Bool := (selK (keysOf S.L) a b).any fun k => sinceB (mget S.L k) t
theorem since_g {s : Nat} {S : Spc} {F : Fr} (hF : SpcF s S F) (hr : RiseL S.L) (hS : Wide S) (a b : Bs) (t : Int) : GCalls Try.prog 22 [.ptr s 0, .str a, .str b, .int .i64 t] [F] (fun r l => r = .bool (sinceS S a b t) ∧ l = [F]) := by
  obtain ⟨c, M, K, hM, hsc, hs, hc, hK⟩ := hF.go
  refine f22.gsame (by simp) fun n m ok => ?_
  unfold c22
  have hsn := ok.lt (by simp) hs
  obtain ⟨o1, o2, o3, o4⟩ := ne_off hsn
  have ksF : ks [F] = [] := by simp [ks, hF.k]
  rw [ksF] at ok ⊢
  refine Wp.seqReg (by simp only [go_sem, reduceIte, Nat.reduceEqDiff, Nat.reduceAdd, bx]; exact rfl) (by trivial) ?_
  simp only [upd_new]
  have ok3 := ((ok.more (.cells [.ptr s 0])).more (.cells [.int .i64 t])).more (.cells [.bool false])
  have ok := ok3
  have n1 : (n = n + 1) = False := by simp
  have n2 : (n = n + 1 + 1) = False := by simp; omega
  have n3 : (n + 1 = n + 1 + 1) = False := by simp
  have f4 := ok3.sub (F := ob n (.cells [.ptr s 0])) (by simp) n _ (by simp [ob_o]; rfl)
  have f7 := ok3.sub (F := ob (n + 1) (.cells [.int .i64 t])) (by simp) (n + 1) _ (by simp [ob_o]; rfl)
  repeat (first
    | ((first | apply Wp.seqItemsR | apply Wp.itemsR | ((first
        | (refine WpItems.glook ?_ ?_ (made_r hF) (by first | exact fun j o h => h | exact ok.sub (by simp) | assumption) (fun ids => ?_); (· simp only [go_sem, reduceIte, Nat.reduceEqDiff, Nat.reduceAdd, bx]); (· simp only [go_sem, reduceIte, Nat.reduceEqDiff, Nat.reduceAdd, bx, List.map]; first | exact VSubs.refl _ | (repeat (first | exact VSubs.nil | refine VSubs.cons (by first | exact VSub.refl _ | assumption | exact VSub.cap | exact VSub.any _) ?_))))); apply WpItems.evR)); (· simp only [go_sem, reduceIte, Nat.reduceEqDiff, Nat.reduceAdd, bx, ax, if_true, if_false, Nat.reduceMul, Nat.reduceLeDiff, f4]; exact rfl))
    | (refine WpItems.nil ⟨?_, ?_⟩; (· first | trivial | simp [pairsQ, pairsOk, apart, ent0]))
    | (apply Wp.cond_lit; (· simp only [go_sem, reduceIte, Nat.reduceEqDiff, Nat.reduceAdd, bx, ax, if_true, if_false, Nat.reduceMul, Nat.reduceLeDiff, f4]; exact rfl); (· rfl))
    | refine Wp.skip ?_
    | refine Wp.label ?_
    | refine Wp.block ?_
    | refine Wp.exit ?_
    | refine Wp.seq ?_)
  refine WpItems.gkeep [_, _, _] [] (by simp only [go_sem]) (by simp only [go_sem, reduceIte, Nat.reduceEqDiff, List.map]; exact VSubs.refl _) (between_g hF a b) hF.k ok3 fun n4 m4 ids hn4 hm4 ok4 => ?_
  refine WpItems.evR (by simp only [go_sem, reduceIte, Nat.reduceEqDiff, Nat.reduceAdd, bx]; exact rfl) ?_
  refine WpItems.nil ⟨by trivial, ?_⟩
  refine Wp.block ?_
  have hsel : ∀ i, i < (selK (keysOf S.L) a b).length → (selK (keysOf S.L) a b).getD i [] ∈ selK (keysOf S.L) a b := fun i hi => by rw [getD_el hi]; exact List.getElem_mem hi
  refine loop_between hF hr hS.1 a b (by simp only [go_sem, reduceIte, Nat.reduceEqDiff]) ok4 (by simp [ks, hF.k, ob]) (by simp)
    (fun i l => l = [ob (n + 1 + 1) (.cells [.bool false]), ob (n + 1) (.cells [.int .i64 t]), ob n (.cells [.ptr s 0]), F] ∧ ∀ j, j < i → sinceB (mget S.L ((selK (keysOf S.L) a b).getD j [])) t = false)
    (fun e l => e = .ret ∧ l = [ob (n + 1 + 1) (.cells [.bool true]), ob (n + 1) (.cells [.int .i64 t]), ob n (.cells [.ptr s 0]), F] ∧ sinceS S a b t = true) ?_ ⟨rfl, fun j hj => by omega⟩ ?_ ?_ ?_
  · rintro i l ⟨rfl, -⟩; simp
  · rintro i l oo k1 k2 k3 hi ⟨rfl, hno⟩ hk1 ok5
    have ok := ok5
    have g4 := ok5.sub (F := ob n (.cells [.ptr s 0])) (by simp) n _ (by simp [ob_o]; rfl)
    have g7 := ok5.sub (F := ob (n + 1) (.cells [.int .i64 t])) (by simp) (n + 1) _ (by simp [ob_o]; rfl)
    have g8 := ok5.sub (F := ob (n + 1 + 1) (.cells [.bool false])) (by simp) (n + 1 + 1) _ (by simp [ob_o]; rfl)
    have gs := ok5.sub (F := F) (by simp) _ _ hs
    have gc := ok5.sub (F := F) (by simp) _ _ hc
    have hat := since_p (mget S.L ((selK (keysOf S.L) a b).getD i [])) (by have := hS.2 ((selK (keysOf S.L) a b).getD i []); omega) t
    have hl := look_sub M ((selK (keysOf S.L) a b).getD i [])
    rw [hM.eq] at hl
    unfold vAV at hl
    have fit : VSubs [lookAV (.sl 3 [] (.exact 0)) false (mres M ((selK (keysOf S.L) a b).getD i [])), .int .i64 t] [.sl 3 ((mget S.L ((selK (keysOf S.L) a b).getD i [])).map encV) .any, .int .i64 t] := VSubs.cons hl (VSubs.refl _)
    cases hb : sinceB (mget S.L ((selK (keysOf S.L) a b).getD i [])) t with
    | true =>
      rw [hb] at hat
      repeat (first
        | ((first | apply Wp.seqItemsR | apply Wp.itemsR | ((first
            | (refine WpItems.pcall ?_ ?_ (hat) ?_; (· simp only [go_sem, reduceIte, Nat.reduceEqDiff, Nat.reduceAdd, bx]); (· simp only [go_sem, reduceIte, Nat.reduceEqDiff, Nat.reduceAdd, bx, List.map]; exact fit))); apply WpItems.evR)); (· simp only [go_sem, reduceIte, Nat.reduceEqDiff, Nat.reduceAdd, bx, ax, if_true, if_false, Nat.reduceMul, Nat.reduceLeDiff, g4, g7, gs, gc, mfind_enc, g8]; exact rfl))
        | (refine WpItems.nil ⟨?_, ?_⟩; (· first | trivial | simp [pairsQ, pairsOk, apart, ent0]))
        | (apply Wp.cond_lit; (· simp only [go_sem, reduceIte, Nat.reduceEqDiff, Nat.reduceAdd, bx, ax, if_true, if_false, Nat.reduceMul, Nat.reduceLeDiff, g4, g7, gs, gc, mfind_enc, g8]; exact rfl); (· rfl))
        | refine Wp.skip ?_
        | refine Wp.label ?_
        | refine Wp.block ?_
        | refine Wp.exit ?_
        | refine Wp.seq ?_)
      have e8 := Ok.upd_ob (A := [_]) (.cells [.bool true]) ok5
      have on8 := On.put_ob (A := [_]) (o' := .cells [.bool true]) ok5
      refine Wp.ret ⟨_, (?_ : Av.Ends _ _ _ _ _ ⟨_, _, _, _⟩ _ _), rfl, rfl, ?_⟩
      · simp only [List.cons_append, List.nil_append] at e8 on8
        rw [e8]
        exact on8.ends (VSub.refl _) trivial
      · exact List.any_eq_true.2 ⟨_, hsel i hi, hb⟩
    | false =>
      rw [hb] at hat
      repeat (first
        | ((first | apply Wp.seqItemsR | apply Wp.itemsR | ((first
            | (refine WpItems.pcall ?_ ?_ (hat) ?_; (· simp only [go_sem, reduceIte, Nat.reduceEqDiff, Nat.reduceAdd, bx]); (· simp only [go_sem, reduceIte, Nat.reduceEqDiff, Nat.reduceAdd, bx, List.map]; exact fit))); apply WpItems.evR)); (· simp only [go_sem, reduceIte, Nat.reduceEqDiff, Nat.reduceAdd, bx, ax, if_true, if_false, Nat.reduceMul, Nat.reduceLeDiff, g4, g7, gs, gc, mfind_enc]; exact rfl))
        | (refine WpItems.nil ⟨?_, ?_⟩; (· first | trivial | simp [pairsQ, pairsOk, apart, ent0]))
        | (apply Wp.cond_lit; (· simp only [go_sem, reduceIte, Nat.reduceEqDiff, Nat.reduceAdd, bx, ax, if_true, if_false, Nat.reduceMul, Nat.reduceLeDiff, g4, g7, gs, gc, mfind_enc]; exact rfl); (· rfl))
        | refine Wp.skip ?_
        | refine Wp.label ?_
        | refine Wp.block ?_
        | refine Wp.exit ?_
        | refine Wp.seq ?_)
      exact ⟨_, (On.refl ok5).ends (VSub.refl _) trivial, rfl, fun j hj => by
        by_cases e : j = i
        · rw [e]; exact hb
        · exact hno j (by omega)⟩
  · rintro l1 n' m' on ⟨rfl, hno⟩
    have g8 := on.ok.sub (F := ob (n + 1 + 1) (.cells [.bool false])) (by simp) (n + 1 + 1) _ (by simp [ob_o]; rfl)
    have hz : sinceS S a b t = false := by
      rw [sinceS, List.any_eq_false]
      intro x hx
      obtain ⟨j, hj, rfl⟩ := List.mem_iff_getElem.1 hx
      have := hno j hj
      rw [getD_el hj] at this
      simp [this]
    rw [hz]
    show Wp _ _ _ _ _
    repeat (first
      | ((first | apply Wp.seqItemsR | apply Wp.itemsR); (· simp only [go_sem, reduceIte, Nat.reduceEqDiff, Nat.reduceAdd, bx, ax, if_true, if_false, Nat.reduceMul, Nat.reduceLeDiff, g8]; exact rfl))
      | (refine WpItems.nil ⟨?_, ?_⟩; (· first | trivial | simp [pairsQ, pairsOk, apart, ent0]))
      | (apply Wp.cond_lit; (· simp only [go_sem, reduceIte, Nat.reduceEqDiff, Nat.reduceAdd, bx, ax, if_true, if_false, Nat.reduceMul, Nat.reduceLeDiff, g8]; exact rfl); (· rfl))
      | refine Wp.skip ?_
      | refine Wp.label ?_
      | refine Wp.block ?_
      | refine Wp.exit ?_
      | refine Wp.seq ?_)
    refine Wp.ret ⟨trivial, .bool false, ?_, VSub.refl _, fun j hj => ?_, by simp⟩
    · simp [resOf, rvs, rv, go_sem, upd]
    · have q1 : j ≠ n := by omega
      have q2 : j ≠ n + 1 := by omega
      have q3 : j ≠ n + 1 + 1 := by omega
      simp [upd, lay, ob_o, q1, q2, q3]
  · rintro e l1 n' m' on ⟨rfl, rfl, hy⟩
    rw [hy]
    have g8 := on.ok.sub (F := ob (n + 1 + 1) (.cells [.bool true])) (by simp) (n + 1 + 1) _ (by simp [ob_o]; rfl)
    refine ⟨trivial, .bool true, ?_, VSub.refl _, fun j hj => ?_, by simp⟩
    · simp [resOf, rvs, rv, go_sem, g8]
    · have q1 : j ≠ n := by omega
      have q2 : j ≠ n + 1 := by omega
      have q3 : j ≠ n + 1 + 1 := by omega
      simp [lay, ob_o, q1, q2, q3]
end Go.Proofs.Ytpehfflehebmbaa.Space
end
section
set_option linter.unusedSimpArgs false
set_option linter.unusedVariables false
set_option maxRecDepth 10000
namespace Go.Proofs.Ytpehfflehebmbaa.Space
open Go Go.Av Go.Proofs Go.Proofs.Ytpehfflehebmbaa.C Go.Proofs.Ytpehfflehebmbaa.Batch
end Go.Proofs.Ytpehfflehebmbaa.Space
end
section
set_option linter.unusedSimpArgs false
set_option linter.unusedVariables false
set_option maxRecDepth 10000
namespace Go.Proofs.Ytpehfflehebmbaa.Space
open Go Go.Av Go.Proofs Go.Proofs.Ytpehfflehebmbaa.C Go.Proofs.Ytpehfflehebmbaa.Batch
def encE (E : List (Bs × Nat)) : List (AV × AV) := E.map fun p => (.str p.1, .int .i64 (p.2 : Nat))
theorem fE_no (q : Bs) : ∀ E : List (Bs × Nat), q ∉ E.map (·.1) → mfind q (encE E) = some none
  | [], _ => rfl
  | p :: E, h => by
    simp only [List.map_cons, List.mem_cons, not_or] at h
    have ih := fE_no q E h.2
    simp only [encE, List.map_cons, mfind] at ih ⊢
    rw [if_neg (fun e => h.1 e.symm), ih]; rfl
theorem fE_yes (q : Bs) : ∀ E : List (Bs × Nat), q ∈ E.map (·.1) → ∃ p, mfind q (encE E) = some (some p)
  | [], h => by simp at h
  | p :: E, h => by
    by_cases e : p.1 = q
    · exact ⟨(0, .int .i64 (p.2 : Nat)), by simp only [encE, List.map_cons, mfind, if_pos e]⟩
    · simp only [List.map_cons, List.mem_cons] at h
      obtain ⟨r, hr⟩ := fE_yes q E (h.resolve_left fun e' => e e'.symm)
      refine ⟨(r.1 + 1, r.2), ?_⟩
      simp only [encE, List.map_cons, mfind] at hr ⊢
      rw [if_neg e, hr]; rfl
def fitAt (l : List Ch) (i : Nat) : Bool := !decide ((l.getD i default).k ∈ (l.take i).map (·.k)) && decide (((l.getD i default).k.length : Int) ≤ 128) && decide (((l.getD i default).v.length : Int) ≤ 200) && (!(l.getD i default).d || decide ((l.getD i default).v = []))
def fitB (l : List Ch) : Bool := (List.range l.length).all (fitAt l)
theorem fit_p (l : List Ch) (hl : l.length ≤ 1000000) : PCalls Try.prog 53 [.sl 3 (chs l) .any] (.bool (fitB l)) := by
  refine f53.pcalls0 (by simp) (by simp [allPure, isPure, capPure, chs_pure]) rfl ?_
  unfold c53
  repeat (first
    | ((first | apply Wp.seqItemsR | apply Wp.itemsR); (· simp only [go_sem, reduceIte, Nat.reduceEqDiff, Nat.reduceAdd, bx, ax, if_true, if_false, Nat.reduceMul, Nat.reduceLeDiff, chs_length]; exact rfl))
    | (refine WpItems.nil ⟨?_, ?_⟩; (· first | trivial | simp [pairsQ, pairsOk, apart, ent0]))
    | (apply Wp.cond_lit; (· simp only [go_sem, reduceIte, Nat.reduceEqDiff, Nat.reduceAdd, bx, ax, if_true, if_false, Nat.reduceMul, Nat.reduceLeDiff, chs_length]; exact rfl); (· rfl))
    | refine Wp.skip ?_
    | refine Wp.label ?_
    | refine Wp.block ?_
    | refine Wp.exit ?_
    | refine Wp.seq ?_)
  refine Wp.loopH (β := Nat × List (Bs × Nat) × Nat) [3, 9, 10] (by simp only [go_sem, reduceIte, Nat.reduceEqDiff, List.map, chs_length]; exact rfl) (fun j => [(11, .int .i64 (j.1 : Nat))]) (fun j => ⟨upd none' 0 (some (.map (encE j.2.1))), j.2.2, [], 0⟩) (fun j => j.1 ≤ l.length ∧ j.2.1.map (·.1) = (l.take j.1).map (·.k) ∧ 1 ≤ j.2.2 ∧ ∀ i, i < j.1 → fitAt l i = true) (fun j => l.length - j.1) (0, [], 1) ⟨Nat.zero_le _, rfl, Nat.le_refl _, fun i h => absurd h (by omega)⟩ rfl ?_ ?_
  · simp only [AllSub, go_sem, reduceIte, Nat.reduceEqDiff, Nat.reduceAdd, bx]; and_intros <;> first | exact trivial | exact VSub.refl _ | exact VSub.any _ | (refine VSub.int ?_; omega)
  rintro ⟨j, E, n⟩ ⟨hj, hE, hn, hs⟩
  simp only at hj hE hn hs ⊢
  by_cases hcj : j < l.length
  · have g1 : decide (((j : Nat) : Int) < ((l.length : Nat) : Int)) = true := decide_eq_true (by omega)
    have h2 : (0 : Int) ≤ ((j : Nat) : Int) := by omega
    have h3 : ((j : Nat) : Int) < ((l.length : Nat) : Int) := by omega
    have e1 : IntKind.i64.wrap (((j : Nat) : Int) + 1) = ((j + 1 : Nat) : Int) := by rw [IntWalk.i64_in _ (by omega)]; omega
    have hat := chs_getD l j .any hcj
    have a1 : (0 = n) = False := by simp; omega
    have a2 : (n = 0) = False := by simp; omega
    generalize hx : l.getD j default = x at *
    by_cases ht : x.k ∈ E.map (·.1)
    · obtain ⟨p, hp⟩ := fE_yes x.k E ht
      repeat (first
        | ((first | apply Wp.seqItemsR | apply Wp.itemsR); (· simp only [go_sem, reduceIte, Nat.reduceEqDiff, Nat.reduceAdd, bx, ax, if_true, if_false, Nat.reduceMul, Nat.reduceLeDiff, g1, h2, h3, hat, encCh, a1, a2, hp, chs_length]; exact rfl))
        | (refine WpItems.nil ⟨?_, ?_⟩; (· first | trivial | simp [pairsQ, pairsOk, apart, ent0]))
        | (apply Wp.cond_lit; (· simp only [go_sem, reduceIte, Nat.reduceEqDiff, Nat.reduceAdd, bx, ax, if_true, if_false, Nat.reduceMul, Nat.reduceLeDiff, g1, h2, h3, hat, encCh, a1, a2, hp, chs_length]; exact rfl); (· rfl))
        | refine Wp.skip ?_
        | refine Wp.label ?_
        | refine Wp.block ?_
        | refine Wp.exit ?_
        | refine Wp.seq ?_)
      refine Wp.ret ⟨trivial, _, rfl, ?_⟩
      simp only [go_sem, reduceIte, Nat.reduceEqDiff, Nat.reduceAdd, bx]
      rw [fitB, all_no hcj (by rw [fitAt, hx, ← hE, decide_eq_true ht]; rfl)]
      exact VSub.refl _
    · have hp := fE_no x.k E ht
      repeat (first
        | ((first | apply Wp.seqItemsR | apply Wp.itemsR); (· simp only [go_sem, reduceIte, Nat.reduceEqDiff, Nat.reduceAdd, bx, ax, if_true, if_false, Nat.reduceMul, Nat.reduceLeDiff, g1, h2, h3, hat, encCh, a1, a2, hp, chs_length]; exact rfl))
        | (refine WpItems.nil ⟨?_, ?_⟩; (· first | trivial | simp [pairsQ, pairsOk, apart, ent0]))
        | (apply Wp.cond_lit; (· simp only [go_sem, reduceIte, Nat.reduceEqDiff, Nat.reduceAdd, bx, ax, if_true, if_false, Nat.reduceMul, Nat.reduceLeDiff, g1, h2, h3, hat, encCh, a1, a2, hp, chs_length]; exact rfl); (· rfl))
        | refine Wp.skip ?_
        | refine Wp.label ?_
        | refine Wp.block ?_
        | refine Wp.exit ?_
        | refine Wp.seq ?_)
      repeat' (first
        | (refine WpItems.nil ⟨?_, ?_⟩; (· first | trivial | simp [pairsQ, pairsOk, apart, ent0]))
        | (apply WpItems.evU; (· simp only [go_sem, reduceIte, Nat.reduceEqDiff, Nat.reduceAdd, bx, ax, if_true, if_false, Nat.reduceMul, Nat.reduceLeDiff, a1, a2, e1, hp, putEs, encCh, List.length_map]; exact rfl); (· simp only [go_sem, reduceIte, Nat.reduceEqDiff, Nat.reduceAdd, bx, ax, if_true, if_false, Nat.reduceMul, Nat.reduceLeDiff, a1, a2, e1, hp, putEs, encCh, List.length_map]; exact rfl))
        | (apply WpItems.part 1; (· simp only [go_sem, reduceIte, Nat.reduceEqDiff, Nat.reduceAdd, bx, ax, if_true, if_false, Nat.reduceMul, Nat.reduceLeDiff, a1, a2, e1, hp, putEs, encCh, List.length_map]; exact rfl); (try simp only [List.drop_succ_cons, List.drop_zero, List.drop_nil]))
        | (refine WpItems.gsplit_dec (p := ?_) ?_ (fun hc => ?_) (fun hc => ?_); rotate_left; (· simp only [go_sem, reduceIte, Nat.reduceEqDiff, Nat.reduceAdd, bx, ax, if_true, if_false, Nat.reduceMul, Nat.reduceLeDiff, a1, a2, e1, hp, putEs, encCh, List.length_map]; exact rfl))
        | (refine WpItems.gsplit_ndec (p := ?_) ?_ (fun hc => ?_) (fun hc => ?_); rotate_left; (· simp only [go_sem, reduceIte, Nat.reduceEqDiff, Nat.reduceAdd, bx, ax, if_true, if_false, Nat.reduceMul, Nat.reduceLeDiff, a1, a2, e1, hp, putEs, encCh, List.length_map]; exact rfl))
        | (refine WpItems.gsplit (b := ?_) ?_ (fun hc => ?_) (fun hc => ?_); rotate_left; (· simp only [go_sem, reduceIte, Nat.reduceEqDiff, Nat.reduceAdd, bx, ax, if_true, if_false, Nat.reduceMul, Nat.reduceLeDiff, a1, a2, e1, hp, putEs, encCh, List.length_map]; exact rfl))
        | refine Wp.seqRegS ?_
        | refine Wp.regS ?_
        | (refine Wp.cond_true ?_ ?_; (· simp only [go_sem, reduceIte, Nat.reduceEqDiff, Nat.reduceAdd, bx, ax, if_true, if_false, Nat.reduceMul, Nat.reduceLeDiff, a1, a2, e1, hp, putEs, encCh, List.length_map]))
        | (refine Wp.cond_false ?_ ?_; (· simp only [go_sem, reduceIte, Nat.reduceEqDiff, Nat.reduceAdd, bx, ax, if_true, if_false, Nat.reduceMul, Nat.reduceLeDiff, a1, a2, e1, hp, putEs, encCh, List.length_map]))
        | (refine Wp.cond_dec (p := ?_) ?_ (fun hc => ?_) (fun hc => ?_); rotate_left; (· simp only [go_sem, reduceIte, Nat.reduceEqDiff, Nat.reduceAdd, bx, ax, if_true, if_false, Nat.reduceMul, Nat.reduceLeDiff, a1, a2, e1, hp, putEs, encCh, List.length_map]; exact rfl))
        | (refine Wp.cond_ndec (p := ?_) ?_ (fun hc => ?_) (fun hc => ?_); rotate_left; (· simp only [go_sem, reduceIte, Nat.reduceEqDiff, Nat.reduceAdd, bx, ax, if_true, if_false, Nat.reduceMul, Nat.reduceLeDiff, a1, a2, e1, hp, putEs, encCh, List.length_map]; exact rfl))
        | (refine Wp.cond_split (b := ?_) ?_ (fun hc => ?_) (fun hc => ?_); rotate_left; (· simp only [go_sem, reduceIte, Nat.reduceEqDiff, Nat.reduceAdd, bx, ax, if_true, if_false, Nat.reduceMul, Nat.reduceLeDiff, a1, a2, e1, hp, putEs, encCh, List.length_map]; exact rfl))
        | refine Wp.skip ?_
        | refine Wp.label ?_
        | refine Wp.block ?_
        | refine Wp.exit ?_
        | refine Wp.seq ?_)
      any_goals
        refine Wp.ret ⟨trivial, _, rfl, ?_⟩
        rw [fitB, all_no hcj (by rw [fitAt, hx]; first | (simp_all; done) | (simp_all; intros; exfalso; omega))]
        exact VSub.refl _
      all_goals
        refine ⟨(j + 1, E ++ [(x.k, j)], n + 1), ⟨by simp only; omega, ?_, by simp only; omega, all_step hs ?_⟩, by simp only; omega, ?_⟩
        · simp only [List.map_append, hE, take_snoc default hcj, hx, List.map_cons, List.map_nil]
        · rw [fitAt, hx]; simp_all
        · simp only [encE, List.map_append, List.map_cons, List.map_nil]
          refine StLe.tmN (by omega) (OLe.at (by simp [upd, none', a1, a2])) (by simp only [AllSub, go_sem, reduceIte, Nat.reduceEqDiff, Nat.reduceAdd, bx, a1, a2]; and_intros <;> first | exact trivial | exact VSub.refl _ | exact VSub.any _ | (refine VSub.int ?_; omega))
  · have hje : j = l.length := by omega
    subst hje
    have g1 : decide (((l.length : Nat) : Int) < ((l.length : Nat) : Int)) = false := decide_eq_false (by omega)
    repeat (first
      | ((first | apply Wp.seqItemsR | apply Wp.itemsR); (· simp only [go_sem, reduceIte, Nat.reduceEqDiff, Nat.reduceAdd, bx, ax, if_true, if_false, Nat.reduceMul, Nat.reduceLeDiff, g1]; exact rfl))
      | (refine WpItems.nil ⟨?_, ?_⟩; (· first | trivial | simp [pairsQ, pairsOk, apart, ent0]))
      | (apply Wp.cond_lit; (· simp only [go_sem, reduceIte, Nat.reduceEqDiff, Nat.reduceAdd, bx, ax, if_true, if_false, Nat.reduceMul, Nat.reduceLeDiff, g1]; exact rfl); (· rfl))
      | refine Wp.skip ?_
      | refine Wp.label ?_
      | refine Wp.block ?_
      | refine Wp.exit ?_
      | refine Wp.seq ?_)
    refine Wp.ret ⟨trivial, _, rfl, ?_⟩
    simp only [go_sem, reduceIte, Nat.reduceEqDiff, Nat.reduceAdd, bx]
    rw [fitB, all_yes hs]
    exact VSub.refl _
end Go.Proofs.Ytpehfflehebmbaa.Space
end
section
set_option linter.unusedSimpArgs false
set_option linter.unusedVariables false
set_option maxRecDepth 10000
namespace Go.Proofs.Ytpehfflehebmbaa.Space
open Go Go.Av Go.Proofs Go.Proofs.Ytpehfflehebmbaa.C Go.Proofs.Ytpehfflehebmbaa.Batch
def stepS (t : Int) (S : Spc) (c : Ch) : Spc := setS S c.k (addB (mget S.L c.k) ⟨t, c.v, c.d⟩).1
def doS (t : Int) (S : Spc) (l : List Ch) : Spc := l.foldl (stepS t) S
def applyB (S : Spc) (t : Int) (l : List Ch) : Spc × Int := if t ≤ S.last ∨ 1152921504606846976 < t then (S, 18) else if fitB l = false then (S, 2) else ({ doS t S l with last := t }, 0)
def Room (S : Spc) (k : Nat) : Prop := S.L.length + k ≤ 500000 ∧ ∀ q, (mget S.L q).length + k ≤ 4398046511103
theorem add_len (v : List Ver) (x : Ver) : (addB v x).1.length ≤ v.length + 1 := by
  unfold addB; split
  · simp
  · split
    · simp
    · split <;> simp
theorem setL_len (L : List It) (q : Bs) (v : List Ver) : (setL L q v).length ≤ L.length + 1 := by
  have := plK_le (keysOf L) q
  have hk : (keysOf L).length = L.length := by simp [keysOf]
  unfold setL
  split
  · split <;> simp <;> omega
  · split <;> simp <;> omega
theorem Room.step {S : Spc} {k : Nat} (h : Room S (k + 1)) (hr : RiseL S.L) (t : Int) (c : Ch) : Room (stepS t S c) k := by
  refine ⟨?_, fun q => ?_⟩
  · have := setL_len S.L c.k (addB (mget S.L c.k) ⟨t, c.v, c.d⟩).1
    have := h.1
    show (setL _ _ _).length + k ≤ _
    omega
  · show (mget (setL _ _ _) q).length + k ≤ _
    rw [setL_get hr]
    split
    · have := add_len (mget S.L c.k) ⟨t, c.v, c.d⟩
      have := h.2 c.k
      omega
    · have := h.2 q; omega
theorem do_ok (t : Int) : ∀ (l : List Ch) (S : Spc) (k : Nat), RiseL S.L → Room S (l.length + k) → RiseL (doS t S l).L ∧ Room (doS t S l) k
  | [], S, k, hr, h => ⟨hr, by rw [List.length_nil, Nat.zero_add] at h; exact h⟩
  | c :: l, S, k, hr, h => by
    have h' : Room S ((l.length + k) + 1) := by
      have e : l.length + k + 1 = (c :: l).length + k := by simp only [List.length_cons]; omega
      rw [e]; exact h
    exact do_ok t l (stepS t S c) k (setL_rise hr _ _) (h'.step hr t c)
theorem do_snoc (t : Int) (S : Spc) (l : List Ch) {j : Nat} (h : j < l.length) : doS t S (l.take (j + 1)) = stepS t (doS t S (l.take j)) (l.getD j default) := by
  rw [take_snoc default h, doS, List.foldl_append]; rfl
theorem SpcF.times {s : Nat} {S : Spc} {F : Fr} (hF : SpcF s S F) {K : AV} {c : Nat} {a b : Int} (hs : F.o s = some (.cells [K, .mp c, .int .i64 a, .int .i64 b])) (last mark : Int) : SpcF s { S with last := last, mark := mark } ⟨upd F.o s (some (.cells [K, .mp c, .int .i64 last, .int .i64 mark])), F.k⟩ := by
  obtain ⟨c', M, K', hM, hsc, hs', hc, hK⟩ := hF.go
  rw [hs'] at hs
  simp only [Option.some.injEq, Obj.cells.injEq, List.cons.injEq, AV.mp.injEq, AV.int.injEq, true_and, and_true] at hs
  obtain ⟨rfl, rfl, -, -⟩ := hs
  refine ⟨⟨c, M, K, hM, hsc, by simp [upd], ?_, ?_⟩, hF.k, ?_⟩
  · simp only [upd]; rw [if_neg (Ne.symm hsc)]; exact hc
  · rcases hK with ⟨h1, h2⟩ | ⟨k, h1, h2, h3, h4⟩
    · exact .inl ⟨h1, h2⟩
    · exact .inr ⟨k, h1, by simp only [upd]; rw [if_neg h3]; exact h2, h3, h4⟩
  · obtain ⟨ids, hi⟩ := hF.fin
    refine ⟨s :: ids, fun id h => ?_⟩
    simp only [upd] at h
    split at h
    · rename_i e; simp [e]
    · exact List.mem_cons_of_mem _ (hi id h)
set_option maxHeartbeats 1000000 in
theorem apply_g {s : Nat} {S : Spc} {F : Fr} (hF : SpcF s S F) (hr : RiseL S.L) (t : Int) (l : List Ch) (hl : l.length ≤ 1000000) (hR : Room S l.length) : GCalls Try.prog 15 [.ptr s 0, .int .i64 t, .sl 3 (chs l) .any] [F] (fun r L => r = .int .i64 (applyB S t l).2 ∧ ∃ F', L = [F'] ∧ SpcF s (applyB S t l).1 F') := by
  obtain ⟨c, M, K, hM, hsc, hs, hc, hK⟩ := hF.go
  refine f15.gcalls (by simp) fun n m ok => ?_
  unfold c15
  have fs := ok.at0 hs
  have stop : ∀ (e : Int), applyB S t l = (S, e) → ∃ r l', Av.Ends [F] n m (fun r L => r = .int .i64 (applyB S t l).2 ∧ ∃ F', L = [F'] ∧ SpcF s (applyB S t l).1 F') (.int .i64 e) ⟨lay [F], n, ks [F], m⟩ r l' := by
    intro e h
    rw [h]
    exact ⟨_, _, (On.refl ok).ends (VSub.refl _) ⟨rfl, F, rfl, hF⟩⟩
  by_cases p1 : t ≤ S.last
  · have d1 := decide_eq_true p1
    repeat (first
      | ((first | apply Wp.seqItemsR | apply Wp.itemsR | ((first
          | (refine WpItems.glook ?_ ?_ (made_r hF) (by first | exact fun j o h => h | exact ok.sub (by simp) | assumption) (fun ids => ?_); (· simp only [go_sem, reduceIte, Nat.reduceEqDiff, Nat.reduceAdd, bx]); (· simp only [go_sem, reduceIte, Nat.reduceEqDiff, Nat.reduceAdd, bx, List.map]; first | exact VSubs.refl _ | (repeat (first | exact VSubs.nil | refine VSubs.cons (by first | exact VSub.refl _ | assumption | exact VSub.cap | exact VSub.any _) ?_))))); apply WpItems.evR)); (· simp only [go_sem, reduceIte, Nat.reduceEqDiff, Nat.reduceAdd, bx, ax, if_true, if_false, Nat.reduceMul, Nat.reduceLeDiff, fs, d1]; exact rfl))
      | (refine WpItems.nil ⟨?_, ?_⟩; (· first | trivial | simp [pairsQ, pairsOk, apart, ent0]))
      | (apply Wp.cond_lit; (· simp only [go_sem, reduceIte, Nat.reduceEqDiff, Nat.reduceAdd, bx, ax, if_true, if_false, Nat.reduceMul, Nat.reduceLeDiff, fs, d1]; exact rfl); (· rfl))
      | refine Wp.skip ?_
      | refine Wp.label ?_
      | refine Wp.block ?_
      | refine Wp.exit ?_
      | refine Wp.seq ?_)
    exact Wp.ret ⟨trivial, _, rfl, stop 18 (by rw [applyB, if_pos (.inl p1)])⟩
  · have d1 := decide_eq_false p1
    by_cases p2 : 1152921504606846976 < t
    · have d2 := decide_eq_true p2
      repeat (first
        | ((first | apply Wp.seqItemsR | apply Wp.itemsR | ((first
            | (refine WpItems.glook ?_ ?_ (made_r hF) (by first | exact fun j o h => h | exact ok.sub (by simp) | assumption) (fun ids => ?_); (· simp only [go_sem, reduceIte, Nat.reduceEqDiff, Nat.reduceAdd, bx]); (· simp only [go_sem, reduceIte, Nat.reduceEqDiff, Nat.reduceAdd, bx, List.map]; first | exact VSubs.refl _ | (repeat (first | exact VSubs.nil | refine VSubs.cons (by first | exact VSub.refl _ | assumption | exact VSub.cap | exact VSub.any _) ?_))))); apply WpItems.evR)); (· simp only [go_sem, reduceIte, Nat.reduceEqDiff, Nat.reduceAdd, bx, ax, if_true, if_false, Nat.reduceMul, Nat.reduceLeDiff, fs, d1, d2]; exact rfl))
        | (refine WpItems.nil ⟨?_, ?_⟩; (· first | trivial | simp [pairsQ, pairsOk, apart, ent0]))
        | (apply Wp.cond_lit; (· simp only [go_sem, reduceIte, Nat.reduceEqDiff, Nat.reduceAdd, bx, ax, if_true, if_false, Nat.reduceMul, Nat.reduceLeDiff, fs, d1, d2]; exact rfl); (· rfl))
        | refine Wp.skip ?_
        | refine Wp.label ?_
        | refine Wp.block ?_
        | refine Wp.exit ?_
        | refine Wp.seq ?_)
      exact Wp.ret ⟨trivial, _, rfl, stop 18 (by rw [applyB, if_pos (.inr p2)])⟩
    · have d2 := decide_eq_false p2
      have hfit := fit_p l hl
      cases hf : fitB l with
      | false =>
        rw [hf] at hfit
        repeat (first
          | ((first | apply Wp.seqItemsR | apply Wp.itemsR | ((first
              | (refine WpItems.glook ?_ ?_ (made_r hF) (by first | exact fun j o h => h | exact ok.sub (by simp) | assumption) (fun ids => ?_); (· simp only [go_sem, reduceIte, Nat.reduceEqDiff, Nat.reduceAdd, bx]); (· simp only [go_sem, reduceIte, Nat.reduceEqDiff, Nat.reduceAdd, bx, List.map]; first | exact VSubs.refl _ | (repeat (first | exact VSubs.nil | refine VSubs.cons (by first | exact VSub.refl _ | assumption | exact VSub.cap | exact VSub.any _) ?_))))
              | (refine WpItems.pcall ?_ ?_ (hfit) ?_; (· simp only [go_sem, reduceIte, Nat.reduceEqDiff, Nat.reduceAdd, bx]); (· simp only [go_sem, reduceIte, Nat.reduceEqDiff, Nat.reduceAdd, bx, List.map]; first | exact VSubs.refl _ | (repeat (first | exact VSubs.nil | refine VSubs.cons (by first | exact VSub.refl _ | assumption | exact VSub.cap | exact VSub.any _) ?_))))); apply WpItems.evR)); (· simp only [go_sem, reduceIte, Nat.reduceEqDiff, Nat.reduceAdd, bx, ax, if_true, if_false, Nat.reduceMul, Nat.reduceLeDiff, fs, d1, d2]; exact rfl))
          | (refine WpItems.nil ⟨?_, ?_⟩; (· first | trivial | simp [pairsQ, pairsOk, apart, ent0]))
          | (apply Wp.cond_lit; (· simp only [go_sem, reduceIte, Nat.reduceEqDiff, Nat.reduceAdd, bx, ax, if_true, if_false, Nat.reduceMul, Nat.reduceLeDiff, fs, d1, d2]; exact rfl); (· rfl))
          | refine Wp.skip ?_
          | refine Wp.label ?_
          | refine Wp.block ?_
          | refine Wp.exit ?_
          | refine Wp.seq ?_)
        exact Wp.ret ⟨trivial, _, rfl, stop 2 (by rw [applyB, if_neg (by omega), if_pos hf])⟩
      | true =>
        rw [hf] at hfit
        repeat (first
          | ((first | apply Wp.seqItemsR | apply Wp.itemsR | ((first
              | (refine WpItems.glook ?_ ?_ (made_r hF) (by first | exact fun j o h => h | exact ok.sub (by simp) | assumption) (fun ids => ?_); (· simp only [go_sem, reduceIte, Nat.reduceEqDiff, Nat.reduceAdd, bx]); (· simp only [go_sem, reduceIte, Nat.reduceEqDiff, Nat.reduceAdd, bx, List.map]; first | exact VSubs.refl _ | (repeat (first | exact VSubs.nil | refine VSubs.cons (by first | exact VSub.refl _ | assumption | exact VSub.cap | exact VSub.any _) ?_))))
              | (refine WpItems.pcall ?_ ?_ (hfit) ?_; (· simp only [go_sem, reduceIte, Nat.reduceEqDiff, Nat.reduceAdd, bx]); (· simp only [go_sem, reduceIte, Nat.reduceEqDiff, Nat.reduceAdd, bx, List.map]; first | exact VSubs.refl _ | (repeat (first | exact VSubs.nil | refine VSubs.cons (by first | exact VSub.refl _ | assumption | exact VSub.cap | exact VSub.any _) ?_))))); apply WpItems.evR)); (· simp only [go_sem, reduceIte, Nat.reduceEqDiff, Nat.reduceAdd, bx, ax, if_true, if_false, Nat.reduceMul, Nat.reduceLeDiff, fs, d1, d2, chs_length]; exact rfl))
          | (refine WpItems.nil ⟨?_, ?_⟩; (· first | trivial | simp [pairsQ, pairsOk, apart, ent0]))
          | (apply Wp.cond_lit; (· simp only [go_sem, reduceIte, Nat.reduceEqDiff, Nat.reduceAdd, bx, ax, if_true, if_false, Nat.reduceMul, Nat.reduceLeDiff, fs, d1, d2, chs_length]; exact rfl); (· rfl))
          | refine Wp.skip ?_
          | refine Wp.label ?_
          | refine Wp.block ?_
          | refine Wp.exit ?_
          | refine Wp.seq ?_)
        refine Wp.loopG (β := Nat) [0, 1, 30, 31] (by simp only [go_sem, reduceIte, Nat.reduceEqDiff, List.map, chs_length]; exact rfl) (fun i => [(32, .int .i64 (i : Nat))]) (fun i L => i ≤ l.length ∧ ∃ F', L = [F'] ∧ SpcF s (doS t S (l.take i)) F') (fun i => l.length - i) 0 ⟨Nat.zero_le _, F, rfl, hF⟩ ok (by simp only [AllSub, go_sem, reduceIte, Nat.reduceEqDiff]; exact ⟨VSub.refl _, trivial⟩) ?_
        rintro i L n1 T1 m1 on ⟨hi, F', rfl, hF'⟩
        obtain ⟨c', M', K', hM', hsc', hs', hc', hK'⟩ := hF'.go
        by_cases hi2 : i < l.length
        · have g1 : decide (((i : Nat) : Int) < ((l.length : Nat) : Int)) = true := decide_eq_true (by omega)
          have h2 : (0 : Int) ≤ ((i : Nat) : Int) := by omega
          have h3 : ((i : Nat) : Int) < ((l.length : Nat) : Int) := by omega
          have e1 : IntKind.i64.wrap (((i : Nat) : Int) + 1) = ((i + 1 : Nat) : Int) := by rw [IntWalk.i64_in _ (by omega)]; omega
          have hat := chs_getD l i .any hi2
          have hdo := do_snoc t S l hi2
          obtain ⟨hr', hR'⟩ := do_ok t (l.take i) S (l.length - i) hr (by rw [List.length_take, show min i l.length + (l.length - i) = l.length by omega]; exact hR)
          generalize l.getD i default = x at *
          generalize doS t S (l.take i) = S' at *
          have ok2 := on.ok.more (.cells [.str x.k, .str x.v, .bool x.d])
          have gs := ok2.sub (F := F') (by simp) _ _ hs'
          have gc := ok2.sub (F := F') (by simp) _ _ hc'
          have g8 := lay_ob_at n1 (.cells [.str x.k, .str x.v, .bool x.d]) [F']
          repeat (first
            | ((first | apply Wp.seqItemsR | apply Wp.itemsR); (· simp only [go_sem, reduceIte, Nat.reduceEqDiff, Nat.reduceAdd, bx, ax, if_true, if_false, Nat.reduceMul, Nat.reduceLeDiff, g1, h2, h3, hat, chs_length, encCh]; exact rfl))
            | (refine WpItems.nil ⟨?_, ?_⟩; (· first | trivial | simp [pairsQ, pairsOk, apart, ent0]))
            | (apply Wp.cond_lit; (· simp only [go_sem, reduceIte, Nat.reduceEqDiff, Nat.reduceAdd, bx, ax, if_true, if_false, Nat.reduceMul, Nat.reduceLeDiff, g1, h2, h3, hat, chs_length, encCh]; exact rfl); (· rfl))
            | refine Wp.skip ?_
            | refine Wp.label ?_
            | refine Wp.block ?_
            | refine Wp.exit ?_
            | refine Wp.seq ?_)
          rw [upd_new, upd_ob]
          have hadd := add_p (mget S'.L x.k) (by have := hR'.2 x.k; omega) ⟨t, x.v, x.d⟩
          have hlk := look_sub M' x.k
          rw [hM'.eq] at hlk
          unfold vAV at hlk
          have fit : VSubs [lookAV (.sl 3 [] (.exact 0)) false (mres M' x.k), .agg [.int .i64 t, .str x.v, .bool x.d]] [.sl 3 ((mget S'.L x.k).map encV) .any, encV ⟨t, x.v, x.d⟩] := VSubs.cons hlk (VSubs.refl _)
          repeat (first
            | ((first | apply Wp.seqItemsR | apply Wp.itemsR | ((first
                | (refine WpItems.pcall ?_ ?_ (hadd) ?_; (· simp only [go_sem, reduceIte, Nat.reduceEqDiff, Nat.reduceAdd, bx]); (· simp only [go_sem, reduceIte, Nat.reduceEqDiff, Nat.reduceAdd, bx, List.map]; exact fit))); apply WpItems.evR)); (· simp only [go_sem, reduceIte, Nat.reduceEqDiff, Nat.reduceAdd, bx, ax, if_true, if_false, Nat.reduceMul, Nat.reduceLeDiff, gs, gc, g8, mfind_enc]; exact rfl))
            | (refine WpItems.nil ⟨?_, ?_⟩; (· first | trivial | simp [pairsQ, pairsOk, apart, ent0]))
            | (apply Wp.cond_lit; (· simp only [go_sem, reduceIte, Nat.reduceEqDiff, Nat.reduceAdd, bx, ax, if_true, if_false, Nat.reduceMul, Nat.reduceLeDiff, gs, gc, g8, mfind_enc]; exact rfl); (· rfl))
            | refine Wp.skip ?_
            | refine Wp.label ?_
            | refine Wp.block ?_
            | refine Wp.exit ?_
            | refine Wp.seq ?_)
          refine WpItems.gcall [_] [F'] [] (by simp only [go_sem]) (by simp only [go_sem, reduceIte, Nat.reduceEqDiff, List.map]; exact VSubs.refl _) (set_g hF' hr' (by have := hR'.1; omega) x.k (addB (mget S'.L x.k) ⟨t, x.v, x.d⟩).1) ok2 fun r G' n' m' ids hq hn' hm' ok3 wi ki => ?_
          obtain ⟨rfl, F2, rfl, hF2⟩ := hq
          have on2 : On [F'] n1 m1 [F2] n' _ m' := On.under ⟨hn', hm', ok3, wi, ki⟩
          refine WpItems.evR (by simp only [go_sem, reduceIte, Nat.reduceEqDiff, Nat.reduceAdd, bx]; exact rfl) ?_
          refine WpItems.nil ⟨by trivial, ?_⟩
          repeat (first
            | ((first | apply Wp.seqItemsR | apply Wp.itemsR); (· simp only [go_sem, reduceIte, Nat.reduceEqDiff, Nat.reduceAdd, bx, ax, if_true, if_false, Nat.reduceMul, Nat.reduceLeDiff, e1]; exact rfl))
            | (refine WpItems.nil ⟨?_, ?_⟩; (· first | trivial | simp [pairsQ, pairsOk, apart, ent0]))
            | (apply Wp.cond_lit; (· simp only [go_sem, reduceIte, Nat.reduceEqDiff, Nat.reduceAdd, bx, ax, if_true, if_false, Nat.reduceMul, Nat.reduceLeDiff, e1]; exact rfl); (· rfl))
            | refine Wp.skip ?_
            | refine Wp.label ?_
            | refine Wp.block ?_
            | refine Wp.exit ?_
            | refine Wp.seq ?_)
          refine ⟨i + 1, [F2], n', _, m', on2, ⟨by omega, F2, rfl, ?_⟩, by omega, ?_⟩
          · rw [hdo]; exact hF2
          · refine StLe.of (tm_le ?_) (ole_drop_ob (Ok.alone ok3)) (fun _ h => h) (Nat.le_refl _) (Nat.le_refl _)
            simp only [AllSub, go_sem, reduceIte, Nat.reduceEqDiff, Nat.reduceAdd, bx]; and_intros <;> first | exact trivial | exact VSub.refl _ | exact VSub.any _ | (refine VSub.int ?_; omega)
        · have hie : i = l.length := by omega
          subst hie
          have g1 : decide (((l.length : Nat) : Int) < ((l.length : Nat) : Int)) = false := decide_eq_false (by omega)
          rw [List.take_length] at hF' hs'
          have gs := on.ok.at0 hs'
          have hres : applyB S t l = ({ doS t S l with last := t }, 0) := by rw [applyB, if_neg (by omega), if_neg (by simp [hf])]
          repeat (first
            | ((first | apply Wp.seqItemsR | apply Wp.itemsR); (· simp only [go_sem, reduceIte, Nat.reduceEqDiff, Nat.reduceAdd, bx, ax, if_true, if_false, Nat.reduceMul, Nat.reduceLeDiff, g1, gs]; exact rfl))
            | (refine WpItems.nil ⟨?_, ?_⟩; (· first | trivial | simp [pairsQ, pairsOk, apart, ent0]))
            | (apply Wp.cond_lit; (· simp only [go_sem, reduceIte, Nat.reduceEqDiff, Nat.reduceAdd, bx, ax, if_true, if_false, Nat.reduceMul, Nat.reduceLeDiff, g1, gs]; exact rfl); (· rfl))
            | refine Wp.skip ?_
            | refine Wp.label ?_
            | refine Wp.block ?_
            | refine Wp.exit ?_
            | refine Wp.seq ?_)
          have on3 := on.step (On.put (o := .cells [K', .mp c', .int .i64 t, .int .i64 (doS t S l).mark]) on.ok (by rw [hs']; rfl))
          have hF3 := hF'.times hs' t (doS t S l).mark
          refine Wp.ret ⟨trivial, .int .i64 0, rfl, .int .i64 (applyB S t l).2, [⟨upd F'.o s (some (.cells [K', .mp c', .int .i64 t, .int .i64 (doS t S l).mark])), F'.k⟩], ?_⟩
          rw [upd_lay]
          refine on3.ends (by rw [hres]; exact VSub.refl _) ⟨rfl, _, rfl, ?_⟩
          rw [hres]; exact hF3
end Go.Proofs.Ytpehfflehebmbaa.Space
end
section
set_option linter.unusedVariables false
set_option linter.unusedSimpArgs false
namespace Go.Av
section
variable {P : Program}
end
end Go.Av
end
section
set_option linter.unusedSimpArgs false
set_option linter.unusedVariables false
set_option maxRecDepth 10000
namespace Go.Proofs.Ytpehfflehebmbaa.Space
open Go Go.Av Go.Proofs Go.Proofs.Ytpehfflehebmbaa.C Go.Proofs.Ytpehfflehebmbaa.Batch
end Go.Proofs.Ytpehfflehebmbaa.Space
end
section
set_option linter.unusedSimpArgs false
set_option linter.unusedVariables false
set_option maxRecDepth 10000
namespace Go.Proofs.Ytpehfflehebmbaa.Space
open Go Go.Av Go.Proofs Go.Proofs.Ytpehfflehebmbaa.C Go.Proofs.Ytpehfflehebmbaa.Batch
instance : Inhabited It := ⟨([], [])⟩
def encI (p : It) : AV := .agg [.str p.1, vAV p.2]
end Go.Proofs.Ytpehfflehebmbaa.Space
end
section
set_option linter.unusedSimpArgs false
set_option linter.unusedVariables false
set_option maxRecDepth 10000
namespace Go.Proofs.Ytpehfflehebmbaa.Space
open Go Go.Av Go.Proofs Go.Proofs.Ytpehfflehebmbaa.C Go.Proofs.Ytpehfflehebmbaa.Batch
def layL (A : List It) (l : List It) : List It := l.foldl (fun A p => setL A p.1 p.2) A
theorem layL_snoc (A l : List It) {j : Nat} (h : j < l.length) : layL A (l.take (j + 1)) = setL (layL A (l.take j)) (l.getD j default).1 (l.getD j default).2 := by
  rw [take_snoc default h, layL, List.foldl_append]; rfl
theorem layL_ok : ∀ (l A : List It), RiseL A → RiseL (layL A l) ∧ (layL A l).length ≤ A.length + l.length
  | [], A, h => ⟨h, Nat.le_refl _⟩
  | p :: l, A, h => by
    obtain ⟨h1, h2⟩ := layL_ok l (setL A p.1 p.2) (setL_rise h _ _)
    have := setL_len A p.1 p.2
    refine ⟨h1, ?_⟩
    show (layL (setL A p.1 p.2) l).length ≤ _
    simp only [List.length_cons]; omega
end Go.Proofs.Ytpehfflehebmbaa.Space
end
