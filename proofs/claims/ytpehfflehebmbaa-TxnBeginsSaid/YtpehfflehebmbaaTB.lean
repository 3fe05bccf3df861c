/- TxnBegins: the statement 'TxnBeginsSaid', closed by the law that the walk shows. No condition. -/
import Derived.Deep.CondSized
import Derived.IntWalk
import Derived.KernelRfl
import Derived.Laws.Append
import Derived.Laws.AppendOwn
import Derived.Laws.BytesArg
import Derived.Laws.Cover3
import Derived.Laws.Entries
import Derived.Laws.IdiomCopy
import Derived.Laws.IdiomStrings
import Derived.Laws.Pointers
import Derived.Laws.Small
import Derived.Laws.Strings
import Derived.Laws.StructEq
import Derived.MapKept
import Derived.OpenShut
import Derived.Orders
import Derived.OrdersIn
import Derived.ProofKit
import Derived.RangeFuncRecord
import Derived.RangeFuncSeq
import Derived.ReadAgain
import Derived.Scope
import Derived.Shelf.Slices.Cells
import Derived.Shelf.Slices.Delete
import Derived.Shelf.Spec.SlicesInsertGrow
import Derived.SizedLaws
import Derived.Test.YtpehfflehebmbaaRows
import Derived.Test.YtpehfflehebmbaaTBD
section
set_option linter.unusedVariables false
set_option linter.unusedSimpArgs false
namespace Go.Av
open Go.ChangeShapes Go.WideShapes Go.ChangeAt Go.RowKit
section
variable {H : Type} {enc : TypeId × Value → H} {P : Program} {w : World}
def G0 : Ghost := ⟨fun _ => False, fun _ => 0, fun _ => False, fun _ => none, fun _ => False, fun _ => none⟩
def wrapE (P : Program) (e : TypeId) (cs : List AV) : AV := if isAggT P e then .agg cs else cs.headD .any
/- how many values and letters stand in a value -/
mutual
def bulkA : AV → Nat
  | .int _ _ => 1
  | .bool _ => 1
  | .str l => l.length + 1
  | .sl _ xs _ => bulkAs xs + 1
  | .agg cs => bulkAs cs
  | _ => 0
def bulkAs : List AV → Nat
  | [] => 0
  | x :: xs => bulkA x + bulkAs xs
end
theorem bulkAs_append : ∀ l m : List AV, bulkAs (l ++ m) = bulkAs l + bulkAs m
  | [], m => by simp [bulkAs]
  | x :: l, m => by simp [bulkAs, bulkAs_append l m]; omega
theorem bulk_wrap (P : Program) (e : TypeId) (cs : List AV) : bulkA (wrapE P e cs) ≤ bulkAs cs := by
  unfold wrapE
  split
  · simp [bulkA]
  · cases cs with
    | nil => simp [bulkA, bulkAs]
    | cons x cs => simp [bulkAs]
structure Bulk (B : DataW H → Nat) (BL : List (DataW H) → Nat) : Prop where
  str : ∀ l, B (.lit (.string l)) = l.length + 1
  int : ∀ k n, B (.lit (.int k n)) = 1
  bool : ∀ b, B (.lit (.bool b)) = 1
  nil : B .nil = 1
  slice : ∀ a b, B (.slice a b) = BL a + BL b + 1
  agg : ∀ a, B (.agg a) = BL a + 1
  nils : BL [] = 0
  cons : ∀ d l, BL (d :: l) = B d + BL l
theorem Bulk.snoc {B : DataW H → Nat} {BL : List (DataW H) → Nat} (hB : Bulk B BL) : ∀ (l : List (DataW H)) (d : DataW H), BL (l ++ [d]) = BL l + B d
  | [], d => by simp [hB.cons, hB.nils]
  | x :: l, d => by simp [hB.cons, Bulk.snoc hB l d]; omega
theorem Bulk.take {B : DataW H → Nat} {BL : List (DataW H) → Nat} (hB : Bulk B BL) : ∀ (l : List (DataW H)) (m : Nat), BL (l.take m) ≤ BL l
  | [], m => by simp
  | x :: l, 0 => by simp [hB.nils]
  | x :: l, m + 1 => by simp [hB.cons, Bulk.take hB l m]
theorem weights_mem_all {P : Program} {e : TypeId} {n : Nat} : ∀ {l : List (DataW H)} {d : DataW H}, d ∈ l → n ∈ d.weights P e → n ∈ DataW.weightsAll P e l
  | x :: l, d, h, hn => by
    simp only [DataW.weightsAll, List.mem_append]
    rcases List.mem_cons.1 h with rfl | h
    · exact .inl hn
    · exact .inr (weights_mem_all h hn)
inductive All2 {α β : Type} (R : α → β → Prop) : List α → List β → Prop
  | nil : All2 R [] []
  | cons {a b l m} : R a b → All2 R l m → All2 R (a :: l) (b :: m)
def Fits (P : Program) : Nat → TypeId → List AV → Prop
  | 0, _, _ => False
  | k + 1, t, xs => match P.underlying t with
    | some .bool => ∃ b, xs = [.bool b]
    | some (.int q) => ∃ n, xs = [.int q n] ∧ (Lit.int q n).wf = true
    | some .string => ∃ l, xs = [.str l] ∧ l.length ≤ reachBytes
    | some (.slice e) => ∃ ys, xs = [.sl (P.cellsOf e) ys .any] ∧ ys.length * P.bytesOf e ≤ reachBytes ∧ ∀ y ∈ ys, ∃ cs, Fits P k e cs ∧ y = wrapE P e cs
    | some (.struct fs) => ∃ xss, xs = xss.flatten ∧ All2 (fun (f : Field) cs => Fits P k f.type cs) fs.toList xss
    | _ => False
def plainT (P : Program) : Nat → TypeId → Bool
  | 0, _ => false
  | k + 1, t => match P.underlying t with
    | some .bool | some (.int _) | some .string => true
    | some (.slice e) => decide (e < P.types.size) && decide (0 < P.cellsOf e) && (isAggT P e || decide (P.cellsOf e = 1)) && plainT P k e
    | some (.struct fs) => decide (t < P.types.size) && fs.all fun f => plainT P k f.type
    | _ => false
theorem cell_spot {a : Addr} {v : Value} (h : w.cell? a = some v) : a.spot = none := by
  unfold World.cell? at h
  split at h
  · split at h
    · cases h
    · rename_i hs; cases hh : a.spot with
      | none => rfl
      | some x => simp [hh] at hs
  · cases h
theorem one_of_bool (b : Bool) : One (.bool b) := ⟨fun _ => by simp, fun _ => by simp⟩
theorem one_of_int (k : IntKind) (n : Int) : One (.int k n) := ⟨fun _ => by simp, fun _ => by simp⟩
theorem one_of_str (s : ByteArray) : One (.string s) := ⟨fun _ => by simp, fun _ => by simp⟩
theorem one_of_sl (a : Option Addr) (l c : Nat) : One (.slice a l c) := ⟨fun _ => by simp, fun _ => by simp⟩
theorem fields_split {R : Field → List AV → Prop} {G : Ghost} {B : DataW H → Nat} {BL : List (DataW H) → Nat} (hB : Bulk B BL) (full : List Value) (rd : Field → List Value → DataW H → Prop)
    (hrd : ∀ f cs d, rd f cs d → ∃ xs, R f xs ∧ VRels G w xs cs ∧ (∀ v ∈ cs, One v) ∧ bulkAs xs ≤ B d) : ∀ (fs : List Field) (ds : List (DataW H)) (off : Nat), ds.length = fs.length →
    (∀ (j : Nat) f, fs[j]? = some f → f.offset = off + ((fs.take j).map fun f => P.cellsOf f.type).sum) → full.length = off + (fs.map fun f => P.cellsOf f.type).sum →
    (∀ (j : Nat) f d, fs[j]? = some f → ds[j]? = some d → rd f ((full.drop f.offset).take (P.cellsOf f.type)) d) → ∃ xss, All2 R fs xss ∧ VRels G w xss.flatten (full.drop off) ∧ (∀ v ∈ full.drop off, One v) ∧ bulkAs xss.flatten ≤ BL ds
  | [], ds, off, hl, h1, h2, h3 => by
    have e : full.drop off = [] := List.drop_eq_nil_of_le (by simp at h2; omega)
    exact ⟨[], .nil, by rw [e]; exact .nil, by rw [e]; simp, by simp [bulkAs]⟩
  | f :: fs, [], off, hl, h1, h2, h3 => by cases hl
  | f :: fs, d :: ds, off, hl, h1, h2, h3 => by
    have o0 : f.offset = off := by simpa using h1 0 f rfl
    have hf := h3 0 f d rfl rfl
    rw [o0] at hf
    obtain ⟨xs, r1, r2, r3, r4⟩ := hrd f _ d hf
    obtain ⟨xss, q1, q2, q3, q4⟩ := fields_split hB full rd hrd fs ds (off + P.cellsOf f.type) (by simpa using hl) (fun j g hj => by
      have := h1 (j + 1) g (by simpa using hj)
      simp only [List.take_succ_cons, List.map_cons, List.sum_cons] at this; omega) (by simp only [List.map_cons, List.sum_cons] at h2; omega) (fun j g d' hg hd => h3 (j + 1) g d' (by simpa using hg) (by simpa using hd))
    have e : full.drop off = (full.drop off).take (P.cellsOf f.type) ++ full.drop (off + P.cellsOf f.type) := by
      rw [← List.drop_drop, List.take_append_drop]
    refine ⟨xs :: xss, .cons r1 q1, ?_, ?_, ?_⟩
    · rw [e, List.flatten_cons]; exact r2.append q2
    · rw [e]; intro v hv
      rcases List.mem_append.1 hv with hv | hv
      · exact r3 v hv
      · exact q3 v hv
    · rw [List.flatten_cons, bulkAs_append, hB.cons]; omega
theorem wrapE_rel {e : TypeId} {cs : List AV} {vs : List Value} (hs : vs.length = P.cellsOf e) (hr : VRels G0 w cs vs) (ho : ∀ v ∈ vs, One v) (hc : isAggT P e = false → P.cellsOf e = 1) :
    ∃ v : Value, v.cells.toList = vs ∧ VRel G0 w (wrapE P e cs) v := by
  unfold wrapE
  cases ha : isAggT P e with
  | true => exact ⟨.agg vs.toArray, by simp [Value.cells], by simp only [if_true, VRel]; exact ⟨vs, rfl, hr⟩⟩
  | false =>
    rw [hc ha] at hs
    obtain ⟨v, rfl⟩ := List.length_eq_one_iff.1 hs
    have hl := hr.length
    obtain ⟨x, rfl⟩ := List.length_eq_one_iff.1 (show cs.length = 1 by simpa using hl.symm)
    simp only [VRels] at hr
    obtain ⟨v', us, e1, hv, e2⟩ := hr
    cases e1
    refine ⟨v, ?_, by simpa using hv⟩
    have := ho v (by simp)
    cases v <;> first | rfl | exact absurd rfl (this.1 _) | exact absurd rfl (this.2 _)
theorem Fits.slice {k : Nat} {t e : TypeId} {ys : List AV} (ht : P.underlying t = some (.slice e)) (h1 : ys.length * P.bytesOf e ≤ reachBytes) (h2 : ∀ y ∈ ys, ∃ cs, Fits P k e cs ∧ y = wrapE P e cs) : Fits P (k + 1) t [.sl (P.cellsOf e) ys .any] := by
  unfold Fits; rw [ht]; exact ⟨ys, rfl, h1, h2⟩
theorem trod_fits (hl : laidOutB P = true) {B : DataW H → Nat} {BL : List (DataW H) → Nat} (hB : Bulk B BL) : ∀ (k : Nat) (t : TypeId), plainT P k t = true → ∀ (fuel : Nat) (cs : List Value) (x : DataW H × List MemPlace),
    DataW.trod enc P w 0 (fun _ => true) true fuel t cs = some x → (∀ n ∈ x.1.weights P t, n ≤ reachBytes) → ∃ xs, Fits P k t xs ∧ VRels G0 w xs cs ∧ (∀ v ∈ cs, One v) ∧ bulkAs xs ≤ B x.1 := by
  intro k
  induction k with
  | zero => intro t h; cases h
  | succ k ih =>
    intro t hp fuel cs x hx hwt
    simp only [plainT] at hp
    split at hp
    · rename_i ht
      obtain ⟨b, rfl, rfl⟩ := DataW.trod_bool ht hx
      exact ⟨[.bool b], by simp only [Fits, ht]; exact ⟨b, rfl⟩, .cons (by simp [VRel]) .nil, by simp [one_of_bool], by simp [hB.bool, bulkAs, bulkA]⟩
    · rename_i q ht
      obtain ⟨n, rfl, rfl, hw⟩ := DataW.trod_int ht hx
      exact ⟨[.int q n], by simp only [Fits, ht]; exact ⟨n, rfl, hw⟩, .cons (by simp [VRel]) .nil, by simp [one_of_int], by simp [hB.int, bulkAs, bulkA]⟩
    · rename_i ht
      obtain ⟨s, rfl, rfl, -⟩ := DataW.trod_string ht hx
      refine ⟨[.str s.data.toList], by simp only [Fits, ht]; exact ⟨_, rfl, hwt _ (by simp [DataW.weights])⟩, .cons (by simp [VRel]) .nil, by simp [one_of_str], by simp [hB.str, bulkAs, bulkA]⟩
    · rename_i e ht
      simp only [Bool.and_eq_true, decide_eq_true_eq] at hp
      obtain ⟨⟨⟨-, hsz⟩, hag⟩, hpe⟩ := hp
      rcases DataW.trod_slice ht hx with ⟨rfl, rfl⟩ | ⟨a, len, cap, elems, rest, n, rfl, rfl, rfl, hb, hlc, hcm, hel, hread, hrest, -⟩
      · refine ⟨[.sl (P.cellsOf e) [] .any], Fits.slice ht (by simp) (fun y hy => by cases hy), .cons ?_ .nil, by simp [one_of_sl], by simp [hB.nil, bulkAs, bulkA]⟩
        unfold VRel; exact .inl ⟨rfl, ⟨none, rfl⟩, trivial⟩
      · have hone : isAggT P e = false → P.cellsOf e = 1 := by
          intro ha
          simpa [ha] using hag
        -- the cells of each element
        have each : ∀ i, i < len → ∃ vs xs, w.cells? 0 (a.add (i * P.cellsOf e)) (P.cellsOf e) = some vs ∧ Fits P k e xs ∧ VRels G0 w xs vs ∧ (∀ v ∈ vs, One v) ∧ ∀ y, elems[i]? = some y → bulkAs xs ≤ B y.1 := by
          intro i hi
          have h := hread i hi
          rw [List.getElem?_eq_getElem (by omega)] at h
          obtain ⟨vs, h1, h2⟩ := Option.bind_eq_some_iff.1 h
          obtain ⟨xs, h3, h4, h5, h6⟩ := ih e hpe n vs _ h2 (fun m hm => hwt m (by
            simp only [DataW.weights, ht, List.mem_cons, List.mem_append]
            exact .inr (.inl (weights_mem_all (List.mem_map.2 ⟨_, List.getElem_mem (by omega), rfl⟩) hm))))
          exact ⟨vs, xs, h1, h3, h4, h5, fun y hy => by rw [List.getElem?_eq_getElem (by omega)] at hy; cases hy; exact h6⟩
        have build : ∀ m, m ≤ len → ∃ ys vs, ys.length = m ∧ vs.length = m * P.cellsOf e ∧ (∀ y ∈ ys, ∃ cs, Fits P k e cs ∧ y = wrapE P e cs) ∧ VElems G0 w (P.cellsOf e) ys vs ∧ (∀ (i : Nat) v, vs[i]? = some v → w.cell? (a.add i) = some v ∧ One v) ∧ bulkAs ys ≤ BL ((elems.map (·.1)).take m) := by
          intro m
          induction m with
          | zero => intro _; exact ⟨[], [], rfl, by simp, by simp, by simp [VElems], by simp, by simp [bulkAs]⟩
          | succ m ihm =>
            intro hm
            obtain ⟨ys, vs, k1, k2, k3, k4, k5, k6⟩ := ihm (by omega)
            obtain ⟨us, xs, e1, e2, e3, e4, eb⟩ := each m (by omega)
            obtain ⟨-, e5, e6⟩ := World.cells?_some e1
            obtain ⟨v, hv1, hv2⟩ := wrapE_rel e5 e3 e4 hone
            refine ⟨ys ++ [wrapE P e xs], vs ++ us, by simp [k1], by simp [k2, e5, Nat.add_mul], ?_, ?_, ?_, ?_⟩
            · intro y hy
              rcases List.mem_append.1 hy with hy | hy
              · exact k3 y hy
              · simp at hy; exact ⟨xs, e2, hy⟩
            · refine k4.append ?_
              simp only [VElems]
              exact ⟨v, [], by simp [hv1], by rw [← Array.length_toList, hv1, e5], hv2, rfl⟩
            · intro i z hz
              rcases Nat.lt_or_ge i vs.length with hi | hi
              · rw [List.getElem?_append_left hi] at hz; exact k5 i z hz
              · rw [List.getElem?_append_right hi] at hz
                have hlt : i - vs.length < us.length := (List.getElem?_eq_some_iff.1 hz).1
                have := e6 (i - vs.length) (by omega)
                rw [hz] at this
                have ea : (a.add (m * P.cellsOf e)).add (i - vs.length) = a.add i := by
                  rw [← k2]
                  unfold Addr.add
                  by_cases h0 : vs.length = 0
                  · simp [h0]
                  · by_cases h1 : i - vs.length = 0
                    · have : i = vs.length := by omega
                      subst this; simp
                    · have : i ≠ 0 := by omega
                      simp [h0, h1, this]; omega
                rw [ea] at this
                exact ⟨this, e4 z (List.mem_of_getElem? hz)⟩
            · have hlt : m < (elems.map (·.1)).length := by simp; omega
              rw [List.take_succ_eq_append_getElem hlt, hB.snoc, bulkAs_append]
              have h1 := eb _ (List.getElem?_eq_getElem (by omega))
              have h2 := bulk_wrap P e xs
              simp only [List.getElem_map, bulkAs]
              omega
        obtain ⟨ys, vs, k1, k2, k3, k4, k5, k6⟩ := build len (Nat.le_refl _)
        refine ⟨[.sl (P.cellsOf e) ys .any], Fits.slice ht ?_ k3, .cons ?_ .nil, by simp [one_of_sl], ?_⟩
        · have := hwt ((elems.length + rest.length) * P.bytesOf e) (by simp [DataW.weights, ht])
          exact Nat.le_trans (Nat.mul_le_mul_right _ (by omega)) this
        rotate_left
        · have := hB.take (elems.map (·.1)) len
          simp only [hB.slice, bulkAs, bulkA]
          omega
        unfold VRel
        by_cases hcap : cap = 0
        · have : ys = [] := List.length_eq_zero_iff.1 (by omega)
          exact .inl ⟨this, ⟨some a, by simp; omega⟩, by simp [CapNil]⟩
        · have hspot : a.spot = none := by
            by_cases hl0 : len = 0
            · obtain ⟨hr1, hr2⟩ := hrest rfl
              have h := hr2 0 (by omega)
              rw [List.getElem?_eq_getElem (by omega)] at h
              obtain ⟨vs', h1, h2⟩ := Option.bind_eq_some_iff.1 h
              obtain ⟨-, g1, g2⟩ := World.cells?_some h1
              have := g2 0 hsz
              rw [List.getElem?_eq_getElem (by omega)] at this
              have := cell_spot this
              simpa [hl0, Addr.add] using this
            · obtain ⟨us, xs, e1, e2, e3, e4, -⟩ := each 0 (by omega)
              obtain ⟨-, g1, g2⟩ := World.cells?_some e1
              have := g2 0 hsz
              rw [List.getElem?_eq_getElem (by omega)] at this
              have := cell_spot this
              simpa [Addr.add] using this
          obtain ⟨B, off, sp⟩ := a
          simp only at hspot
          subst hspot
          refine .inr ⟨B, off, cap, vs, by simp [k1], by omega, by rw [k2, k1], k4, fun i v hv => ?_, by simp [CapOk]⟩
          obtain ⟨c1, c2⟩ := k5 i v hv
          rw [add_plain] at c1
          exact ⟨c1, c2, by simp [G0], by simp [G0]⟩
    · rename_i fs ht
      simp only [Bool.and_eq_true, decide_eq_true_eq] at hp
      obtain ⟨hlt, hp⟩ := hp
      rw [Array.all_eq_true_iff_forall_mem] at hp
      obtain ⟨xs, n, rfl, rfl, hlen, hxl, hread⟩ := DataW.trod_struct ht hx
      obtain ⟨-, hsum, hoff⟩ := kid_struct hl hlt ht
      obtain ⟨xss, q1, q2, q3, q4⟩ := fields_split (P := P) (R := fun (f : Field) cs => Fits P k f.type cs) (G := G0) (w := w) hB cs
        (fun f us d => plainT P k f.type = true ∧ ∃ y, DataW.trod enc P w 0 (fun _ => true) true n f.type us = some y ∧ y.1 = d ∧ ∀ m ∈ d.weights P f.type, m ≤ reachBytes)
        (fun f us d ⟨h1, y, h2, h3, h4⟩ => by subst h3; exact ih f.type h1 n us y h2 h4) fs.toList (xs.map (·.1)) 0 (by simp [hxl]) (fun j f hj => by rw [hoff j f hj]; omega) (by rw [hlen, hsum]; omega)
        (fun i f d hi hd => by
          refine ⟨hp f (by have := List.mem_of_getElem? hi; simpa using this), ?_⟩
          have h := hread i f (by simpa using hi)
          rw [List.getElem?_map] at hd
          cases hxi : xs[i]? with
          | none => rw [hxi] at hd; cases hd
          | some y =>
            rw [hxi] at h hd
            refine ⟨y, h, by simpa using hd, fun m hm => hwt m ?_⟩
            simp only [DataW.weights, ht]
            exact DataW.weights_mem_each (j := i) (t := f.type) (d := d) (by rw [List.getElem?_map, hi]; rfl) (by rw [List.getElem?_map, hxi]; exact hd) m hm)
      refine ⟨xss.flatten, by simp only [Fits, ht]; exact ⟨xss, rfl, q1⟩, by simpa using q2, by simpa using q3, ?_⟩
      rw [hB.agg]; omega
    · cases hp
def ArgFits (P : Program) (k : Nat) (t : TypeId) (a : AV) : Prop := ∃ cs, Fits P k t cs ∧ a = wrapE P t cs
theorem arg_rel {k : Nat} {t : TypeId} {v : Value} {xs : List AV} {base : Nat} (hp : plainT P k t = true) (hok : Value.okWide P w .any base t v) (hr : VRels G0 w xs v.cells.toList) (ho : ∀ u ∈ v.cells.toList, One u) : VRel G0 w (wrapE P t xs) v := by
  unfold wrapE
  cases ha : isAggT P t with
  | true =>
    have : ∃ cs, v = .agg cs := by
      unfold isAggT at ha
      unfold Value.okWide at hok
      split at ha
      · rename_i h; rw [h] at hok; obtain ⟨cs, h, -⟩ := hok; exact ⟨cs, h⟩
      · rename_i h; rw [h] at hok; obtain ⟨cs, h, -⟩ := hok; exact ⟨cs, h⟩
      · cases ha
    obtain ⟨cs, rfl⟩ := this
    simp only [if_true, VRel]
    exact ⟨cs.toList, by simp, by simpa [Value.cells] using hr⟩
  | false =>
    have hv : v.cells = #[v] := by
      cases v <;> try rfl
      exfalso
      cases k with
      | zero => cases hp
      | succ k =>
        unfold plainT at hp
        unfold isAggT at ha
        unfold Value.okWide Cell.okWide Cell.ok at hok
        split at hp
        all_goals (try (rename_i h; rw [h] at hok ha; simp at hok ha; done))
        all_goals (try (rename_i h; rw [h] at hok ha; simp at hok; done))
        all_goals simp_all
    rw [hv] at hr
    have hl := hr.length
    obtain ⟨x, rfl⟩ := List.length_eq_one_iff.1 (show xs.length = 1 by simpa using hl.symm)
    simp only [VRels] at hr
    obtain ⟨v', us, e1, hx, e2⟩ := hr
    cases e1
    simpa using hx
theorem args_fit (hl : laidOutB P = true) {B : DataW H → Nat} {BL : List (DataW H) → Nat} (hB : Bulk B BL) {k : Nat} {base : Nat} : ∀ {ts us : List TypeId} {vs : List Value} {ds : List (DataW H)} {ps : List MemPlace}, (∀ t ∈ ts, plainT P k t = true) →
    (∀ (j : Nat) t v, ts[j]? = some t → vs[j]? = some v → Value.okWide P w .any base t v) → (∀ n ∈ DataW.weightsEach P (ts ++ us) ds, n ≤ reachBytes) → DataW.TrodAll enc P w 0 (fun _ => true) true ts vs ds ps → ∃ avs, All2 (ArgFits P k) ts avs ∧ VRels G0 w avs vs ∧ bulkAs avs ≤ BL ds
  | [], us, [], [], _, _, _, _, _ => ⟨[], .nil, .nil, by simp [bulkAs]⟩
  | t :: ts, us, v :: vs, d :: ds, _, hp, hok, hwt, ⟨p, q, ⟨fuel, h1⟩, h2, _⟩ => by
    obtain ⟨xs, f1, f2, f3, f4⟩ := trod_fits hl hB k t (hp t (by simp)) fuel _ _ h1 (fun n hn => hwt n (by simp only [List.cons_append, DataW.weightsEach, List.mem_append]; exact .inl hn))
    obtain ⟨avs, g1, g2, g3⟩ := args_fit hl hB (us := us) (fun t ht => hp t (by simp [ht])) (fun j t v a b => hok (j + 1) t v (by simpa using a) (by simpa using b)) (fun n hn => hwt n (by simp only [List.cons_append, DataW.weightsEach, List.mem_append]; exact .inr hn)) h2
    refine ⟨wrapE P t xs :: avs, .cons ⟨xs, f1, rfl⟩ g1, .cons (arg_rel (hp t (by simp)) (hok 0 t v rfl rfl) f2 f3) g2, ?_⟩
    have := bulk_wrap P t xs
    simp only [bulkAs, hB.cons] at f4 ⊢
    omega
theorem trodAll_len {sp : Nat → Bool} : ∀ {ts : List TypeId} {vs : List Value} {ds : List (DataW H)} {ps : List MemPlace}, DataW.TrodAll enc P w 0 sp true ts vs ds ps → ds.length = ts.length
  | [], [], [], _, h => rfl
  | t :: ts, v :: vs, d :: ds, _, ⟨p, q, h1, h2, e⟩ => by simp [trodAll_len h2]
theorem trodAll_carry {w' : World} {sp : Nat → Bool} : ∀ {ts : List TypeId} {vs : List Value} {ds : List (DataW H)} {ps : List MemPlace}, DataW.TrodAll enc P w 0 sp true ts vs ds ps → (∀ p ∈ ps, w.sameAt w' p) → DataW.TrodAll enc P w' 0 sp true ts vs ds ps
  | [], [], [], _, h, _ => h
  | t :: ts, v :: vs, d :: ds, _, ⟨p, q, ⟨fuel, h1⟩, h2, e⟩, hs => by
    subst e
    exact ⟨p, q, ⟨fuel, DataW.trod_carry fuel _ _ _ h1 (fun x hx => hs x (List.mem_append_left _ hx))⟩, trodAll_carry h2 (fun x hx => hs x (List.mem_append_right _ hx)), rfl⟩
theorem calls_row (hl : laidOutB P = true) {B : DataW H → Nat} {BL : List (DataW H) → Nat} (hB : Bulk B BL) (hm : mapsRowed P = true) (hz : ∀ t e, t < P.types.size → P.underlying t = some (.slice e) → 0 < P.cellsOf e) {f : FuncId} {fn : Func} {s : ChangeSpec} {k base : Nat} {W : World} {args : Array Value} {ds gs : List (DataW H)} {before : List MemPlace} {tb : TypeId}
    (hvars : s.vars = []) (hfn : ∀ l : List (DataW H), l.length = fn.params.size → s.fn H l = { results := [.lit (.bool true)], args := l }) (hrt : fn.resultTypes = #[tb]) (htb : P.underlying tb = some .bool)
    (hpl' : fn.params.toList.all (plainT P k) = true) (hlt' : fn.params.toList.all (fun t => decide (t < P.types.size)) = true)
    (hval : ∀ (j : Nat) t v, fn.params[j]? = some t → args[j]? = some v → Value.okWide P W .any base t v) (hW : DataW.Whole enc P fn.params.toList s.vars false W args.toList ds gs before)
    {us : List TypeId} (hwt : (DataW.weightsEach P (fn.params.toList ++ us) (ds ++ gs)).all (· ≤ reachBytes) = true)
    (law : ∀ avs, All2 (ArgFits P k) fn.params.toList avs → bulkAs avs ≤ BL (ds ++ gs) → PCalls P f avs (.bool true)) :
    Calls P f args W fun e W' => ∃ v, e = .returned v ∧ s.post enc P fn false true false false W args v W' := by
  have hpl : ∀ t ∈ fn.params.toList, plainT P k t = true := List.all_eq_true.1 hpl'
  have hlt : ∀ t ∈ fn.params.toList, t < P.types.size := fun t ht => of_decide_eq_true (List.all_eq_true.1 hlt' t ht)
  have hW' := hW
  obtain ⟨p, q, hA, hV, rfl, -, -⟩ := hW
  rw [hvars] at hV
  obtain ⟨rfl, rfl⟩ := trodVars_none hV
  rw [List.append_nil] at hwt law
  obtain ⟨avs, g1, g2, g3⟩ := args_fit hl hB hpl (fun j t v a b => hval j t v (by simpa using a) (by simpa using b)) (fun n hn => of_decide_eq_true (List.all_eq_true.1 hwt n hn)) hA
  have hlaw := law avs g1 g3 0 0 G0 W args.toList g2 only_rep ⟨fun _ _ _ h => h, fun _ _ _ h => h⟩
  rw [show args.toList.toArray = args from Array.toArray_toList] at hlaw
  refine hlaw.mono ?_
  rintro e W' ⟨v, G', he, T, -, hv⟩
  subst he
  simp only [VRel] at hv
  subst hv
  have keep : ∀ B, B < W.heap.size → W'.heap[B]? = W.heap[B]? := fun B hB => T.keep B hB (fun x => only_O B x) (fun ⟨t, ht, _⟩ => by simp [H0, Av.H.only] at ht)
  have hlt' : ∀ x ∈ p, x.block < W.heap.size := DataW.TrodAll.lt hA
  have hlen := trodAll_len hA
  refine ⟨_, rfl, ds, [], p ++ [], [], p, [], hW', ?_, ?_, ?_, ?_, fun h => by cases h⟩
  · rw [hfn _ (by simpa using hlen), hrt]
    exact trodAll_mk1 (shut_bool htb _)
  · rw [hfn _ (by simpa using hlen)]
    have := DataW.TrodAll.respare (kids_rows hl hm) hz (spare' := fun b => decide (b < W.heap.size)) hlt hA (fun x hx => by simpa using hlt' x hx)
    simp only [List.append_nil]
    refine trodAll_carry this fun x hx => ?_
    have hb := hlt' x hx
    cases x with
    | cell b off => unfold World.sameAt World.cell?; simp only; rw [keep b hb]
    | map b => exact keep b hb
  · rw [hvars, hfn _ (by simpa using hlen)]
    rfl
  · refine ⟨T.os, T.output, fun i hi => ?_⟩
    rw [keep i hi]
    generalize W.heap[i]? = o
    cases o with
    | none => rfl
    | some o => cases o <;> simp
end
end Go.Av
end
section
set_option linter.unusedSimpArgs false
set_option linter.unusedVariables false
set_option maxRecDepth 100000
namespace Go.Proofs.Ytpehfflehebmbaa.Space
open Go Go.Av Go.Proofs Go.Proofs.Ytpehfflehebmbaa.C Go.Proofs.Ytpehfflehebmbaa.Batch
theorem laid : laidOutB Try.prog = true := by kernel_rfl
theorem rowed : mapsRowed Try.prog = true := by kernel_rfl
theorem full : ∀ t e, t < Try.prog.types.size → Try.prog.underlying t = some (.slice e) → 0 < Try.prog.cellsOf e := slices_full_of Try.prog (by kernel_rfl)
theorem own : ownKnob Try.prog.godebug = none := by kernel_rfl
theorem bulk {H : Type} : Bulk (H := H) Rows.uptoBulk Rows.uptoBulkAll :=
  ⟨fun l => by simp [Rows.uptoBulk], fun k n => by simp [Rows.uptoBulk], fun b => by simp [Rows.uptoBulk], by simp [Rows.uptoBulk], fun a b => by simp [Rows.uptoBulk], fun a => by simp [Rows.uptoBulk], by simp [Rows.uptoBulkAll], fun d l => by simp [Rows.uptoBulkAll]⟩
theorem open_i {a : AV} (h : ArgFits Try.prog 5 3 a) : ∃ n, a = .int .i64 n ∧ (Lit.int .i64 n).wf = true := by
  obtain ⟨cs, h, rfl⟩ := h
  unfold Fits at h
  rw [Try.underlying3] at h
  obtain ⟨l, rfl, hl⟩ := h
  refine ⟨l, ?_, hl⟩
  unfold wrapE; rw [if_neg (by rw [show isAggT Try.prog 3 = false by kernel_rfl]; simp)]; rfl
theorem all_of {α : Type} {t : TypeId} {k : Nat} {enc : α → AV} {Q : α → Prop} (h1 : ∀ cs, Fits Try.prog k t cs → ∃ x, wrapE Try.prog t cs = enc x ∧ Q x) : ∀ {ys : List AV}, (∀ y ∈ ys, ∃ cs, Fits Try.prog k t cs ∧ y = wrapE Try.prog t cs) → ∃ l : List α, ys = l.map enc ∧ ∀ x ∈ l, Q x
  | [], _ => ⟨[], rfl, by simp⟩
  | y :: ys, h => by
    obtain ⟨l, rfl, hl⟩ := all_of h1 (ys := ys) (fun z hz => h z (by simp [hz]))
    obtain ⟨cs, g1, g2⟩ := h y (by simp)
    obtain ⟨x, e, q⟩ := h1 cs g1
    refine ⟨x :: l, by simp [g2, e], fun z hz => ?_⟩
    rcases List.mem_cons.1 hz with rfl | hz
    · exact q
    · exact hl z hz
theorem row_len {n b : Nat} (hb : 8 ≤ b) (h : n * b ≤ reachBytes) : n ≤ 35184372088832 := by
  have : n * 8 ≤ n * b := Nat.mul_le_mul_left n hb
  have e : reachBytes = 140737488351232 := rfl
  omega
theorem ver_fits {k : Nat} {cs : List AV} (h : Fits Try.prog (k + 2) 108 cs) : ∃ p : Ver, wrapE Try.prog 108 cs = encV p ∧ True := by
  have hw : ∀ cs, wrapE Try.prog 108 cs = .agg cs := fun cs => by
    unfold wrapE; rw [if_pos (by kernel_rfl)]
  rw [hw]
  unfold Fits at h
  rw [Try.underlying108] at h
  obtain ⟨xss, rfl, h⟩ := h
  cases h with | cons h0 h => cases h with | cons h1 h => cases h with | cons h2 h =>
  cases h
  unfold Fits at h0 h1 h2
  simp only at h0 h1 h2
  rw [Try.underlying3] at h0
  rw [Try.underlying9] at h1
  rw [Try.underlying4] at h2
  obtain ⟨n, rfl, hn⟩ := h0
  obtain ⟨v, rfl, hv⟩ := h1
  obtain ⟨d, rfl⟩ := h2
  exact ⟨⟨n, v, d⟩, rfl, trivial⟩
def ItOk (p : It) : Prop := p.1.length ≤ reachBytes ∧ p.2.length ≤ 4398046510976
theorem item_fits {k : Nat} {cs : List AV} (h : Fits Try.prog (k + 4) 50 cs) : ∃ p : It, wrapE Try.prog 50 cs = encI p ∧ ItOk p := by
  have hw : ∀ cs, wrapE Try.prog 50 cs = .agg cs := fun cs => by
    unfold wrapE; rw [if_pos (by kernel_rfl)]
  rw [hw]
  unfold Fits at h
  rw [Try.underlying50] at h
  obtain ⟨xss, rfl, h⟩ := h
  cases h with | cons h0 h => cases h with | cons h1 h =>
  cases h
  unfold Fits at h0 h1
  simp only at h0 h1
  rw [Try.underlying9] at h0
  rw [Try.underlying48] at h1
  obtain ⟨q, rfl, hq⟩ := h0
  obtain ⟨xs, rfl, hlx, hx⟩ := h1
  obtain ⟨l, rfl, -⟩ := all_of (fun cs h => ver_fits h) hx
  have c1 : Try.prog.cellsOf 108 = 3 := by kernel_rfl
  have c2 : Try.prog.bytesOf 108 = 32 := by kernel_rfl
  rw [List.length_map, c2] at hlx
  refine ⟨(q, l), ?_, hq, by have e : reachBytes = 140737488351232 := rfl; simp only; omega⟩
  simp [encI, vAV, c1]
theorem open_items {a : AV} (h : ArgFits Try.prog 5 45 a) : ∃ l : List It, a = .sl 2 (l.map encI) .any ∧ l.length ≤ 35184372088832 ∧ ∀ p ∈ l, ItOk p := by
  obtain ⟨cs, h, rfl⟩ := h
  unfold Fits at h
  rw [Try.underlying45] at h
  obtain ⟨xs, rfl, hlx, hx⟩ := h
  obtain ⟨l, rfl, hl⟩ := all_of (fun cs h => item_fits h) hx
  have c1 : Try.prog.cellsOf 50 = 2 := by kernel_rfl
  have c2 : Try.prog.bytesOf 50 = 40 := by kernel_rfl
  rw [List.length_map, c2] at hlx
  refine ⟨l, ?_, row_len (by decide) hlx, hl⟩
  unfold wrapE; rw [if_neg (by rw [show isAggT Try.prog 45 = false by kernel_rfl]; simp), c1]; rfl
structure Act where
  k : Int
  t : Int
  l : List Ch
instance : Inhabited Act := ⟨⟨0, 0, []⟩⟩
end Go.Proofs.Ytpehfflehebmbaa.Space
end
section
set_option linter.unusedSimpArgs false
set_option linter.unusedVariables false
set_option maxRecDepth 10000
namespace Go.Proofs.Ytpehfflehebmbaa.Txn
open Go Go.Av Go.Proofs Go.Proofs.Ytpehfflehebmbaa.C Go.Proofs.Ytpehfflehebmbaa.Batch Go.Proofs.Ytpehfflehebmbaa.Space Go.Proofs.Ytpehfflehebmbaa.Reads
theorem over_nil : PCalls Try.prog 35 [.sc (.pointer none), .sc (.pointer none)] (.bool false) := pcalls_runY tabV_ok tabV_named noPrims_okY (k := 1000) (by kernel_rfl)
theorem begun_nil : PCalls Try.prog 80 [.sc (.pointer none)] (.bool false) := pcalls_runY tabV_ok tabV_named noPrims_okY (k := 1000) (by kernel_rfl)
theorem fin_cat {l : List Fr} (h : ∀ F ∈ l, F.Fin) : (Go.Av.cat l).Fin := by
  induction l with
  | nil => exact ⟨[], fun id hid => by simp [Go.Av.cat, lay, none'] at hid⟩
  | cons F l ih =>
    obtain ⟨a, ha⟩ := h F (by simp)
    obtain ⟨b, hb⟩ := ih fun G hG => h G (by simp [hG])
    refine ⟨a ++ b, fun id hid => ?_⟩
    simp only [Go.Av.cat, lay_cons] at hid
    cases e : F.o id with
    | some o => exact List.mem_append_left _ (ha id (by rw [e]; rfl))
    | none =>
      rw [e] at hid
      exact List.mem_append_right _ (hb id (by simpa [Go.Av.cat] using hid))
theorem fin_ob (i : Nat) (o : Go.Av.Obj) : (ob i o).Fin := ⟨[i], fun id hid => by
  by_cases e : id = i
  · simp [e]
  · simp [ob, upd, e, none'] at hid⟩
theorem over_nils (F : Fr) (hfin : F.Fin) (s : Nat) : Looks Try.prog 35 [.sc (.pointer none), .ptr s 0] F (.bool false) := by
  refine f35.looks hfin (by simp) fun n m => ?_
  unfold c35
  repeat (first
    | ((first | apply Wp.seqItemsR | apply Wp.itemsR | ((first
        | (refine WpItems.pcall ?_ ?_ (begun_nil) ?_; (· simp only [go_sem, reduceIte, Nat.reduceEqDiff, Nat.reduceAdd, bx]); (· simp only [go_sem, reduceIte, Nat.reduceEqDiff, Nat.reduceAdd, bx, List.map]; first | exact VSubs.refl _ | (repeat (first | exact VSubs.nil | refine VSubs.cons (by first | exact VSub.refl _ | assumption | exact VSub.cap | exact VSub.any _) ?_))))); apply WpItems.evR)); (· simp only [go_sem, reduceIte, Nat.reduceEqDiff, Nat.reduceAdd, bx, ax, if_true, if_false, Nat.reduceMul, Nat.reduceLeDiff, if_true]; exact rfl))
    | (refine WpItems.nil ⟨?_, ?_⟩; (· first | trivial | simp [pairsQ, pairsOk, apart, ent0]))
    | (apply Wp.cond_lit; (· simp only [go_sem, reduceIte, Nat.reduceEqDiff, Nat.reduceAdd, bx, ax, if_true, if_false, Nat.reduceMul, Nat.reduceLeDiff, if_true]; exact rfl); (· rfl))
    | refine Wp.skip ?_
    | refine Wp.label ?_
    | refine Wp.block ?_
    | refine Wp.exit ?_
    | refine Wp.seq ?_)
  exact Wp.ret ⟨trivial, _, rfl, VSub.refl _, rfl⟩
set_option maxHeartbeats 2000000 in
theorem begins_p (l : List It) (hl : l.length ≤ 4611686018427387904) (hv : ∀ p ∈ l, p.2.length ≤ 4398046510976) (last mark t : Int) : PCalls Try.prog 9 [.sl 2 (l.map Space.encI) .any, .int .i64 last, .int .i64 mark, .int .i64 t] (.bool true) := by
  refine f9.pcalls0 (by simp) (by simp [allPure, isPure, capPure, its_pure]) rfl ?_
  unfold c9
  have hil : (l.map Space.encI).length = l.length := by simp
  have hL := lives_p
  by_cases hc : (100 : Int) < (l.length : Int)
  · have d1 := decide_eq_true hc
    repeat (first
      | ((first | apply Wp.seqItemsR | apply Wp.itemsR | ((first
          | (refine WpItems.pcall ?_ ?_ (hL) ?_; (· simp only [go_sem, reduceIte, Nat.reduceEqDiff, Nat.reduceAdd, bx]); (· simp only [go_sem, reduceIte, Nat.reduceEqDiff, Nat.reduceAdd, bx, List.map]; first | exact VSubs.refl _ | (repeat (first | exact VSubs.nil | refine VSubs.cons (by first | exact VSub.refl _ | assumption | exact VSub.cap | exact VSub.any _) ?_))))); apply WpItems.evR)); (· simp only [go_sem, reduceIte, Nat.reduceEqDiff, Nat.reduceAdd, bx, ax, if_true, if_false, Nat.reduceMul, Nat.reduceLeDiff, hil, d1]; exact rfl))
      | (refine WpItems.nil ⟨?_, ?_⟩; (· first | trivial | simp [pairsQ, pairsOk, apart, ent0]))
      | (apply Wp.cond_lit; (· simp only [go_sem, reduceIte, Nat.reduceEqDiff, Nat.reduceAdd, bx, ax, if_true, if_false, Nat.reduceMul, Nat.reduceLeDiff, hil, d1]; exact rfl); (· rfl))
      | refine Wp.skip ?_
      | refine Wp.label ?_
      | refine Wp.block ?_
      | refine Wp.exit ?_
      | refine Wp.seq ?_)
    refine Wp.ret ⟨trivial, _, rfl, ?_⟩
    simp only [go_sem, reduceIte, Nat.reduceEqDiff, Nat.reduceAdd, bx]
    exact VSub.refl _
  have d1 := decide_eq_false hc
  have hl1 : l.length ≤ 500000 := by omega
  have hv1 : ∀ p ∈ l, p.2.length ≤ 4398046511104 := fun p hp => by have := hv p hp; omega
  have hlg := load_g l hl1 hv1 last mark
  have hlr := loadR_p l hl1 hv1 last mark
  cases hld : ldB l last mark with
  | false =>
    simp only [hld, Bool.false_eq_true, if_false] at hlg hlr
    have d4 : decide ((4 : Int) = 0) = false := rfl
    have ok0 := Ok.nil.more (.cells [.sl 2 ([].map Space.encI) .any, .int .i64 0, .int .i64 0]) (n := 0) (T := []) (m := 0)
    unfold encS at hlr
    repeat (first
      | ((first | apply Wp.seqItemsR | apply Wp.itemsR | ((first
          | (refine WpItems.pcall ?_ ?_ (hlr) ?_; (· simp only [go_sem, reduceIte, Nat.reduceEqDiff, Nat.reduceAdd, bx]); (· simp only [go_sem, reduceIte, Nat.reduceEqDiff, Nat.reduceAdd, bx, List.map]; first | exact VSubs.refl _ | (repeat (first | exact VSubs.nil | refine VSubs.cons (by first | exact VSub.refl _ | assumption | exact VSub.cap | exact VSub.any _) ?_))))); apply WpItems.evR)); (· simp only [go_sem, reduceIte, Nat.reduceEqDiff, Nat.reduceAdd, bx, ax, if_true, if_false, Nat.reduceMul, Nat.reduceLeDiff, hil, d1]; exact rfl))
      | (refine WpItems.nil ⟨?_, ?_⟩; (· first | trivial | simp [pairsQ, pairsOk, apart, ent0]))
      | (apply Wp.cond_lit; (· simp only [go_sem, reduceIte, Nat.reduceEqDiff, Nat.reduceAdd, bx, ax, if_true, if_false, Nat.reduceMul, Nat.reduceLeDiff, hil, d1]; exact rfl); (· rfl))
      | refine Wp.skip ?_
      | refine Wp.label ?_
      | refine Wp.block ?_
      | refine Wp.exit ?_
      | refine Wp.seq ?_)
    show WpItems _ _ _ _ ⟨upd (upd (lay []) 0 _) 0 _, 1, [], 0⟩ _ _
    rw [upd_new, upd_ob]
    refine WpItems.gcallI [_] [] [] (by simp only [go_sem]) (by simp only [go_sem, reduceIte, Nat.reduceEqDiff, List.map]; exact VSubs.refl _) hlg ok0 fun r G' n1 T1 m1 ids1 hq1 on1 hids1 => ?_
    obtain ⟨rfl, rfl⟩ := hq1
    simp only [List.cons_append, List.nil_append, List.append_nil] at on1 ⊢
    refine WpItems.evR (by simp only [go_sem, reduceIte, Nat.reduceEqDiff, Nat.reduceAdd, bx]; exact rfl) ?_
    repeat (first
      | ((first | apply Wp.seqItemsR | apply Wp.itemsR | ((first
          | (refine WpItems.pcall ?_ ?_ (hL) ?_; (· simp only [go_sem, reduceIte, Nat.reduceEqDiff, Nat.reduceAdd, bx]); (· simp only [go_sem, reduceIte, Nat.reduceEqDiff, Nat.reduceAdd, bx, List.map]; first | exact VSubs.refl _ | (repeat (first | exact VSubs.nil | refine VSubs.cons (by first | exact VSub.refl _ | assumption | exact VSub.cap | exact VSub.any _) ?_))))); apply WpItems.evR)); (· simp only [go_sem, reduceIte, Nat.reduceEqDiff, Nat.reduceAdd, bx, ax, if_true, if_false, Nat.reduceMul, Nat.reduceLeDiff, d4]; exact rfl))
      | (refine WpItems.nil ⟨?_, ?_⟩; (· first | trivial | simp [pairsQ, pairsOk, apart, ent0]))
      | (apply Wp.cond_lit; (· simp only [go_sem, reduceIte, Nat.reduceEqDiff, Nat.reduceAdd, bx, ax, if_true, if_false, Nat.reduceMul, Nat.reduceLeDiff, d4]; exact rfl); (· rfl))
      | refine Wp.skip ?_
      | refine Wp.label ?_
      | refine Wp.block ?_
      | refine Wp.exit ?_
      | refine Wp.seq ?_)
    refine Wp.ret ⟨trivial, _, rfl, ?_⟩
    simp only [go_sem, reduceIte, Nat.reduceEqDiff, Nat.reduceAdd, bx]
    exact VSub.refl _
  | true =>
    simp only [hld, if_true] at hlg hlr
    have hri := ld_rise hld
    rw [layL_self hri.1 hri.2] at hlg
    have hW : Wide ⟨l, last, mark⟩ := ⟨by simp only; omega, fun q => mget_len (k := 4398046511104) hv1 q⟩
    have d4 : decide ((0 : Int) = 0) = true := rfl
    have hbr := beginR_p ⟨l, last, mark⟩ hW t
    have ok0 := Ok.nil.more (.cells [.sl 2 (l.map Space.encI) .any, .int .i64 last, .int .i64 mark]) (n := 0) (T := []) (m := 0)
    unfold encS at hlr hbr
    repeat (first
      | ((first | apply Wp.seqItemsR | apply Wp.itemsR | ((first
          | (refine WpItems.pcall ?_ ?_ (hlr) ?_; (· simp only [go_sem, reduceIte, Nat.reduceEqDiff, Nat.reduceAdd, bx]); (· simp only [go_sem, reduceIte, Nat.reduceEqDiff, Nat.reduceAdd, bx, List.map]; first | exact VSubs.refl _ | (repeat (first | exact VSubs.nil | refine VSubs.cons (by first | exact VSub.refl _ | assumption | exact VSub.cap | exact VSub.any _) ?_))))); apply WpItems.evR)); (· simp only [go_sem, reduceIte, Nat.reduceEqDiff, Nat.reduceAdd, bx, ax, if_true, if_false, Nat.reduceMul, Nat.reduceLeDiff, hil, d1]; exact rfl))
      | (refine WpItems.nil ⟨?_, ?_⟩; (· first | trivial | simp [pairsQ, pairsOk, apart, ent0]))
      | (apply Wp.cond_lit; (· simp only [go_sem, reduceIte, Nat.reduceEqDiff, Nat.reduceAdd, bx, ax, if_true, if_false, Nat.reduceMul, Nat.reduceLeDiff, hil, d1]; exact rfl); (· rfl))
      | refine Wp.skip ?_
      | refine Wp.label ?_
      | refine Wp.block ?_
      | refine Wp.exit ?_
      | refine Wp.seq ?_)
    show WpItems _ _ _ _ ⟨upd (upd (lay []) 0 _) 0 _, 1, [], 0⟩ _ _
    rw [upd_new, upd_ob]
    refine WpItems.gcallI [_] [] [] (by simp only [go_sem]) (by simp only [go_sem, reduceIte, Nat.reduceEqDiff, List.map]; exact VSubs.refl _) hlg ok0 fun r G' n1 T1 m1 ids1 hq1 on1 hids1 => ?_
    obtain ⟨s, F, rfl, rfl, hSF⟩ := hq1
    simp only [List.cons_append, List.nil_append, List.append_nil] at on1 ⊢
    obtain ⟨c1, M1, K1, hM1, hsc1, hs1, hc1, hK1⟩ := hSF.go
    have gb : ∀ L, lay (ob 0 (.cells [.sl 2 (l.map Space.encI) .any, .int .i64 last, .int .i64 mark]) :: L) 0 = some (.cells [.sl 2 (l.map Space.encI) .any, .int .i64 last, .int .i64 mark]) := fun L => lay_ob_at 0 _ L
    refine WpItems.evR (by simp only [go_sem, reduceIte, Nat.reduceEqDiff, Nat.reduceAdd, bx]; exact rfl) ?_
    by_cases hb : keptB ⟨l, last, mark⟩ t = 0
    · have hbg := begin_g hSF hW t hb
      rw [if_pos hb, hb] at hbr
      repeat (first
        | ((first | apply Wp.seqItemsR | apply Wp.itemsR); (· simp only [go_sem, reduceIte, Nat.reduceEqDiff, Nat.reduceAdd, bx, ax, if_true, if_false, Nat.reduceMul, Nat.reduceLeDiff, d4]; exact rfl))
        | (refine WpItems.nil ⟨?_, ?_⟩; (· first | trivial | simp [pairsQ, pairsOk, apart, ent0]))
        | (apply Wp.cond_lit; (· simp only [go_sem, reduceIte, Nat.reduceEqDiff, Nat.reduceAdd, bx, ax, if_true, if_false, Nat.reduceMul, Nat.reduceLeDiff, d4]; exact rfl); (· rfl))
        | refine Wp.skip ?_
        | refine Wp.label ?_
        | refine Wp.block ?_
        | refine Wp.exit ?_
        | refine Wp.seq ?_)
      refine WpItems.gcallI [_] [F] [] (by simp only [go_sem]) (by simp only [go_sem, reduceIte, Nat.reduceEqDiff, List.map]; exact VSubs.refl _) hbg on1.ok fun r G' n2 T2 m2 ids2 hq2 on2 hids2 => ?_
      obtain ⟨x, Fx, rfl, rfl, hx⟩ := hq2
      simp only [List.cons_append, List.nil_append, List.append_nil] at on2 ⊢
      refine WpItems.evR (by simp only [go_sem, reduceIte, Nat.reduceEqDiff, Nat.reduceAdd, bx]; exact rfl) ?_
      repeat (first
        | ((first | apply Wp.seqItemsR | apply Wp.itemsR | ((first
            | (refine WpItems.pcall ?_ ?_ (hbr) ?_; (· simp only [go_sem, reduceIte, Nat.reduceEqDiff, Nat.reduceAdd, bx]); (· simp only [go_sem, reduceIte, Nat.reduceEqDiff, Nat.reduceAdd, bx, List.map]; first | exact VSubs.refl _ | (repeat (first | exact VSubs.nil | refine VSubs.cons (by first | exact VSub.refl _ | assumption | exact VSub.cap | exact VSub.any _) ?_))))); apply WpItems.evR)); (· simp only [go_sem, reduceIte, Nat.reduceEqDiff, Nat.reduceAdd, bx, ax, if_true, if_false, Nat.reduceMul, Nat.reduceLeDiff, gb, encT0]; exact rfl))
        | (refine WpItems.nil ⟨?_, ?_⟩; (· first | trivial | simp [pairsQ, pairsOk, apart, ent0]))
        | (apply Wp.cond_lit; (· simp only [go_sem, reduceIte, Nat.reduceEqDiff, Nat.reduceAdd, bx, ax, if_true, if_false, Nat.reduceMul, Nat.reduceLeDiff, gb, encT0]; exact rfl); (· rfl))
        | refine Wp.skip ?_
        | refine Wp.label ?_
        | refine Wp.block ?_
        | refine Wp.exit ?_
        | refine Wp.seq ?_)
      rw [upd_new, upd_ob]
      have ok3 := on2.ok.more (.cells [.int .i64 t, .sl 3 [] (.exact 0), .sl 1 [] (.exact 0), .sl 2 [] (.exact 0), .bool false])
      have gs := ok3.sub (F := F) (by simp) _ _ hs1
      have hfin := fin_cat (l := [ob n2 (.cells [.int .i64 t, .sl 3 [] (.exact 0), .sl 1 [] (.exact 0), .sl 2 [] (.exact 0), .bool false]), ob 0 (.cells [.sl 2 (l.map Space.encI) .any, .int .i64 last, .int .i64 mark]), Fx, F]) (fun G hG => by
        simp only [List.mem_cons, List.not_mem_nil, or_false] at hG
        rcases hG with rfl | rfl | rfl | rfl
        · exact fin_ob _ _
        · exact fin_ob _ _
        · exact hx.fin
        · exact hSF.fin)
      have hov := over_r hx (l := [ob n2 (.cells [.int .i64 t, .sl 3 [] (.exact 0), .sl 1 [] (.exact 0), .sl 2 [] (.exact 0), .bool false]), ob 0 (.cells [.sl 2 (l.map Space.encI) .any, .int .i64 last, .int .i64 mark]), Fx, F]) (by simp) hfin gs gs (ok3.sub (by simp))
      rw [decide_eq_true rfl] at hov
      repeat (first
        | ((first | apply Wp.seqItemsR | apply Wp.itemsR | ((first
            | (refine WpItems.glook ?_ ?_ (hov) (by first | exact fun j o h => h | exact ok.sub (by simp) | assumption) (fun ids => ?_); (· simp only [go_sem, reduceIte, Nat.reduceEqDiff, Nat.reduceAdd, bx]); (· simp only [go_sem, reduceIte, Nat.reduceEqDiff, Nat.reduceAdd, bx, List.map]; first | exact VSubs.refl _ | (repeat (first | exact VSubs.nil | refine VSubs.cons (by first | exact VSub.refl _ | assumption | exact VSub.cap | exact VSub.any _) ?_))))); apply WpItems.evR)); (· simp only [go_sem, reduceIte, Nat.reduceEqDiff, Nat.reduceAdd, bx, ax, if_true, if_false, Nat.reduceMul, Nat.reduceLeDiff, d4]; exact rfl))
        | (refine WpItems.nil ⟨?_, ?_⟩; (· first | trivial | simp [pairsQ, pairsOk, apart, ent0]))
        | (apply Wp.cond_lit; (· simp only [go_sem, reduceIte, Nat.reduceEqDiff, Nat.reduceAdd, bx, ax, if_true, if_false, Nat.reduceMul, Nat.reduceLeDiff, d4]; exact rfl); (· rfl))
        | refine Wp.skip ?_
        | refine Wp.label ?_
        | refine Wp.block ?_
        | refine Wp.exit ?_
        | refine Wp.seq ?_)
      refine WpItems.gcallI [_, _, _] [F] [] (by simp only [go_sem, bx, reduceIte, Nat.reduceEqDiff]) (by simp only [go_sem, reduceIte, Nat.reduceEqDiff, List.map]; exact VSubs.refl _) (copy_w hSF hri.1 hW) ok3 fun r G' n4 T4 m4 ids4 hq4 on4 hids4 => ?_
      obtain ⟨s', F', rfl, rfl, hF'⟩ := hq4
      simp only [List.cons_append, List.nil_append, List.append_nil] at on4 ⊢
      obtain ⟨c2, M2, K2, hM2, hsc2, hs2, hc2, hK2⟩ := hF'.go
      have ok4 := on4.ok
      have gs4 := ok4.sub (F := F) (by simp) _ _ hs1
      have gs5 := ok4.sub (F := F') (by simp) _ _ hs2
      have hne : ¬ s = s' := by
        rintro rfl
        have hd := (List.pairwise_cons.1 (List.pairwise_cons.1 (List.pairwise_cons.1 ok4.dj).2).2).2
        rcases (List.pairwise_cons.1 hd).1 F (by simp) s with h | h
        · rw [hs2] at h; cases h
        · rw [hs1] at h; cases h
      have hfin4 := fin_cat (l := [ob n2 (.cells [.int .i64 t, .sl 3 [] (.exact 0), .sl 1 [] (.exact 0), .sl 2 [] (.exact 0), .bool false]), ob 0 (.cells [.sl 2 (l.map Space.encI) .any, .int .i64 last, .int .i64 mark]), Fx, F', F]) (fun G hG => by
        simp only [List.mem_cons, List.not_mem_nil, or_false] at hG
        rcases hG with rfl | rfl | rfl | rfl | rfl
        · exact fin_ob _ _
        · exact fin_ob _ _
        · exact hx.fin
        · exact hF'.fin
        · exact hSF.fin)
      have hov4 := over_r hx (l := [ob n2 (.cells [.int .i64 t, .sl 3 [] (.exact 0), .sl 1 [] (.exact 0), .sl 2 [] (.exact 0), .bool false]), ob 0 (.cells [.sl 2 (l.map Space.encI) .any, .int .i64 last, .int .i64 mark]), Fx, F', F]) (by simp) hfin4 gs4 gs5 (ok4.sub (by simp))
      rw [decide_eq_false hne] at hov4
      have hovn := over_n hx
      have ok := ok4
      repeat (first
        | ((first | apply Wp.seqItemsR | apply Wp.itemsR | ((first
            | (refine WpItems.glook ?_ ?_ (hov4) (by first | exact fun j o h => h | exact ok.sub (by simp) | assumption) (fun ids => ?_); (· simp only [go_sem, reduceIte, Nat.reduceEqDiff, Nat.reduceAdd, bx]); (· simp only [go_sem, reduceIte, Nat.reduceEqDiff, Nat.reduceAdd, bx, List.map]; first | exact VSubs.refl _ | (repeat (first | exact VSubs.nil | refine VSubs.cons (by first | exact VSub.refl _ | assumption | exact VSub.cap | exact VSub.any _) ?_))))
            | (refine WpItems.glook ?_ ?_ (hovn) (by first | exact fun j o h => h | exact ok.sub (by simp) | assumption) (fun ids => ?_); (· simp only [go_sem, reduceIte, Nat.reduceEqDiff, Nat.reduceAdd, bx]); (· simp only [go_sem, reduceIte, Nat.reduceEqDiff, Nat.reduceAdd, bx, List.map]; first | exact VSubs.refl _ | (repeat (first | exact VSubs.nil | refine VSubs.cons (by first | exact VSub.refl _ | assumption | exact VSub.cap | exact VSub.any _) ?_))))
            | (refine WpItems.pcall ?_ ?_ (hL) ?_; (· simp only [go_sem, reduceIte, Nat.reduceEqDiff, Nat.reduceAdd, bx]); (· simp only [go_sem, reduceIte, Nat.reduceEqDiff, Nat.reduceAdd, bx, List.map]; first | exact VSubs.refl _ | (repeat (first | exact VSubs.nil | refine VSubs.cons (by first | exact VSub.refl _ | assumption | exact VSub.cap | exact VSub.any _) ?_))))); apply WpItems.evR)); (· simp only [go_sem, reduceIte, Nat.reduceEqDiff, Nat.reduceAdd, bx, ax, if_true, if_false, Nat.reduceMul, Nat.reduceLeDiff, d4]; exact rfl))
        | (refine WpItems.nil ⟨?_, ?_⟩; (· first | trivial | simp [pairsQ, pairsOk, apart, ent0]))
        | (apply Wp.cond_lit; (· simp only [go_sem, reduceIte, Nat.reduceEqDiff, Nat.reduceAdd, bx, ax, if_true, if_false, Nat.reduceMul, Nat.reduceLeDiff, d4]; exact rfl); (· rfl))
        | refine Wp.skip ?_
        | refine Wp.label ?_
        | refine Wp.block ?_
        | refine Wp.exit ?_
        | refine Wp.seq ?_)
      refine Wp.ret ⟨trivial, _, rfl, ?_⟩
      simp only [go_sem, reduceIte, Nat.reduceEqDiff, Nat.reduceAdd, bx]
      exact VSub.refl _
    · have hbg := begin_n hSF hW t hb
      rw [if_neg hb] at hbr
      have d5 := decide_eq_false hb
      have d6 : decide (keptB ⟨l, last, mark⟩ t = keptB ⟨l, last, mark⟩ t) = true := decide_eq_true rfl
      repeat (first
        | ((first | apply Wp.seqItemsR | apply Wp.itemsR); (· simp only [go_sem, reduceIte, Nat.reduceEqDiff, Nat.reduceAdd, bx, ax, if_true, if_false, Nat.reduceMul, Nat.reduceLeDiff, d4]; exact rfl))
        | (refine WpItems.nil ⟨?_, ?_⟩; (· first | trivial | simp [pairsQ, pairsOk, apart, ent0]))
        | (apply Wp.cond_lit; (· simp only [go_sem, reduceIte, Nat.reduceEqDiff, Nat.reduceAdd, bx, ax, if_true, if_false, Nat.reduceMul, Nat.reduceLeDiff, d4]; exact rfl); (· rfl))
        | refine Wp.skip ?_
        | refine Wp.label ?_
        | refine Wp.block ?_
        | refine Wp.exit ?_
        | refine Wp.seq ?_)
      refine WpItems.gcallI [_] [F] [] (by simp only [go_sem]) (by simp only [go_sem, reduceIte, Nat.reduceEqDiff, List.map]; exact VSubs.refl _) hbg on1.ok fun r G' n2 T2 m2 ids2 hq2 on2 hids2 => ?_
      obtain ⟨rfl, rfl⟩ := hq2
      simp only [List.cons_append, List.nil_append, List.append_nil] at on2 ⊢
      refine WpItems.evR (by simp only [go_sem, reduceIte, Nat.reduceEqDiff, Nat.reduceAdd, bx]; exact rfl) ?_
      repeat (first
        | ((first | apply Wp.seqItemsR | apply Wp.itemsR | ((first
            | (refine WpItems.pcall ?_ ?_ (hbr) ?_; (· simp only [go_sem, reduceIte, Nat.reduceEqDiff, Nat.reduceAdd, bx]); (· simp only [go_sem, reduceIte, Nat.reduceEqDiff, Nat.reduceAdd, bx, List.map]; first | exact VSubs.refl _ | (repeat (first | exact VSubs.nil | refine VSubs.cons (by first | exact VSub.refl _ | assumption | exact VSub.cap | exact VSub.any _) ?_))))); apply WpItems.evR)); (· simp only [go_sem, reduceIte, Nat.reduceEqDiff, Nat.reduceAdd, bx, ax, if_true, if_false, Nat.reduceMul, Nat.reduceLeDiff, gb, encT0]; exact rfl))
        | (refine WpItems.nil ⟨?_, ?_⟩; (· first | trivial | simp [pairsQ, pairsOk, apart, ent0]))
        | (apply Wp.cond_lit; (· simp only [go_sem, reduceIte, Nat.reduceEqDiff, Nat.reduceAdd, bx, ax, if_true, if_false, Nat.reduceMul, Nat.reduceLeDiff, gb, encT0]; exact rfl); (· rfl))
        | refine Wp.skip ?_
        | refine Wp.label ?_
        | refine Wp.block ?_
        | refine Wp.exit ?_
        | refine Wp.seq ?_)
      rw [upd_new, upd_ob]
      have ok3 := on2.ok.more (.cells [.int .i64 0, .sl 3 [] (.exact 0), .sl 1 [] (.exact 0), .sl 2 [] (.exact 0), .bool false])
      have hov := over_nils F hSF.fin s
      have ok := ok3
      repeat (first
        | ((first | apply Wp.seqItemsR | apply Wp.itemsR | ((first
            | (refine WpItems.glook ?_ ?_ (hov) (by first | exact fun j o h => h | exact ok.sub (by simp) | assumption) (fun ids => ?_); (· simp only [go_sem, reduceIte, Nat.reduceEqDiff, Nat.reduceAdd, bx]); (· simp only [go_sem, reduceIte, Nat.reduceEqDiff, Nat.reduceAdd, bx, List.map]; first | exact VSubs.refl _ | (repeat (first | exact VSubs.nil | refine VSubs.cons (by first | exact VSub.refl _ | assumption | exact VSub.cap | exact VSub.any _) ?_))))); apply WpItems.evR)); (· simp only [go_sem, reduceIte, Nat.reduceEqDiff, Nat.reduceAdd, bx, ax, if_true, if_false, Nat.reduceMul, Nat.reduceLeDiff, d5, d6]; exact rfl))
        | (refine WpItems.nil ⟨?_, ?_⟩; (· first | trivial | simp [pairsQ, pairsOk, apart, ent0]))
        | (apply Wp.cond_lit; (· simp only [go_sem, reduceIte, Nat.reduceEqDiff, Nat.reduceAdd, bx, ax, if_true, if_false, Nat.reduceMul, Nat.reduceLeDiff, d5, d6]; exact rfl); (· rfl))
        | refine Wp.skip ?_
        | refine Wp.label ?_
        | refine Wp.block ?_
        | refine Wp.exit ?_
        | refine Wp.seq ?_)
      refine WpItems.gcallI [_, _] [F] [] (by simp only [go_sem, bx, reduceIte, Nat.reduceEqDiff]) (by simp only [go_sem, reduceIte, Nat.reduceEqDiff, List.map]; exact VSubs.refl _) (copy_w hSF hri.1 hW) ok3 fun r G' n4 T4 m4 ids4 hq4 on4 hids4 => ?_
      obtain ⟨s', F', rfl, rfl, hF'⟩ := hq4
      simp only [List.cons_append, List.nil_append, List.append_nil] at on4 ⊢
      have hov4 := over_nils F' hF'.fin s'
      have hovn := over_nil
      have ok := on4.ok
      repeat (first
        | ((first | apply Wp.seqItemsR | apply Wp.itemsR | ((first
            | (refine WpItems.glook ?_ ?_ (hov4) (by first | exact fun j o h => h | exact ok.sub (by simp) | assumption) (fun ids => ?_); (· simp only [go_sem, reduceIte, Nat.reduceEqDiff, Nat.reduceAdd, bx]); (· simp only [go_sem, reduceIte, Nat.reduceEqDiff, Nat.reduceAdd, bx, List.map]; first | exact VSubs.refl _ | (repeat (first | exact VSubs.nil | refine VSubs.cons (by first | exact VSub.refl _ | assumption | exact VSub.cap | exact VSub.any _) ?_))))
            | (refine WpItems.pcall ?_ ?_ (hovn) ?_; (· simp only [go_sem, reduceIte, Nat.reduceEqDiff, Nat.reduceAdd, bx]); (· simp only [go_sem, reduceIte, Nat.reduceEqDiff, Nat.reduceAdd, bx, List.map]; first | exact VSubs.refl _ | (repeat (first | exact VSubs.nil | refine VSubs.cons (by first | exact VSub.refl _ | assumption | exact VSub.cap | exact VSub.any _) ?_))))
            | (refine WpItems.pcall ?_ ?_ (hL) ?_; (· simp only [go_sem, reduceIte, Nat.reduceEqDiff, Nat.reduceAdd, bx]); (· simp only [go_sem, reduceIte, Nat.reduceEqDiff, Nat.reduceAdd, bx, List.map]; first | exact VSubs.refl _ | (repeat (first | exact VSubs.nil | refine VSubs.cons (by first | exact VSub.refl _ | assumption | exact VSub.cap | exact VSub.any _) ?_))))); apply WpItems.evR)); (· simp only [go_sem, reduceIte, Nat.reduceEqDiff, Nat.reduceAdd, bx, ax, if_true, if_false, Nat.reduceMul, Nat.reduceLeDiff, d5, d6]; exact rfl))
        | (refine WpItems.nil ⟨?_, ?_⟩; (· first | trivial | simp [pairsQ, pairsOk, apart, ent0]))
        | (apply Wp.cond_lit; (· simp only [go_sem, reduceIte, Nat.reduceEqDiff, Nat.reduceAdd, bx, ax, if_true, if_false, Nat.reduceMul, Nat.reduceLeDiff, d5, d6]; exact rfl); (· rfl))
        | refine Wp.skip ?_
        | refine Wp.label ?_
        | refine Wp.block ?_
        | refine Wp.exit ?_
        | refine Wp.seq ?_)
      refine Wp.ret ⟨trivial, _, rfl, ?_⟩
      simp only [go_sem, reduceIte, Nat.reduceEqDiff, Nat.reduceAdd, bx]
      exact VSub.refl _
theorem law_TxnBegins {b : Nat} (avs : List AV) (h : All2 (ArgFits Try.prog 5) Try.f9.params.toList avs) (_ : bulkAs avs ≤ b) : PCalls Try.prog 9 avs (.bool true) := by
  rw [Try.params9] at h
  cases h with | cons h0 h => cases h with | cons h1 h => cases h with | cons h2 h => cases h with | cons h3 h =>
  cases h
  obtain ⟨l, rfl, hl, hv⟩ := open_items h0
  obtain ⟨a, rfl, -⟩ := open_i h1
  obtain ⟨m, rfl, -⟩ := open_i h2
  obtain ⟨t, rfl, -⟩ := open_i h3
  exact begins_p l (by omega) (fun p hp => by have := (hv p hp).2; omega) a m t
end Go.Proofs.Ytpehfflehebmbaa.Txn
end
section
set_option linter.unusedSimpArgs false
set_option linter.unusedVariables false
namespace Go.Proofs.Ytpehfflehebmbaa.Txn
open Go Go.Av Go.Proofs Go.Proofs.Ytpehfflehebmbaa.C Go.Proofs.Ytpehfflehebmbaa.Space
open Go.ChangeShapes Go.WideShapes Go.ChangeAt Go.RowKit
set_option maxRecDepth 100000 in
theorem lifted_TxnBegins (os : Os) (started : os.Started) (H : Type) (enc : TypeId × Value → H) :
    ReturnsInHanded {} Try.checked os 9 .any (Rows.txnBeginsSpec.pre6 enc Try.prog Try.f9 Rows.txnBeginsRow.domain false) (Rows.txnBeginsSpec.post enc Try.prog Try.f9 false true false false) := by
  refine returnsInHanded_of_change_sized (C := Try.checked) own started (by kernel_rfl) Try.func9
    (ChangeSpec.witness6 (enc := enc) (C := Try.checked) false ⟨#[], #[.slice none 0 0, .int .i64 0, .int .i64 0, .int .i64 0], []⟩ 8 (by kernel_rfl) (by kernel_rfl) (by kernel_rfl) (by kernel_rfl)) ?_
  intro W base args ds gs before hval hW _ hwt _
  exact calls_row laid bulk rowed full rfl (fun l hl => by match l, hl with | [_, _, _, _], _ => rfl) rfl Try.underlying4 (by kernel_rfl) (by kernel_rfl) hval hW hwt (fun avs h hb => law_TxnBegins avs h hb)
theorem said_TxnBegins : Rows.TxnBeginsSaid :=
  OpenClaim.holds_of_wide 9 Try.f9 rfl rfl rfl rfl rfl rfl rfl ⟨rfl, rfl, rfl, rfl, rfl⟩ rfl rfl rfl rfl rfl (by kernel_rfl) Try.func9 (by kernel_rfl)
    (of_decide_eq_true (by kernel_rfl)) (by unfold Func.isWrapper; first | (rw [if_pos (by decide +kernel)]; kernel_rfl) | (rw [if_neg (by decide +kernel)]; exact ⟨rfl, rfl⟩))
    (fun os started H enc _ => lifted_TxnBegins os started H enc)
#print axioms said_TxnBegins
end Go.Proofs.Ytpehfflehebmbaa.Txn
end
