/- Chapter 15: what a record is read as: plain data. -/
import Derived.Test.YtlefnohibjcekaaBatchM
import Derived.Test.YtlefnohibjcekaaBatchL
set_option linter.unusedSimpArgs false
set_option linter.unusedVariables false
set_option maxRecDepth 10000
namespace Go.Proofs.Ytlefnohibjcekaa.Batch
open Go Go.Av Go.Proofs Go.Proofs.Ytlefnohibjcekaa.C

theorem val_cons (c : UInt8) (l : List UInt8) : val (c :: l) = c.toNat * 256 ^ l.length + val l := by
  have key : ∀ (l : List UInt8) (a : Nat), l.foldl (fun n c => n * 256 + c.toNat) a = a * 256 ^ l.length + val l := by
    intro l
    induction l with
    | nil => intro a; simp [val]
    | cons c l ih =>
      intro a
      rw [List.foldl_cons, ih, List.length_cons, Nat.pow_succ]
      have : val (c :: l) = c.toNat * 256 ^ l.length + val l := by
        show List.foldl _ (0 * 256 + c.toNat) l = _
        rw [ih]; simp
      rw [this, Nat.add_mul, Nat.mul_assoc, Nat.mul_comm 256 (256 ^ l.length)]
      omega
  show List.foldl _ (0 * 256 + c.toNat) l = _
  rw [key]; simp
theorem be_mod : ∀ (n v k : Nat), be n (k * 256 ^ n + v) = be n v
  | 0, v, k => rfl
  | n + 1, v, k => by
    have e : k * 256 ^ (n + 1) = (k * 256) * 256 ^ n := by rw [Nat.pow_succ, Nat.mul_comm (256 ^ n) 256, Nat.mul_assoc]
    rw [be, be, e, be_mod n v (k * 256)]
    congr 1
    have hp : 0 < 256 ^ n := Nat.pow_pos (by omega)
    rw [Nat.add_comm, Nat.add_mul_div_right _ _ hp]
    apply UInt8.toNat_inj.1
    simp only [UInt8.toNat_ofNat']
    omega
theorem be_val : ∀ (l : List UInt8), be l.length (val l) = l
  | [] => rfl
  | c :: l => by
    rw [List.length_cons, be, val_cons, be_mod, be_val l]
    congr 1
    have hp : 0 < 256 ^ l.length := Nat.pow_pos (by omega)
    rw [Nat.add_comm, Nat.add_mul_div_right _ _ hp, Nat.div_eq_of_lt (val_lt l), Nat.zero_add]
    exact UInt8.ofNat_toNat

theorem val_be : ∀ (w v : Nat), v < 256 ^ w → val (be w v) = v
  | 0, v, h => by simp at h; subst h; rfl
  | w + 1, v, h => by
    have hp : 0 < 256 ^ w := Nat.pow_pos (by omega)
    have e : be w v = be w (v % 256 ^ w) := by
      conv => lhs; rw [← Nat.div_add_mod v (256 ^ w), Nat.mul_comm]
      exact be_mod w _ _
    rw [be, val_cons, be_length, e, val_be w _ (Nat.mod_lt _ hp)]
    have hq : v / 256 ^ w < 256 := by
      rw [Nat.div_lt_iff_lt_mul hp]
      rw [Nat.pow_succ, Nat.mul_comm] at h
      exact h
    generalize hQ : v / 256 ^ w = Q at *
    have : (UInt8.ofNat Q).toNat = Q := by simp only [UInt8.toNat_ofNat']; omega
    rw [this, Nat.mul_comm, ← hQ]
    exact Nat.div_add_mod v (256 ^ w)

def bt (s : Bs) (i : Nat) : UInt8 := s.getD i 0
def ptext (s : Bs) (i : Nat) : Option (Bs × Nat) := if i < s.length ∧ i + 1 + (bt s i).toNat ≤ s.length then some ((s.take (i + 1 + (bt s i).toNat)).drop (i + 1), i + 1 + (bt s i).toNat) else none

theorem be_one (n : Nat) : be 1 n = [UInt8.ofNat n] := by simp [be]
theorem drop_bt {s : Bs} {i : Nat} (h : i < s.length) : s.drop i = bt s i :: s.drop (i + 1) := by
  rw [List.drop_eq_getElem_cons h, bt, getD0 h]
theorem cut_split (s : Bs) (i e : Nat) (h : i ≤ e) : s.drop i = (s.take e).drop i ++ s.drop e := by
  conv => lhs; rw [← List.take_append_drop e s]
  by_cases he : e ≤ s.length
  · rw [List.drop_append_of_le_length (by simp; omega)]
  · rw [List.drop_eq_nil_of_le (show s.length ≤ e by omega), List.append_nil, List.append_nil]

theorem ptext_some {s k : Bs} {i e : Nat} (h : ptext s i = some (k, e)) : i < s.length ∧ e ≤ s.length ∧ e = i + 1 + k.length ∧ k.length < 256 ∧ s.drop i = be 1 k.length ++ k ++ s.drop e := by
  unfold ptext at h
  split at h
  · rename_i hc
    obtain ⟨h1, h2⟩ := hc
    simp only [Option.some.injEq, Prod.mk.injEq] at h
    obtain ⟨rfl, rfl⟩ := h
    have lk : ((s.take (i + 1 + (bt s i).toNat)).drop (i + 1)).length = (bt s i).toNat := by simp; omega
    have hb := (bt s i).toNat_lt
    refine ⟨h1, h2, by omega, by omega, ?_⟩
    rw [lk, drop_bt h1, cut_split s (i + 1) (i + 1 + (bt s i).toNat) (by omega), be_one]
    simp
  · cases h

theorem ptext_mk (A k Z : Bs) (hk : k.length < 256) : ptext (A ++ be 1 k.length ++ k ++ Z) A.length = some (k, A.length + 1 + k.length) := by
  have hb : bt (A ++ be 1 k.length ++ k ++ Z) A.length = UInt8.ofNat k.length := by
    unfold bt
    rw [List.getD_eq_getElem?_getD, List.append_assoc, List.append_assoc, List.getElem?_append_right (Nat.le_refl _), Nat.sub_self, be_one]
    rfl
  have hn : (UInt8.ofNat k.length).toNat = k.length := by simp only [UInt8.toNat_ofNat']; omega
  unfold ptext
  rw [hb, hn, if_pos (by simp [be_length]; omega)]
  congr 2
  have e : A ++ be 1 k.length ++ k ++ Z = (A ++ be 1 k.length) ++ (k ++ Z) := by simp
  have l1 : (A ++ be 1 k.length).length = A.length + 1 := by simp [be_length]
  rw [e, List.take_append, List.drop_append, l1]
  rw [List.take_of_length_le (by omega), List.drop_eq_nil_of_le (by omega), List.nil_append, show A.length + 1 + k.length - (A.length + 1) = k.length by omega, l1, Nat.sub_self, List.drop_zero]
  exact List.take_left' rfl

def pgo (s : Bs) : Nat → Nat → List Ch → Option (List Ch × Nat)
  | 0, i, l => some (l, i)
  | n + 1, i, l => if i < s.length ∧ (bt s i).toNat ≤ 1 then
      match ptext s (i + 1) with
      | some (k, a) => match ptext s a with
        | some (v, e) => pgo s n e (l ++ [⟨k, v, decide ((bt s i).toNat = 1)⟩])
        | none => none
      | none => none
    else none

def pieceR (s : Bs) (i : Int) : Bs × Int := if 0 ≤ i then (match ptext s i.toNat with | some (k, e) => (k, (e : Int)) | none => ([], -1)) else ([], -1)
def rgo (s : Bs) : Nat → Int → List Ch → List Ch × Int
  | 0, i, l => (l, i)
  | n + 1, i, l => if 0 ≤ i ∧ i < s.length then
      rgo s n (pieceR s (pieceR s (i + 1)).2).2 (l ++ [⟨(pieceR s (i + 1)).1, (pieceR s (pieceR s (i + 1)).2).1, decide ((bt s i.toNat).toNat = 1)⟩])
    else (l, i)

theorem pgo_sound (s : Bs) : ∀ (n i : Nat) (l0 l : List Ch) (e : Nat), pgo s n i l0 = some (l, e) → i ≤ s.length →
    ∃ l1, l = l0 ++ l1 ∧ l1.length = n ∧ e ≤ s.length ∧ s.drop i = restB l1 ++ s.drop e ∧ rgo s n i l0 = (l, (e : Int))
  | 0, i, l0, l, e, h, hi => by
    simp only [pgo, Option.some.injEq, Prod.mk.injEq] at h
    obtain ⟨rfl, rfl⟩ := h
    exact ⟨[], by simp, rfl, hi, by simp [restB], rfl⟩
  | n + 1, i, l0, l, e, h, hi => by
    simp only [pgo] at h
    split at h
    · rename_i hc
      split at h
      · rename_i k a h1
        split at h
        · rename_i v e2 h2
          obtain ⟨p1, p2, p3, p4, p5⟩ := ptext_some h1
          obtain ⟨q1, q2, q3, q4, q5⟩ := ptext_some h2
          obtain ⟨l1, r1, r2, r3, r4, r5⟩ := pgo_sound s n e2 _ l e h q2
          refine ⟨⟨k, v, decide ((bt s i).toNat = 1)⟩ :: l1, by rw [r1]; simp, by simp [r2], r3, ?_, ?_⟩
          · have hd : be 1 (if decide ((bt s i).toNat = 1) = true then 1 else 0) = [bt s i] := by
              rw [be_one]
              by_cases hb : (bt s i).toNat = 1
              · simp only [hb, decide_true, if_true]
                rw [← hb, UInt8.ofNat_toNat]
              · have : (bt s i).toNat = 0 := by omega
                simp only [this, if_false, Bool.false_eq_true, show decide ((0 : Nat) = 1) = false from rfl]
                rw [← this, UInt8.ofNat_toNat]
            rw [drop_bt hc.1, p5, q5, r4]
            simp only [restB, List.flatMap_cons, chBytes, hd, List.append_assoc, List.cons_append, List.nil_append]
          · have e1 : pieceR s ((i : Int) + 1) = (k, (a : Int)) := by
              rw [pieceR, if_pos (by omega), show ((i : Int) + 1).toNat = i + 1 by omega, h1]
            have e2' : pieceR s (a : Int) = (v, (e2 : Int)) := by
              rw [pieceR, if_pos (by omega), show ((a : Int)).toNat = a by omega, h2]
            rw [rgo, if_pos ⟨by omega, by omega⟩, e1]
            simp only [e2', Int.toNat_natCast]
            exact r5
        · cases h
      · cases h
    · cases h

theorem pgo_mk (Z : Bs) : ∀ (l1 : List Ch) (A : Bs) (l0 : List Ch), (∀ c ∈ l1, c.k.length < 256 ∧ c.v.length < 256) → pgo (A ++ restB l1 ++ Z) l1.length A.length l0 = some (l0 ++ l1, A.length + (restB l1).length)
  | [], A, l0, _ => by simp [pgo, restB]
  | c :: l1, A, l0, h => by
    obtain ⟨k1, k2⟩ := h c (by simp)
    have e : A ++ restB (c :: l1) ++ Z = A ++ chBytes c ++ restB l1 ++ Z := by simp [restB]
    have rec' := pgo_mk Z l1 (A ++ chBytes c) (l0 ++ [c]) (fun x hx => h x (by simp [hx]))
    rw [e]
    have hb : bt (A ++ chBytes c ++ restB l1 ++ Z) A.length = UInt8.ofNat (if c.d then 1 else 0) := by
      unfold bt
      rw [List.getD_eq_getElem?_getD, List.append_assoc, List.append_assoc, List.getElem?_append_right (Nat.le_refl _), Nat.sub_self, chBytes, be_one]
      rfl
    have hbn : (UInt8.ofNat (if c.d then 1 else 0)).toNat = if c.d then 1 else 0 := by cases c.d <;> rfl
    have hlen : (A ++ chBytes c ++ restB l1 ++ Z).length = A.length + csize c + (restB l1).length + Z.length := by simp only [List.length_append, chBytes_length]
    have hcs : csize c = 3 + c.k.length + c.v.length := rfl
    have t1 : ptext (A ++ chBytes c ++ restB l1 ++ Z) (A.length + 1) = some (c.k, A.length + 1 + 1 + c.k.length) := by
      have := ptext_mk (A ++ be 1 (if c.d then 1 else 0)) c.k (be 1 c.v.length ++ c.v ++ restB l1 ++ Z) k1
      simp only [List.length_append, be_length] at this
      rw [← this]
      congr 1
      simp only [chBytes, List.append_assoc]
    have t2 : ptext (A ++ chBytes c ++ restB l1 ++ Z) (A.length + 1 + 1 + c.k.length) = some (c.v, A.length + 1 + 1 + c.k.length + 1 + c.v.length) := by
      have := ptext_mk (A ++ be 1 (if c.d then 1 else 0) ++ be 1 c.k.length ++ c.k) c.v (restB l1 ++ Z) k2
      simp only [List.length_append, be_length] at this
      rw [← this]
      congr 1
      simp only [chBytes, List.append_assoc]
    rw [List.length_cons, pgo, hb, hbn, if_pos ⟨by omega, by split <;> omega⟩, t1]
    simp only [t2]
    have hd : (⟨c.k, c.v, decide ((if c.d then 1 else 0) = 1)⟩ : Ch) = c := by
      cases c with | mk k v d => cases d <;> rfl
    rw [hd, show A.length + 1 + 1 + c.k.length + 1 + c.v.length = (A ++ chBytes c).length by rw [List.length_append, chBytes_length]; omega, rec']
    simp only [List.append_assoc, List.singleton_append, List.length_append, restB, List.flatMap_cons, Nat.add_assoc]

structure RR where
  t : Int
  l : List Ch
  m : Int
  e : Nat
def badR : RR := ⟨0, [], 0, 4⟩
def encR (r : RR) : AV := .tup [encBatch r.t r.l, .int .i64 r.m, .int .i64 r.e]

def tim (s : Bs) : Int := i64 ((s.drop 1).take 8)
def isMark (s : Bs) : Bool := decide (s.length = 9) && decide (bt s 0 = 77) && decide (0 ≤ tim s) && decide (tim s ≤ 1152921504606846976)
def isHead (s : Bs) : Bool := decide (10 ≤ s.length) && decide (bt s 0 = 66)

def outRead (s : Bs) : RR :=
  if 16384 < s.length then badR
  else if isMark s then ⟨0, [], tim s, 0⟩
  else if isHead s then
    match pgo s (bt s 9).toNat 10 [] with
    | some (l, e) => if e = s.length ∧ bCheck (tim s) l = 0 then ⟨tim s, l, 0, 0⟩ else badR
    | none => badR
  else badR

def outReadR (s : Bs) : RR :=
  if isMark s then ⟨0, [], tim s, 0⟩
  else if isHead s then
    if (rgo s (bt s 9).toNat 10 []).2 < 0 ∨ bCheck (tim s) (rgo s (bt s 9).toNat 10 []).1 ≠ 0 ∨ bput (tim s).toNat (rgo s (bt s 9).toNat 10 []).1 ≠ s then badR else ⟨tim s, (rgo s (bt s 9).toNat 10 []).1, 0, 0⟩
  else badR
end Go.Proofs.Ytlefnohibjcekaa.Batch
