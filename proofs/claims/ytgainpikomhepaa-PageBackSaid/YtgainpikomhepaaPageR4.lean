/- Chapter 08: bytes and the node that is read of them, in plain data. -/
import Derived.Test.YtgainpikomhepaaPageR5
set_option linter.unusedSimpArgs false
set_option linter.unusedVariables false
set_option maxRecDepth 10000
namespace Go.Proofs.Ytgainpikomhepaa.Page
open Go Go.Av Go.Proofs Go.Proofs.Ytgainpikomhepaa.C

theorem val_cons (c : UInt8) (l : List UInt8) : val (c :: l) = c.toNat * 256 ^ l.length + val l := by
  have key : ∀ (l : List UInt8) (a : Nat), l.foldl (fun n c => n * 256 + c.toNat) a = a * 256 ^ l.length + val l := by
    intro l
    induction l with
    | nil => intro a; simp [val]
    | cons c l ih =>
      intro a
      rw [List.foldl_cons, ih, List.length_cons, Nat.pow_succ]
      have : val (c :: l) = c.toNat * 256 ^ l.length + val l := by
        show List.foldl _ (0 * 256 + c.toNat) l = _
        rw [ih]; simp
      rw [this, Nat.add_mul, Nat.mul_assoc, Nat.mul_comm 256 (256 ^ l.length)]
      omega
  show List.foldl _ (0 * 256 + c.toNat) l = _
  rw [key]; simp
theorem be_mod : ∀ (n v k : Nat), be n (k * 256 ^ n + v) = be n v
  | 0, v, k => rfl
  | n + 1, v, k => by
    have e : k * 256 ^ (n + 1) = (k * 256) * 256 ^ n := by rw [Nat.pow_succ, Nat.mul_comm (256 ^ n) 256, Nat.mul_assoc]
    rw [be, be, e, be_mod n v (k * 256)]
    congr 1
    have hp : 0 < 256 ^ n := Nat.pow_pos (by omega)
    rw [Nat.add_comm, Nat.add_mul_div_right _ _ hp]
    apply UInt8.toNat_inj.1
    simp only [UInt8.toNat_ofNat']
    omega
theorem be_val : ∀ (l : List UInt8), be l.length (val l) = l
  | [] => rfl
  | c :: l => by
    rw [List.length_cons, be, val_cons, be_mod, be_val l]
    congr 1
    have hp : 0 < 256 ^ l.length := Nat.pow_pos (by omega)
    rw [Nat.add_comm, Nat.add_mul_div_right _ _ hp, Nat.div_eq_of_lt (val_lt l), Nat.zero_add]
    exact UInt8.ofNat_toNat

theorem numS_ok {b : List UInt8} {s : Scan} {w : Nat} (h : (numS b s w).2.ok = true) : s.ok = true ∧ (numS b s w).2.pos = s.pos + w ∧ s.pos + w ≤ b.length ∧ b.take (s.pos + w) = b.take s.pos ++ be w (numS b s w).1 := by
  unfold numS at h ⊢
  split at h
  · rename_i hc
    rw [if_pos hc]
    simp only [Bool.and_eq_true, decide_eq_true_eq] at hc
    refine ⟨hc.1, rfl, hc.2, ?_⟩
    have hl : ((b.drop s.pos).take w).length = w := by simp; omega
    have := be_val ((b.drop s.pos).take w)
    rw [hl] at this
    rw [this, ← List.take_add]
  · cases h
theorem pieceS_ok {b : List UInt8} {s : Scan} {w : Nat} (h : (pieceS b s w).2.ok = true) : s.ok = true ∧ (pieceS b s w).2.pos ≤ b.length ∧ b.take (pieceS b s w).2.pos = b.take s.pos ++ (be w (pieceS b s w).1.length ++ (pieceS b s w).1) := by
  unfold pieceS at h ⊢
  split at h
  · rename_i hc
    rw [if_pos hc]
    simp only [Bool.and_eq_true, decide_eq_true_eq] at hc
    obtain ⟨h1, h2, h3, h4⟩ := numS_ok hc.1
    refine ⟨h1, hc.2, ?_⟩
    have hl : ((b.drop (numS b s w).2.pos).take (numS b s w).1).length = (numS b s w).1 := by simp; omega
    simp only
    rw [hl, List.take_add, h2, h4, List.append_assoc]
  · cases h

/-- what the rounds have read stands at the bytes' head -/
structure Reads (leaf : Bool) (b : List UInt8) (i : Nat) (a : Acc) : Prop where
  k : a.keys.length = i
  v : if leaf then a.vals.length = i ∧ a.kids = [] else a.vals = [] ∧ a.kids.length = i + 1
  pos : a.s.pos ≤ b.length
  eq : b.take a.s.pos = b.take 3 ++ ((if leaf then [] else be 4 (a.kids.getD 0 0).toNat) ++ rows ⟨leaf, a.keys, a.vals, a.kids⟩ i)

theorem getD_app {α : Type} (l m : List α) (i : Nat) (d : α) (h : i < l.length) : (l ++ m).getD i d = l.getD i d := by
  rw [getD_at (by simp; omega), getD_at h, List.getElem_append_left h]
theorem rows_app (leaf : Bool) (ks vs ks' vs' : List (List UInt8)) (is is' : List Int) : ∀ i, i ≤ ks.length → (leaf = true → i ≤ vs.length) → (leaf = false → i + 1 ≤ is.length) → rows ⟨leaf, ks ++ ks', vs ++ vs', is ++ is'⟩ i = rows ⟨leaf, ks, vs, is⟩ i
  | 0, _, _, _ => rfl
  | i + 1, h1, h2, h3 => by
    rw [rows, rows, rows_app leaf ks vs ks' vs' is is' i (by omega) (fun h => by have := h2 h; omega) (fun h => by have := h3 h; omega)]
    congr 1
    unfold row
    simp only
    rw [getD_app _ _ _ _ h1]
    cases leaf
    · simp only [Bool.false_eq_true, if_false]; rw [getD_app _ _ _ _ (h3 rfl)]
    · simp only [if_true]; rw [getD_app _ _ _ _ (h2 rfl)]
theorem getD_last {α : Type} (l : List α) (x d : α) : (l ++ [x]).getD l.length d = x := by
  rw [getD_at (by simp), List.getElem_append_right (by omega)]; simp

theorem Reads.step {leaf : Bool} {b : List UInt8} {i : Nat} {a : Acc} (h : a.s.ok = true → Reads leaf b i a) (hok : (stepS leaf b a).s.ok = true) : Reads leaf b (i + 1) (stepS leaf b a) := by
  cases leaf with
  | true =>
    simp only [stepS, if_true] at hok ⊢
    obtain ⟨o1, p1, e1⟩ := pieceS_ok hok
    obtain ⟨o2, p2, e2⟩ := pieceS_ok o1
    obtain ⟨hk, hv, hp, he⟩ := h o2
    simp only [if_true] at hv
    obtain ⟨hv, hd⟩ := hv
    refine ⟨by simp [hk], by simp [hv, hd], p1, ?_⟩
    have hr := rows_app true a.keys a.vals [(pieceS b a.s 1).1] [(pieceS b (pieceS b a.s 1).2 2).1] a.kids [] i (by omega) (fun _ => by omega) (fun h => by cases h)
    rw [List.append_nil] at hr
    simp only [if_true] at he ⊢
    rw [e1, e2, he, rows, hr]
    unfold row
    simp only [if_true]
    have l1 := getD_last a.keys (pieceS b a.s 1).1 []
    have l2 := getD_last a.vals (pieceS b (pieceS b a.s 1).2 2).1 []
    rw [hk] at l1
    rw [hv] at l2
    rw [l1, l2]
    simp [List.append_assoc]
  | false =>
    simp only [stepS, Bool.false_eq_true, if_false] at hok ⊢
    obtain ⟨o1, p1, q1, e1⟩ := numS_ok hok
    obtain ⟨o2, p2, e2⟩ := pieceS_ok o1
    obtain ⟨hk, hv, hp, he⟩ := h o2
    simp only [Bool.false_eq_true, if_false] at hv
    obtain ⟨hv, hd⟩ := hv
    refine ⟨by simp [hk], by simp [hv, hd], by simp only; omega, ?_⟩
    have hr := rows_app false a.keys a.vals [(pieceS b a.s 1).1] [] a.kids [((numS b (pieceS b a.s 1).2 4).1 : Int)] i (by omega) (fun h => by cases h) (fun _ => by omega)
    rw [List.append_nil] at hr
    simp only [Bool.false_eq_true, if_false] at he ⊢
    rw [p1, e1, e2, he, rows, hr, getD_app _ _ _ _ (by omega)]
    unfold row
    simp only [Bool.false_eq_true, if_false]
    have l1 := getD_last a.keys (pieceS b a.s 1).1 []
    have l2 := getD_last a.kids ((numS b (pieceS b a.s 1).2 4).1 : Int) 0
    rw [hk] at l1
    rw [hd] at l2
    rw [l1, l2]
    simp [List.append_assoc]

theorem Reads.loop {leaf : Bool} {b : List UInt8} : ∀ {c i : Nat} {a : Acc}, (a.s.ok = true → Reads leaf b i a) → (loopS leaf b c a).s.ok = true → Reads leaf b (i + c) (loopS leaf b c a)
  | 0, i, a, h, hok => h hok
  | c + 1, i, a, h, hok => by
    unfold loopS at hok ⊢
    split at hok
    · rename_i ha
      rw [if_pos ha]
      have := Reads.loop (c := c) (i := i + 1) (fun hs => Reads.step h hs) hok
      rwa [Nat.add_assoc, Nat.add_comm 1 c] at this
    · rename_i ha; exact absurd hok ha
theorem Reads.start (leaf : Bool) (b : List UInt8) (hb : 3 ≤ b.length) : (startS leaf b).s.ok = true → Reads leaf b 0 (startS leaf b) := by
  intro hok
  cases leaf with
  | true => simp only [startS, if_true]; exact ⟨rfl, by simp, hb, by simp [rows]⟩
  | false =>
    simp only [startS, Bool.false_eq_true, if_false] at hok ⊢
    obtain ⟨o1, p1, q1, e1⟩ := numS_ok hok
    refine ⟨rfl, by simp, by simp only; omega, ?_⟩
    simp only [Bool.false_eq_true, if_false] at p1 e1 ⊢
    rw [p1, e1]
    simp [rows]

def tagOk (b : List UInt8) : Bool := decide (b.getD 0 0 = 76) || decide (b.getD 0 0 = 73)
def blankFrom (b : List UInt8) (p : Nat) : Bool := !(b.drop p).any (fun c => decide (c ≠ 0))

theorem blank_iff (l : List UInt8) (n : Nat) (h : l.length = n) : (!l.any (fun c => decide (c ≠ 0))) = true ↔ List.replicate n 0 = l := by
  rw [Bool.not_eq_true', List.any_eq_false]
  constructor
  · intro hz
    symm
    rw [List.eq_replicate_iff]
    exact ⟨h, fun x hx => by have := hz x hx; simpa using this⟩
  · intro e x hx
    rw [← e] at hx
    have := List.eq_of_mem_replicate hx
    simp [this]

theorem page_iff {b : List UInt8} (hb : b.length = 1024) (hok : (accOf b).s.ok = true) (hc : check (nodeOf b) = 0) : bytesOf (nodeOf b) = b ↔ (tagOk b = true ∧ blankFrom b (accOf b).s.pos = true) := by
  obtain ⟨r1, r2⟩ := check_zero hc
  have hR := Reads.loop (Reads.start (leafOf b) b (by omega)) (c := val ((b.drop 1).take 2)) hok
  rw [Nat.zero_add] at hR
  change Reads (leafOf b) b _ (accOf b) at hR
  obtain ⟨hk, -, hp, he⟩ := hR
  have hl2 : ((b.drop 1).take 2).length = 2 := by simp; omega
  have hb2 := be_val ((b.drop 1).take 2)
  rw [hl2, ← hk] at hb2
  rw [← hk] at he
  have h3 : b.take 3 = b.take 1 ++ be 2 (accOf b).keys.length := by rw [hb2, ← List.take_add]
  have htl := text_length (nodeOf b) (right_parts r1).vals
  have htx : text (nodeOf b) = (if leafOf b then [76] else [73]) ++ (be 2 (accOf b).keys.length ++ ((if leafOf b then [] else be 4 ((accOf b).kids.getD 0 0).toNat) ++ rows (nodeOf b) (accOf b).keys.length)) := by
    unfold text head
    simp only [nodeOf, List.append_assoc]
    rfl
  have hbt : b.take (accOf b).s.pos = b.take 1 ++ (be 2 (accOf b).keys.length ++ ((if leafOf b then [] else be 4 ((accOf b).kids.getD 0 0).toNat) ++ rows (nodeOf b) (accOf b).keys.length)) := by
    rw [he, h3, List.append_assoc]; rfl
  generalize hT : be 2 (accOf b).keys.length ++ ((if leafOf b then [] else be 4 ((accOf b).kids.getD 0 0).toNat) ++ rows (nodeOf b) (accOf b).keys.length) = T at *
  have hTl : (accOf b).s.pos = 1 + T.length := by
    have := congrArg List.length hbt
    rw [List.length_take, List.length_append, List.length_take] at this
    omega
  have hsz : size (nodeOf b) = 1 + T.length := by
    rw [← htl, htx]; cases leafOf b <;> simp <;> omega
  have hsplit : b = b.take 1 ++ (T ++ b.drop (accOf b).s.pos) := by
    conv => lhs; rw [← List.take_append_drop (accOf b).s.pos b]
    rw [hbt, List.append_assoc]
  have h1 : b.take 1 = [b.getD 0 0] := by
    rw [getD_at (by omega)]
    match b, hb with
    | x :: l, _ => simp
  have hdl : (b.drop (accOf b).s.pos).length = 1024 - size (nodeOf b) := by rw [List.length_drop, hsz, hTl, hb]
  have hbl := blank_iff (b.drop (accOf b).s.pos) _ hdl
  have htag : (if leafOf b then [76] else [73]) = b.take 1 ↔ tagOk b = true := by
    rw [h1]
    unfold tagOk leafOf
    by_cases h76 : b.getD 0 0 = 76
    · simp only [h76, decide_true, if_true, Bool.true_or]
    · simp only [h76, decide_false, Bool.false_eq_true, if_false, Bool.false_or, decide_eq_true_eq, List.cons.injEq, and_true]
      exact eq_comm
  unfold blankFrom
  rw [hbl, ← htag]
  unfold bytesOf
  rw [htx]
  constructor
  · intro h
    have h := h.trans hsplit
    rw [List.append_assoc] at h
    have hlen : (if leafOf b then [76] else [73] : List UInt8).length = (b.take 1).length := by rw [h1]; split <;> rfl
    obtain ⟨a1, a2⟩ := List.append_inj h hlen
    exact ⟨a1, (List.append_inj a2 rfl).2⟩
  · rintro ⟨a1, a2⟩
    rw [a1, a2, List.append_assoc]; exact hsplit.symm
end Go.Proofs.Ytgainpikomhepaa.Page
