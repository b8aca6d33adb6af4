/-
  UTF-8 in plain Lean: the runes of bytes, the bytes of runes, there and back.
-/
import Derived.Lib.ValidLaws
import Derived.Lib.RuneBytes
set_option linter.unusedVariables false
namespace Go.Proofs.Ytilpbfbnnmclhaa.P
open Go.Lib

/-- the rune at the head, its width, and 0: whole, 1: wrong, 2: begun -/
def rdN (n b0 b1 b2 b3 : Nat) : Nat × Nat × Nat :=
  if b0 < 128 then (b0, 1, 0)
  else if b0 < 194 then (65533, 1, 1)
  else if b0 < 224 then
    (if n ≤ 1 then (65533, 1, 2) else if b1 < 128 ∨ 191 < b1 then (65533, 1, 1) else (b0 % 32 * 64 + b1 % 64, 2, 0))
  else if b0 < 240 then
    (if n ≤ 1 then (65533, 1, 2) else if b1 < 128 ∨ 191 < b1 ∨ (b0 = 224 ∧ b1 < 160) ∨ (b0 = 237 ∧ 159 < b1) then (65533, 1, 1)
     else if n ≤ 2 then (65533, 2, 2) else if b2 < 128 ∨ 191 < b2 then (65533, 2, 1)
     else (b0 % 16 * 4096 + b1 % 64 * 64 + b2 % 64, 3, 0))
  else if b0 < 245 then
    (if n ≤ 1 then (65533, 1, 2) else if b1 < 128 ∨ 191 < b1 ∨ (b0 = 240 ∧ b1 < 144) ∨ (b0 = 244 ∧ 143 < b1) then (65533, 1, 1)
     else if n ≤ 2 then (65533, 2, 2) else if b2 < 128 ∨ 191 < b2 then (65533, 2, 1)
     else if n ≤ 3 then (65533, 3, 2) else if b3 < 128 ∨ 191 < b3 then (65533, 3, 1)
     else (b0 % 8 * 262144 + b1 % 64 * 4096 + b2 % 64 * 64 + b3 % 64, 4, 0))
  else (65533, 1, 1)

def goodR (r : Int) : Prop := (0 ≤ r ∧ r < 55296) ∨ (57344 ≤ r ∧ r ≤ 1114111)
instance (r : Int) : Decidable (goodR r) := by unfold goodR; infer_instance

theorem ite_ok {α : Type} {P : α → Prop} {c : Prop} [Decidable c] {a b : α} (hp : c → P a) (hn : ¬ c → P b) : P (if c then a else b) := by
  split
  · exact hp ‹_›
  · exact hn ‹_›

def FactsN (n : Nat) (r : Nat × Nat × Nat) : Prop :=
  1 ≤ r.2.1 ∧ r.2.1 ≤ n ∧ r.2.1 ≤ 4 ∧ r.2.2 ≤ 2 ∧ (r.1 < 55296 ∨ (57344 ≤ r.1 ∧ r.1 ≤ 1114111)) ∧ (r.2.2 ≠ 0 → r.1 = 65533)

theorem rdN_facts (n b0 b1 b2 b3 : Nat) (hn : 1 ≤ n) (h0 : b0 < 256) (h1 : b1 < 256) (h2 : b2 < 256) (h3 : b3 < 256) : FactsN n (rdN n b0 b1 b2 b3) := by
  unfold rdN
  repeat' (refine ite_ok (fun _ => ?_) (fun _ => ?_))
  all_goals (refine ⟨?_, ?_, ?_, ?_, ?_, fun _ => ?_⟩ <;> simp only at * <;> omega)

def DecN (n b0 b1 b2 b3 : Nat) (r : Nat × Nat × Nat) : Prop := decodeN n b0 b1 b2 b3 = if r.2.2 = 0 then (r.1, r.2.1) else (65533, 1)
set_option maxHeartbeats 2000000 in
set_option maxRecDepth 100000 in
/-- against the model's own decode -/
theorem rdN_decode (n b0 b1 b2 b3 : Nat) (hn : 1 ≤ n) (h0 : b0 < 256) (h1 : b1 < 256) (h2 : b2 < 256) (h3 : b3 < 256) : DecN n b0 b1 b2 b3 (rdN n b0 b1 b2 b3) := by
  unfold rdN
  repeat' (with_reducible refine ite_ok (P := DecN n b0 b1 b2 b3) (fun _ => ?_) (fun _ => ?_))
  all_goals (unfold DecN decodeN; simp only [Nat.succ_ne_zero, if_true, if_false])
  all_goals (repeat' split)
  all_goals first | rfl | (exfalso; omega) | omega

/-! ### lists of bytes -/
def rdL (l : List UInt8) : Nat × Nat × Nat := rdN l.length (l.getD 0 0).toNat (l.getD 1 0).toNat (l.getD 2 0).toNat (l.getD 3 0).toNat

theorem rdL_facts (l : List UInt8) (h : l ≠ []) : FactsN l.length (rdL l) :=
  rdN_facts _ _ _ _ _ (List.length_pos_iff.2 h) (UInt8.toNat_lt _) (UInt8.toNat_lt _) (UInt8.toNat_lt _) (UInt8.toNat_lt _)

theorem rdL_decode (l : List UInt8) (h : l ≠ []) : decodeL l = if (rdL l).2.2 = 0 then ((rdL l).1, (rdL l).2.1) else (65533, 1) := by
  rw [decodeL_N]
  exact rdN_decode _ _ _ _ _ (List.length_pos_iff.2 h) (UInt8.toNat_lt _) (UInt8.toNat_lt _) (UInt8.toNat_lt _) (UInt8.toNat_lt _)

/-- the runes of bytes -/
def runesGo : Nat → List UInt8 → List Int
  | 0, _ => []
  | n + 1, l => if l = [] then [] else ((rdL l).1 : Int) :: runesGo n (l.drop (rdL l).2.1)
def runes (l : List UInt8) : List Int := runesGo l.length l

theorem runesGo_nil (n : Nat) : runesGo n [] = [] := by cases n <;> simp [runesGo]
theorem runesGo_fuel : ∀ (n m : Nat) (l : List UInt8), l.length ≤ n → l.length ≤ m → runesGo n l = runesGo m l
  | 0, m, l, hn, _ => by
    obtain rfl : l = [] := List.eq_nil_of_length_eq_zero (by omega)
    rw [runesGo_nil, runesGo_nil]
  | n + 1, 0, l, _, hm => by
    obtain rfl : l = [] := List.eq_nil_of_length_eq_zero (by omega)
    rw [runesGo_nil, runesGo_nil]
  | n + 1, m + 1, l, hn, hm => by
    unfold runesGo
    by_cases hne : l = []
    · simp [hne]
    · have hw := (rdL_facts l hne).1
      have hl : 0 < l.length := List.length_pos_iff.2 hne
      rw [if_neg hne, if_neg hne, runesGo_fuel n m (l.drop (rdL l).2.1) (by rw [List.length_drop]; omega) (by rw [List.length_drop]; omega)]
theorem runes_nil : runes [] = [] := rfl
theorem runes_step (l : List UInt8) (hne : l ≠ []) : runes l = ((rdL l).1 : Int) :: runes (l.drop (rdL l).2.1) := by
  have hl : 0 < l.length := List.length_pos_iff.2 hne
  have hw := (rdL_facts l hne).1
  obtain ⟨n, hn⟩ : ∃ n, l.length = n + 1 := ⟨l.length - 1, by omega⟩
  unfold runes
  rw [hn]
  show (if l = [] then [] else _) = _
  rw [if_neg hne, runesGo_fuel n (l.drop (rdL l).2.1).length _ (by rw [List.length_drop]; omega) (Nat.le_refl _)]

/-- all is whole -/
def validGo : Nat → List UInt8 → Bool
  | 0, _ => true
  | n + 1, l => if l = [] then true else if (rdL l).2.2 = 0 then validGo n (l.drop (rdL l).2.1) else false
def valid (l : List UInt8) : Bool := validGo l.length l
theorem validGo_nil (n : Nat) : validGo n [] = true := by cases n <;> simp [validGo]
theorem validGo_fuel : ∀ (n m : Nat) (l : List UInt8), l.length ≤ n → l.length ≤ m → validGo n l = validGo m l
  | 0, m, l, hn, _ => by
    obtain rfl : l = [] := List.eq_nil_of_length_eq_zero (by omega)
    rw [validGo_nil, validGo_nil]
  | n + 1, 0, l, _, hm => by
    obtain rfl : l = [] := List.eq_nil_of_length_eq_zero (by omega)
    rw [validGo_nil, validGo_nil]
  | n + 1, m + 1, l, hn, hm => by
    unfold validGo
    by_cases hne : l = []
    · simp [hne]
    · have hw := (rdL_facts l hne).1
      have hl : 0 < l.length := List.length_pos_iff.2 hne
      rw [if_neg hne, if_neg hne, validGo_fuel n m (l.drop (rdL l).2.1) (by rw [List.length_drop]; omega) (by rw [List.length_drop]; omega)]
theorem valid_nil : valid [] = true := rfl
theorem valid_step (l : List UInt8) (hne : l ≠ []) : valid l = if (rdL l).2.2 = 0 then valid (l.drop (rdL l).2.1) else false := by
  have hl : 0 < l.length := List.length_pos_iff.2 hne
  have hw := (rdL_facts l hne).1
  obtain ⟨n, hn⟩ : ∃ n, l.length = n + 1 := ⟨l.length - 1, by omega⟩
  unfold valid
  rw [hn]
  show (if l = [] then true else _) = _
  rw [if_neg hne, validGo_fuel n (l.drop (rdL l).2.1).length _ (by rw [List.length_drop]; omega) (Nat.le_refl _)]

/-! ### there and back -/
def text (rs : List Int) : List UInt8 := rs.flatMap encodeRune
theorem text_nil : text [] = [] := rfl
theorem text_cons (r : Int) (rs : List Int) : text (r :: rs) = encodeRune r ++ text rs := by simp [text]
theorem text_append (a b : List Int) : text (a ++ b) = text a ++ text b := by simp [text]

theorem tob (b : UInt8) (z : Int) (h : z = (b.toNat : Int)) : (z.toNat).toUInt8 = b := by subst h; simp

theorem len0 {l : List UInt8} (h : l ≠ []) : l = l.getD 0 0 :: l.drop 1 := by cases l with | nil => exact absurd rfl h | cons b t => simp
theorem lenS {l : List UInt8} (k : Nat) (h : k < l.length) : l.drop k = l.getD k 0 :: l.drop (k + 1) := by
  rw [List.drop_eq_getElem_cons h]; simp [List.getD_eq_getElem?_getD, List.getElem?_eq_getElem h]

/-- what is whole is its rune's own bytes -/
theorem rdL_whole (l : List UInt8) (h : (rdL l).2.2 = 0) (hne : l ≠ []) : l = encodeRune ((rdL l).1 : Nat) ++ l.drop (rdL l).2.1 := by
  have hl : 0 < l.length := List.length_pos_iff.2 hne
  have q0 := (l.getD 0 0).toNat_lt
  have q1 := (l.getD 1 0).toNat_lt
  have q2 := (l.getD 2 0).toNat_lt
  have q3 := (l.getD 3 0).toNat_lt
  have e0 := lenS (l := l) 0 hl
  rw [List.drop_zero] at e0
  revert h
  unfold rdL rdN
  by_cases c0 : (l.getD 0 0).toNat < 128
  · rw [if_pos c0]
    intro _
    simp only [encodeRune]
    rw [encodeRuneZ_one (by omega) (by omega)]
    simp only [List.map_cons, List.map_nil]
    rw [tob (l.getD 0 0) _ rfl]
    exact e0
  rw [if_neg c0]
  by_cases c1 : (l.getD 0 0).toNat < 194
  · rw [if_pos c1]; intro h; exact absurd h (by simp)
  rw [if_neg c1]
  by_cases c2 : (l.getD 0 0).toNat < 224
  · rw [if_pos c2]
    by_cases d1 : l.length ≤ 1
    · rw [if_pos d1]; intro h; exact absurd h (by simp)
    rw [if_neg d1]
    have e1 := lenS (l := l) 1 (by omega)
    by_cases d2 : (l.getD 1 0).toNat < 128 ∨ 191 < (l.getD 1 0).toNat
    · rw [if_pos d2]; intro h; exact absurd h (by simp)
    rw [if_neg d2]
    intro _
    simp only [encodeRune]
    rw [encodeRuneZ_two (by omega) (by omega)]
    simp only [List.map_cons, List.map_nil]
    rw [tob (l.getD 0 0) _ (by omega), tob (l.getD 1 0) _ (by omega)]
    rw [e1] at e0
    exact e0
  rw [if_neg c2]
  by_cases c3 : (l.getD 0 0).toNat < 240
  · rw [if_pos c3]
    by_cases d1 : l.length ≤ 1
    · rw [if_pos d1]; intro h; exact absurd h (by simp)
    rw [if_neg d1]
    have e1 := lenS (l := l) 1 (by omega)
    by_cases d2 : (l.getD 1 0).toNat < 128 ∨ 191 < (l.getD 1 0).toNat ∨ ((l.getD 0 0).toNat = 224 ∧ (l.getD 1 0).toNat < 160) ∨ ((l.getD 0 0).toNat = 237 ∧ 159 < (l.getD 1 0).toNat)
    · rw [if_pos d2]; intro h; exact absurd h (by simp)
    rw [if_neg d2]
    by_cases d3 : l.length ≤ 2
    · rw [if_pos d3]; intro h; exact absurd h (by simp)
    rw [if_neg d3]
    have e2 := lenS (l := l) 2 (by omega)
    by_cases d4 : (l.getD 2 0).toNat < 128 ∨ 191 < (l.getD 2 0).toNat
    · rw [if_pos d4]; intro h; exact absurd h (by simp)
    rw [if_neg d4]
    intro _
    simp only [encodeRune]
    rw [encodeRuneZ_three (by omega)]
    simp only [List.map_cons, List.map_nil]
    rw [tob (l.getD 0 0) _ (by omega), tob (l.getD 1 0) _ (by omega), tob (l.getD 2 0) _ (by omega)]
    rw [e1, e2] at e0
    exact e0
  rw [if_neg c3]
  by_cases c4 : (l.getD 0 0).toNat < 245
  · rw [if_pos c4]
    by_cases d1 : l.length ≤ 1
    · rw [if_pos d1]; intro h; exact absurd h (by simp)
    rw [if_neg d1]
    have e1 := lenS (l := l) 1 (by omega)
    by_cases d2 : (l.getD 1 0).toNat < 128 ∨ 191 < (l.getD 1 0).toNat ∨ ((l.getD 0 0).toNat = 240 ∧ (l.getD 1 0).toNat < 144) ∨ ((l.getD 0 0).toNat = 244 ∧ 143 < (l.getD 1 0).toNat)
    · rw [if_pos d2]; intro h; exact absurd h (by simp)
    rw [if_neg d2]
    by_cases d3 : l.length ≤ 2
    · rw [if_pos d3]; intro h; exact absurd h (by simp)
    rw [if_neg d3]
    have e2 := lenS (l := l) 2 (by omega)
    by_cases d4 : (l.getD 2 0).toNat < 128 ∨ 191 < (l.getD 2 0).toNat
    · rw [if_pos d4]; intro h; exact absurd h (by simp)
    rw [if_neg d4]
    by_cases d5 : l.length ≤ 3
    · rw [if_pos d5]; intro h; exact absurd h (by simp)
    rw [if_neg d5]
    have e3 := lenS (l := l) 3 (by omega)
    by_cases d6 : (l.getD 3 0).toNat < 128 ∨ 191 < (l.getD 3 0).toNat
    · rw [if_pos d6]; intro h; exact absurd h (by simp)
    rw [if_neg d6]
    intro _
    simp only [encodeRune]
    rw [encodeRuneZ_four (by omega) (by omega)]
    simp only [List.map_cons, List.map_nil]
    rw [tob (l.getD 0 0) _ (by omega), tob (l.getD 1 0) _ (by omega), tob (l.getD 2 0) _ (by omega), tob (l.getD 3 0) _ (by omega)]
    rw [e1, e2, e3] at e0
    exact e0
  · rw [if_neg c4]; intro h; exact absurd h (by simp)
end Go.Proofs.Ytilpbfbnnmclhaa.P
