/-
  utf.read, in plain Lean: what the printed function tells is 'rdL'.
-/
import Derived.Test.YtilpbfbnnmclhaaHall
import Derived.Laws.BitsAllLaws
namespace Go.Proofs.Ytilpbfbnnmclhaa.P
open Go.RowKit Go.Proofs.YtilpbfbnnmclhaaW.PrintWords Go.Proofs.YtilpbfbnnmclhaaW.PrintLast Go.Proofs.YtilpbfbnnmclhaaW.PrintMore
set_option linter.unusedVariables false
set_option linter.unusedSimpArgs false

def bdN (b : Nat) : Int × Int × Int :=
  if b < 128 then (0, 0, 0) else if b < 194 then (-1, 0, 0) else if b < 224 then (1, 128, 191) else if b = 224 then (2, 160, 191)
  else if b = 237 then (2, 128, 159) else if b < 240 then (2, 128, 191) else if b = 240 then (3, 144, 191) else if b < 244 then (3, 128, 191)
  else if b = 244 then (3, 128, 143) else (-1, 0, 0)
theorem bd_all : ∀ b : Fin 256, utf_bounds.f 9 ((b.val : Nat) : Int) = some (bdN b.val) := by decide +kernel
theorem and_all : ∀ b : Fin 256, Go.bits .and .u8 ((b.val : Nat) : Int) 63 = ((b.val % 64 : Nat) : Int) := by decide +kernel
theorem and_1 : ∀ b : Fin 256, Go.bits .and .i32 (wrap32 ((b.val : Nat) : Int)) (shr .i32 63 1) = ((b.val % 32 : Nat) : Int) := by decide +kernel
theorem and_2 : ∀ b : Fin 256, Go.bits .and .i32 (wrap32 ((b.val : Nat) : Int)) (shr .i32 63 2) = ((b.val % 16 : Nat) : Int) := by decide +kernel
theorem and_3 : ∀ b : Fin 256, Go.bits .and .i32 (wrap32 ((b.val : Nat) : Int)) (shr .i32 63 3) = ((b.val % 8 : Nat) : Int) := by decide +kernel

theorem i32_or_nat (a b : Nat) (ha : a < 2147483648) (hb : b < 2147483648) : Go.bits .or .i32 (a : Int) (b : Int) = ((a ||| b : Nat) : Int) := by
  have hab : a ||| b < 2147483648 := Nat.or_lt_two_pow (n := 31) ha hb
  have e : (BitVec.ofInt 32 (a : Int) ||| BitVec.ofInt 32 (b : Int)).toNat = a ||| b := by
    rw [BitVec.toNat_or, Go.ofInt_u32 a (by omega), Go.ofInt_u32 b (by omega)]
  have e0 : Go.bits .or .i32 (a : Int) (b : Int) = IntKind.i32.wrap (((BitVec.ofInt 32 (a : Int) ||| BitVec.ofInt 32 (b : Int)).toNat : Nat) : Int) := rfl
  rw [e0, e, i32_w]
  unfold wrap32
  omega
theorem or_add (x y : Nat) (hy : y < 64) : (x * 64) ||| y = x * 64 + y := nat_join 6 _ _ (by omega) (by simpa using hy)
theorem orL (x b : Nat) (hx : x < 33554432) (hb : b < 256) :
    Go.bits .or .i32 (wrap32 ((x : Int) * 64)) (wrap32 (Go.bits .and .u8 (b : Int) 63)) = ((x * 64 + b % 64 : Nat) : Int) := by
  have h1 := and_all ⟨b, hb⟩
  simp only at h1
  rw [h1]
  have e1 : wrap32 ((x : Int) * 64) = ((x * 64 : Nat) : Int) := by unfold wrap32; omega
  have e2 : wrap32 ((b % 64 : Nat) : Int) = ((b % 64 : Nat) : Int) := by unfold wrap32; omega
  rw [e1, e2, i32_or_nat _ _ (by omega) (by omega), or_add _ _ (by omega)]
theorem rd_zs (l : List UInt8) (i : Nat) : rd (zs l) (i : Int) = ((l.getD i 0).toNat : Int) := by
  unfold rd zs
  simp only [Int.toNat_natCast, List.getD_eq_getElem?_getD, List.getElem?_map]
  cases l[i]? <;> simp

theorem l0_go (k : Nat) (l : List UInt8) (m lo hi x i : Nat) (hi' : i ≤ l.length) (hi4 : i ≤ 4) (hm : m ≤ 4) (hx : x < 33554432) :
    utf_read.l0 (k + 1) (zs l) m lo hi x i = if m < i then some ((x : Int), ((m + 1 : Nat) : Int), 0) else if i = l.length then some (65533, (i : Int), 2)
      else if (l.getD i 0).toNat < lo then some (65533, (i : Int), 1) else if hi < (l.getD i 0).toNat then some (65533, (i : Int), 1)
      else utf_read.l0 k (zs l) m (128 : Nat) (191 : Nat) ((x * 64 + (l.getD i 0).toNat % 64 : Nat) : Int) ((i + 1 : Nat) : Int) := by
  rw [utf_read.l0, rd_zs, zs_length, orL x _ hx (UInt8.toNat_lt _)]
  have e1 : wrap64 ((i : Int) + 1) = ((i + 1 : Nat) : Int) := by unfold wrap64; omega
  have e2 : wrap64 ((m : Int) + 1) = ((m + 1 : Nat) : Int) := by unfold wrap64; omega
  rw [e1, e2]
  by_cases c1 : m < i
  · rw [if_neg (by omega), if_pos c1]
  rw [if_pos (by omega), if_neg c1]
  by_cases c2 : i = l.length
  · rw [if_pos (by omega), if_pos c2]
  rw [if_neg (by omega), if_neg c2, if_pos (by omega), if_pos (by omega)]
  by_cases c3 : (l.getD i 0).toNat < lo
  · rw [if_pos (by omega), if_pos c3]
  rw [if_neg (by omega), if_neg c3]
  by_cases c4 : hi < (l.getD i 0).toNat
  · rw [if_pos (by omega), if_pos c4]
  rw [if_neg (by omega), if_neg c4]
  rfl

theorem read_tells : ReadTells := by
  intro l hne
  refine ⟨9, ?_⟩
  have hl : 0 < l.length := List.length_pos_iff.2 hne
  have q0 := (l.getD 0 0).toNat_lt
  have q1 := (l.getD 1 0).toNat_lt
  have q2 := (l.getD 2 0).toNat_lt
  have q3 := (l.getD 3 0).toNat_lt
  have hb := bd_all ⟨_, q0⟩
  have h1 := and_1 ⟨_, q0⟩
  have h2 := and_2 ⟨_, q0⟩
  have h3 := and_3 ⟨_, q0⟩
  simp only at hb h1 h2 h3
  have e0 : rd (zs l) 0 = ((l.getD 0 0).toNat : Int) := rd_zs l 0
  unfold utf_read.f
  rw [zs_length, if_pos (by omega), e0, hb]
  show (if (bdN _).1 < 0 then _ else _) = _
  unfold rdL rdN
  by_cases c0 : (l.getD 0 0).toNat < 128
  · have eb : bdN (l.getD 0 0).toNat = (0, 0, 0) := by unfold bdN; rw [if_pos c0]
    rw [eb, if_pos c0, if_neg (by decide), if_pos rfl]
    have : wrap32 (((l.getD 0 0).toNat : Nat) : Int) = ((l.getD 0 0).toNat : Int) := by unfold wrap32; omega
    rw [this]
    rfl
  rw [if_neg c0]
  by_cases c1 : (l.getD 0 0).toNat < 194
  · have eb : bdN (l.getD 0 0).toNat = (-1, 0, 0) := by unfold bdN; rw [if_neg c0, if_pos c1]
    rw [eb, if_pos c1, if_pos (by decide)]
    rfl
  rw [if_neg c1]
  by_cases c2 : (l.getD 0 0).toNat < 224
  · have eb : bdN (l.getD 0 0).toNat = (1, 128, 191) := by unfold bdN; rw [if_neg c0, if_neg c1, if_pos c2]
    rw [eb, if_pos c2, if_neg (by decide), if_neg (by decide), if_pos (by decide), h1]
    have g := l0_go 8 l 1 128 191 ((l.getD 0 0).toNat % 32) 1 (by omega) (by omega) (by omega) (by omega)
    refine Eq.trans g ?_
    rw [if_neg (by omega)]
    by_cases d1 : l.length ≤ 1
    · rw [if_pos (by omega), if_pos d1]; rfl
    rw [if_neg (by omega), if_neg d1]
    by_cases d2 : (l.getD 1 0).toNat < 128
    · rw [if_pos d2, if_pos (by omega)]; rfl
    rw [if_neg d2]
    by_cases d3 : 191 < (l.getD 1 0).toNat
    · rw [if_pos d3, if_pos (by omega)]; rfl
    rw [if_neg d3, if_neg (by omega), l0_go 7 l 1 128 191 _ 2 (by omega) (by omega) (by omega) (by omega), if_pos (by omega)]
    rfl
  rw [if_neg c2]
  by_cases c3 : (l.getD 0 0).toNat < 240
  · obtain ⟨lo, hi, eb, hlh⟩ : ∃ lo hi : Nat, bdN (l.getD 0 0).toNat = (2, (lo : Int), (hi : Int)) ∧
        (((l.getD 1 0).toNat < lo ∨ hi < (l.getD 1 0).toNat) ↔ ((l.getD 1 0).toNat < 128 ∨ 191 < (l.getD 1 0).toNat ∨ ((l.getD 0 0).toNat = 224 ∧ (l.getD 1 0).toNat < 160) ∨ ((l.getD 0 0).toNat = 237 ∧ 159 < (l.getD 1 0).toNat))) := by
      unfold bdN
      rw [if_neg c0, if_neg c1, if_neg c2]
      by_cases f1 : (l.getD 0 0).toNat = 224
      · exact ⟨160, 191, by rw [if_pos f1]; rfl, by omega⟩
      by_cases f2 : (l.getD 0 0).toNat = 237
      · exact ⟨128, 159, by rw [if_neg f1, if_pos f2]; rfl, by omega⟩
      exact ⟨128, 191, by rw [if_neg f1, if_neg f2, if_pos c3]; rfl, by omega⟩
    rw [eb, if_pos c3, if_neg (show ¬ ((2 : Int) < 0) by decide), if_neg (show ¬ ((2 : Int) = 0) by decide), if_pos (show (0 : Int) ≤ 2 by decide), h2]
    have g := l0_go 8 l 2 lo hi ((l.getD 0 0).toNat % 16) 1 (by omega) (by omega) (by omega) (by omega)
    refine Eq.trans g ?_
    rw [if_neg (by omega)]
    by_cases d1 : l.length ≤ 1
    · rw [if_pos (by omega), if_pos d1]; rfl
    rw [if_neg (by omega), if_neg d1]
    by_cases d2 : (l.getD 1 0).toNat < lo
    · rw [if_pos d2, if_pos (hlh.1 (.inl d2))]; rfl
    rw [if_neg d2]
    by_cases d3 : hi < (l.getD 1 0).toNat
    · rw [if_pos d3, if_pos (hlh.1 (.inr d3))]; rfl
    rw [if_neg d3, if_neg (fun h => (hlh.2 h).elim d2 d3), l0_go 7 l 2 128 191 _ 2 (by omega) (by omega) (by omega) (by omega), if_neg (by omega)]
    by_cases d4 : l.length ≤ 2
    · rw [if_pos (by omega), if_pos d4]; rfl
    rw [if_neg (by omega), if_neg d4]
    by_cases d5 : (l.getD 2 0).toNat < 128
    · rw [if_pos d5, if_pos (by omega)]; rfl
    rw [if_neg d5]
    by_cases d6 : 191 < (l.getD 2 0).toNat
    · rw [if_pos d6, if_pos (by omega)]; rfl
    rw [if_neg d6, if_neg (by omega), l0_go 6 l 2 128 191 _ 3 (by omega) (by omega) (by omega) (by omega), if_pos (by omega)]
    refine congrArg some (Prod.ext ?_ rfl)
    show (_ : Int) = ((_ : Nat) : Int)
    omega
  rw [if_neg c3]
  by_cases c4 : (l.getD 0 0).toNat < 245
  · obtain ⟨lo, hi, eb, hlh⟩ : ∃ lo hi : Nat, bdN (l.getD 0 0).toNat = (3, (lo : Int), (hi : Int)) ∧
        (((l.getD 1 0).toNat < lo ∨ hi < (l.getD 1 0).toNat) ↔ ((l.getD 1 0).toNat < 128 ∨ 191 < (l.getD 1 0).toNat ∨ ((l.getD 0 0).toNat = 240 ∧ (l.getD 1 0).toNat < 144) ∨ ((l.getD 0 0).toNat = 244 ∧ 143 < (l.getD 1 0).toNat))) := by
      unfold bdN
      rw [if_neg c0, if_neg c1, if_neg c2, if_neg (by omega : ¬ (l.getD 0 0).toNat = 224), if_neg (by omega : ¬ (l.getD 0 0).toNat = 237), if_neg c3]
      by_cases f1 : (l.getD 0 0).toNat = 240
      · exact ⟨144, 191, by rw [if_pos f1]; rfl, by omega⟩
      by_cases f2 : (l.getD 0 0).toNat < 244
      · exact ⟨128, 191, by rw [if_neg f1, if_pos f2]; rfl, by omega⟩
      exact ⟨128, 143, by rw [if_neg f1, if_neg f2, if_pos (by omega)]; rfl, by omega⟩
    rw [eb, if_pos c4, if_neg (show ¬ ((3 : Int) < 0) by decide), if_neg (show ¬ ((3 : Int) = 0) by decide), if_pos (show (0 : Int) ≤ 3 by decide), h3]
    have g := l0_go 8 l 3 lo hi ((l.getD 0 0).toNat % 8) 1 (by omega) (by omega) (by omega) (by omega)
    refine Eq.trans g ?_
    rw [if_neg (by omega)]
    by_cases d1 : l.length ≤ 1
    · rw [if_pos (by omega), if_pos d1]; rfl
    rw [if_neg (by omega), if_neg d1]
    by_cases d2 : (l.getD 1 0).toNat < lo
    · rw [if_pos d2, if_pos (hlh.1 (.inl d2))]; rfl
    rw [if_neg d2]
    by_cases d3 : hi < (l.getD 1 0).toNat
    · rw [if_pos d3, if_pos (hlh.1 (.inr d3))]; rfl
    rw [if_neg d3, if_neg (fun h => (hlh.2 h).elim d2 d3), l0_go 7 l 3 128 191 _ 2 (by omega) (by omega) (by omega) (by omega), if_neg (by omega)]
    by_cases d4 : l.length ≤ 2
    · rw [if_pos (by omega), if_pos d4]; rfl
    rw [if_neg (by omega), if_neg d4]
    by_cases d5 : (l.getD 2 0).toNat < 128
    · rw [if_pos d5, if_pos (by omega)]; rfl
    rw [if_neg d5]
    by_cases d6 : 191 < (l.getD 2 0).toNat
    · rw [if_pos d6, if_pos (by omega)]; rfl
    rw [if_neg d6, if_neg (by omega), l0_go 6 l 3 128 191 _ 3 (by omega) (by omega) (by omega) (by omega), if_neg (by omega)]
    by_cases d7 : l.length ≤ 3
    · rw [if_pos (by omega), if_pos d7]; rfl
    rw [if_neg (by omega), if_neg d7]
    by_cases d8 : (l.getD 3 0).toNat < 128
    · rw [if_pos d8, if_pos (by omega)]; rfl
    rw [if_neg d8]
    by_cases d9 : 191 < (l.getD 3 0).toNat
    · rw [if_pos d9, if_pos (by omega)]; rfl
    rw [if_neg d9, if_neg (by omega), l0_go 5 l 3 128 191 _ 4 (by omega) (by omega) (by omega) (by omega), if_pos (by omega)]
    refine congrArg some (Prod.ext ?_ rfl)
    show (_ : Int) = ((_ : Nat) : Int)
    omega
  · have eb : bdN (l.getD 0 0).toNat = (-1, 0, 0) := by
      unfold bdN
      rw [if_neg c0, if_neg c1, if_neg c2, if_neg (by omega), if_neg (by omega), if_neg c3, if_neg (by omega), if_neg (by omega), if_neg (by omega)]
    rw [eb, if_neg c4, if_pos (by decide)]
    rfl
end Go.Proofs.Ytilpbfbnnmclhaa.P
