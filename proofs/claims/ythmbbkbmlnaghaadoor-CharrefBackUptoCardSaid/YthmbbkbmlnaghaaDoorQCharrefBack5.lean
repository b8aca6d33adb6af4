/-
 CharrefBack, the given statement (the tied card of the second form: what it reads is of bulk at most 1048576): what charref.Ascii writes is ASCII and safe, and is decoded to the text (a control of the second row that no reference says to U+FFFD), in text and in attributes. Conditions: the bulk; the six listed tables of Go's library read as their initialisers lay them (the card ties that to the program's text and to the pinned tables).
-/
import Derived.Test.YthmbbkbmlnaghaaDoorQCharrefBack0
import Derived.Test.YthmbbkbmlnaghaaDoorQCharrefBack1
import Derived.Test.YthmbbkbmlnaghaaDoorQCharrefBack2
import Derived.Test.YthmbbkbmlnaghaaDoorQCharrefBack3
import Derived.Test.YthmbbkbmlnaghaaDoorQCharrefBack4
import Derived.Lib.AtoiErrMem
import Derived.Test.YthmbbkbmlnaghaaDoorCards
import Derived.Test.YthmbbkbmlnaghaaDoorTie
import Derived.WalkKit
import Derived.ProofKit
import Derived.OpenShut
import Derived.ShutString
import Derived.ChangeOld
import Derived.Below
import Derived.Deep.DeepHandedRow
import Derived.Lib.LaidTab
import Derived.Lay
import Derived.LaidOnce
import Derived.Deep.DeepWitnessRowRef
section
/-
  The document's answer for bytes and runes, in plain Lean: its runes are 'runes', its text is 'text'.
-/
namespace Go.Proofs.YthmbbkbmlnaghaaDoor.P
open Go.RowKit Go.Proofs.YthmbbkbmlnaghaaDoorW.PrintWords Go.Proofs.YthmbbkbmlnaghaaDoorW.PrintLast Go.Proofs.YthmbbkbmlnaghaaDoorW.PrintMore
set_option linter.unusedVariables false
set_option linter.unusedSimpArgs false

abbrev Pc := S70
def sizeN (b : Nat) : Nat := if b < 128 then 1 else if b < 194 then 0 else if b < 224 then 2 else if b < 240 then 3 else if b < 245 then 4 else 0
theorem size_all : ∀ b : Fin 256, sieveref01_size.f 9 ((b.val : Nat) : Int) = some ((sizeN b.val : Nat) : Int) := by decide +kernel
theorem size_f (k b : Nat) (h : b < 256) : sieveref01_size.f (k + 2) (b : Int) = some ((sizeN b : Nat) : Int) :=
  (show sieveref01_size.f (k + 2) (b : Int) = sieveref01_size.f 9 (b : Int) from rfl).trans (size_all ⟨b, h⟩)
def secN (c d : Nat) : Bool := decide (¬ (d < 128 ∨ 191 < d ∨ (c = 224 ∧ d < 160) ∨ (c = 237 ∧ 159 < d) ∨ (c = 240 ∧ d < 144) ∨ (c = 244 ∧ 143 < d)))
theorem second_f (c d : Nat) : sieveref01_second.f (c : Int) (d : Int) = some (secN c d) := by
  unfold sieveref01_second.f secN
  by_cases h1 : c = 224
  · rw [if_pos (by omega)]
    by_cases h : d ≥ 160
    · rw [if_pos (by omega)]
      congr 1
      rw [decide_eq_decide]
      omega
    · rw [if_neg (by omega)]
      congr 1
      symm
      rw [decide_eq_false_iff_not]
      omega
  rw [if_neg (by omega)]
  by_cases h2 : c = 237
  · rw [if_pos (by omega)]
    by_cases h : d ≥ 128
    · rw [if_pos (by omega)]
      congr 1
      rw [decide_eq_decide]
      omega
    · rw [if_neg (by omega)]
      congr 1
      symm
      rw [decide_eq_false_iff_not]
      omega
  rw [if_neg (by omega)]
  by_cases h3 : c = 240
  · rw [if_pos (by omega)]
    by_cases h : d ≥ 144
    · rw [if_pos (by omega)]
      congr 1
      rw [decide_eq_decide]
      omega
    · rw [if_neg (by omega)]
      congr 1
      symm
      rw [decide_eq_false_iff_not]
      omega
  rw [if_neg (by omega)]
  by_cases h4 : c = 244
  · rw [if_pos (by omega)]
    by_cases h : d ≥ 128
    · rw [if_pos (by omega)]
      congr 1
      rw [decide_eq_decide]
      omega
    · rw [if_neg (by omega)]
      congr 1
      symm
      rw [decide_eq_false_iff_not]
      omega
  rw [if_neg (by omega)]
  by_cases h : d ≥ 128
  · rw [if_pos (by omega)]
    congr 1
    rw [decide_eq_decide]
    omega
  · rw [if_neg (by omega)]
    congr 1
    symm
    rw [decide_eq_false_iff_not]
    omega

theorem good_l0 (k : Nat) (l : List UInt8) (n i : Nat) (h1 : 1 ≤ i) (h4 : i ≤ 4) (hn : n ≤ 4) :
    sieveref01_good.l0 (k + 2) (zs l) (n : Int) (i : Int) =
      if i < n ∧ i < l.length then
        (if i = 1 ∧ secN (l.getD 0 0).toNat (l.getD 1 0).toNat = false then some ((i : Int), decide (i = n))
         else if i ≠ 1 ∧ ((l.getD i 0).toNat < 128 ∨ 191 < (l.getD i 0).toNat) then some ((i : Int), decide (i = n))
         else sieveref01_good.l0 k (zs l) (n : Int) ((i + 1 : Nat) : Int))
      else some ((i : Int), decide (i = n)) := by
  have hbd : ((i : Int) == (n : Int)) = decide (i = n) := by rw [Bool.eq_iff_iff, beq_iff_eq, decide_eq_true_iff]; omega
  have e1 : wrap64 ((i : Int) + 1) = ((i + 1 : Nat) : Int) := by unfold wrap64; omega
  rw [sieveref01_good.l0, zs_length]
  by_cases c1 : i < n
  · rw [if_pos (by omega), sieveref01_good.j1, zs_length, hbd, e1]
    by_cases c2 : i < l.length
    · rw [if_pos (by rw [decide_eq_true_iff]; omega), if_pos (show i < n ∧ i < l.length from ⟨c1, c2⟩)]
      by_cases c3 : i = 1
      · subst c3
        have r0 : rd (zs l) 0 = ((l.getD 0 0).toNat : Int) := rd_zs l 0
        have r1 : rd (zs l) 1 = ((l.getD 1 0).toNat : Int) := rd_zs l 1
        rw [if_pos (by omega), if_pos (by omega), if_pos (by omega), r0, r1, second_f, Option.bind_some]
        by_cases c4 : secN (l.getD 0 0).toNat (l.getD 1 0).toNat = true
        · rw [if_pos c4, if_neg (by omega), if_neg (show ¬ (1 = 1 ∧ secN (l.getD 0 0).toNat (l.getD 1 0).toNat = false) from fun h => by rw [c4] at h; cases h.2), if_neg (show ¬ ((1 : Nat) ≠ 1 ∧ _) from fun h => h.1 rfl)]
        · rw [if_neg c4, if_pos (show 1 = 1 ∧ secN (l.getD 0 0).toNat (l.getD 1 0).toNat = false from ⟨rfl, Bool.eq_false_iff.2 c4⟩)]
      · rw [if_neg (by omega), if_pos (by omega), if_pos (by omega), if_pos (by omega), rd_zs, if_neg (show ¬ (i = 1 ∧ _) from fun h => c3 h.1)]
        by_cases c4 : (l.getD i 0).toNat < 128
        · rw [if_pos (by omega), if_pos (show i ≠ 1 ∧ _ from ⟨c3, .inl c4⟩)]
        · rw [if_neg (by omega)]
          by_cases c5 : 191 < (l.getD i 0).toNat
          · rw [if_pos (by omega), if_pos (show i ≠ 1 ∧ _ from ⟨c3, .inr c5⟩)]
          · rw [if_neg (by omega), if_neg (show ¬ (i ≠ 1 ∧ _) from fun h => h.2.elim c4 c5)]
    · rw [if_neg (by rw [decide_eq_true_iff]; omega), if_neg (show ¬ (i < n ∧ i < l.length) from fun h => c2 h.2)]
  · rw [if_neg (by omega), sieveref01_good.j1, hbd, if_neg (by decide), if_neg (show ¬ (i < n ∧ i < l.length) from fun h => c1 h.1)]

/-- how many bytes of the character at the head are good, if it has n -/
def goW (n len b0 b1 b2 b3 : Nat) : Nat :=
  if 1 < n ∧ 1 < len then
    (if b1 < 128 ∨ 191 < b1 ∨ (b0 = 224 ∧ b1 < 160) ∨ (b0 = 237 ∧ 159 < b1) ∨ (b0 = 240 ∧ b1 < 144) ∨ (b0 = 244 ∧ 143 < b1) then 1
     else if 2 < n ∧ 2 < len then
      (if b2 < 128 ∨ 191 < b2 then 2
       else if 3 < n ∧ 3 < len then (if b3 < 128 ∨ 191 < b3 then 3 else 4) else 3)
     else 2)
  else 1
theorem good_go (k : Nat) (l : List UInt8) (n : Nat) (hn : n ≤ 4) :
    sieveref01_good.l0 (k + 8) (zs l) (n : Int) 1 = some ((goW n l.length (l.getD 0 0).toNat (l.getD 1 0).toNat (l.getD 2 0).toNat (l.getD 3 0).toNat : Int), decide (goW n l.length (l.getD 0 0).toNat (l.getD 1 0).toNat (l.getD 2 0).toNat (l.getD 3 0).toNat = n)) := by
  have g1 := good_l0 (k + 6) l n 1 (by omega) (by omega) hn
  have g2 := good_l0 (k + 4) l n 2 (by omega) (by omega) hn
  have g3 := good_l0 (k + 2) l n 3 (by omega) (by omega) hn
  have g4 := good_l0 k l n 4 (by omega) (by omega) hn
  refine Eq.trans g1 ?_
  unfold goW
  have hs : (1 = 1 ∧ secN (l.getD 0 0).toNat (l.getD 1 0).toNat = false) ↔ ((l.getD 1 0).toNat < 128 ∨ 191 < (l.getD 1 0).toNat ∨ ((l.getD 0 0).toNat = 224 ∧ (l.getD 1 0).toNat < 160) ∨ ((l.getD 0 0).toNat = 237 ∧ 159 < (l.getD 1 0).toNat) ∨ ((l.getD 0 0).toNat = 240 ∧ (l.getD 1 0).toNat < 144) ∨ ((l.getD 0 0).toNat = 244 ∧ 143 < (l.getD 1 0).toNat)) := by
    unfold secN
    rw [decide_eq_false_iff_not, Decidable.not_not]
    exact ⟨fun h => h.2, fun h => ⟨rfl, h⟩⟩
  by_cases c1 : 1 < n ∧ 1 < l.length
  · rw [if_pos c1, if_pos c1]
    by_cases d1 : 1 = 1 ∧ secN (l.getD 0 0).toNat (l.getD 1 0).toNat = false
    · rw [if_pos d1, if_pos (hs.1 d1)]
    rw [if_neg d1, if_neg (fun h => d1 (hs.2 h)), if_neg (show ¬ ((1 : Nat) ≠ 1 ∧ _) from fun h => h.1 rfl)]
    refine Eq.trans g2 ?_
    by_cases c2 : 2 < n ∧ 2 < l.length
    · rw [if_pos c2, if_pos c2, if_neg (show ¬ ((2 : Nat) = 1 ∧ _) from fun h => absurd h.1 (by decide))]
      by_cases d2 : (l.getD 2 0).toNat < 128 ∨ 191 < (l.getD 2 0).toNat
      · rw [if_pos d2, if_pos (show (2 : Nat) ≠ 1 ∧ _ from ⟨by decide, d2⟩)]
      rw [if_neg d2, if_neg (show ¬ ((2 : Nat) ≠ 1 ∧ _) from fun h => d2 h.2)]
      refine Eq.trans g3 ?_
      by_cases c3 : 3 < n ∧ 3 < l.length
      · rw [if_pos c3, if_pos c3, if_neg (show ¬ ((3 : Nat) = 1 ∧ _) from fun h => absurd h.1 (by decide))]
        by_cases d3 : (l.getD 3 0).toNat < 128 ∨ 191 < (l.getD 3 0).toNat
        · rw [if_pos d3, if_pos (show (3 : Nat) ≠ 1 ∧ _ from ⟨by decide, d3⟩)]
        rw [if_neg d3, if_neg (show ¬ ((3 : Nat) ≠ 1 ∧ _) from fun h => d3 h.2)]
        refine Eq.trans g4 ?_
        rw [if_neg (by omega)]
      · rw [if_neg c3, if_neg c3]
    · rw [if_neg c2, if_neg c2]
  · rw [if_neg c1, if_neg c1]
theorem goW_facts (n len b0 b1 b2 b3 : Nat) :
    (¬ (1 < n ∧ 1 < len) → goW n len b0 b1 b2 b3 = 1) ∧
    (1 < n ∧ 1 < len → (b1 < 128 ∨ 191 < b1 ∨ (b0 = 224 ∧ b1 < 160) ∨ (b0 = 237 ∧ 159 < b1) ∨ (b0 = 240 ∧ b1 < 144) ∨ (b0 = 244 ∧ 143 < b1)) → goW n len b0 b1 b2 b3 = 1) ∧
    (1 < n ∧ 1 < len → ¬ (b1 < 128 ∨ 191 < b1 ∨ (b0 = 224 ∧ b1 < 160) ∨ (b0 = 237 ∧ 159 < b1) ∨ (b0 = 240 ∧ b1 < 144) ∨ (b0 = 244 ∧ 143 < b1)) →
      (¬ (2 < n ∧ 2 < len) → goW n len b0 b1 b2 b3 = 2) ∧
      (2 < n ∧ 2 < len → (b2 < 128 ∨ 191 < b2) → goW n len b0 b1 b2 b3 = 2) ∧
      (2 < n ∧ 2 < len → ¬ (b2 < 128 ∨ 191 < b2) →
        (¬ (3 < n ∧ 3 < len) → goW n len b0 b1 b2 b3 = 3) ∧
        (3 < n ∧ 3 < len → (b3 < 128 ∨ 191 < b3) → goW n len b0 b1 b2 b3 = 3) ∧
        (3 < n ∧ 3 < len → ¬ (b3 < 128 ∨ 191 < b3) → goW n len b0 b1 b2 b3 = 4))) := by
  unfold goW
  refine ⟨fun h => by rw [if_neg h], fun h h2 => by rw [if_pos h, if_pos h2], fun h h2 => ?_⟩
  rw [if_pos h, if_neg h2]
  refine ⟨fun h => by rw [if_neg h], fun h h2 => by rw [if_pos h, if_pos h2], fun h h2 => ?_⟩
  rw [if_pos h, if_neg h2]
  exact ⟨fun h => by rw [if_neg h], fun h h2 => by rw [if_pos h, if_pos h2], fun h h2 => by rw [if_pos h, if_neg h2]⟩
theorem sizeN_facts (b : Nat) : (b < 128 ∧ sizeN b = 1) ∨ (128 ≤ b ∧ b < 194 ∧ sizeN b = 0) ∨ (194 ≤ b ∧ b < 224 ∧ sizeN b = 2) ∨ (224 ≤ b ∧ b < 240 ∧ sizeN b = 3) ∨ (240 ≤ b ∧ b < 245 ∧ sizeN b = 4) ∨ (245 ≤ b ∧ sizeN b = 0) := by
  unfold sizeN
  by_cases h1 : b < 128
  · rw [if_pos h1]; omega
  rw [if_neg h1]
  by_cases h2 : b < 194
  · rw [if_pos h2]; omega
  rw [if_neg h2]
  by_cases h3 : b < 224
  · rw [if_pos h3]; omega
  rw [if_neg h3]
  by_cases h4 : b < 240
  · rw [if_pos h4]; omega
  rw [if_neg h4]
  by_cases h5 : b < 245
  · rw [if_pos h5]; omega
  rw [if_neg h5]
  omega
theorem sizeN_le (b : Nat) : sizeN b ≤ 4 := by have := sizeN_facts b; omega
def GoodN (z g : Nat) (r : Nat × Nat × Nat) : Prop := r.2.1 = g ∧ (r.2.2 = 0 ↔ g = z)
theorem GoodN.ok {z g x a : Nat} (h : g = a) (hz : a = z) : GoodN z g (x, a, 0) := ⟨h.symm, fun _ => h.trans hz, fun _ => rfl⟩
theorem GoodN.no {z g x a c : Nat} (h : g = a) (hz : a ≠ z) (hc : c ≠ 0) : GoodN z g (x, a, c) := ⟨h.symm, fun e => absurd e hc, fun e => absurd (h.symm.trans e) hz⟩
theorem rdN_good (n b0 b1 b2 b3 : Nat) (hn : 1 ≤ n) (h0 : sizeN b0 ≠ 0) : GoodN (sizeN b0) (goW (sizeN b0) n b0 b1 b2 b3) (rdN n b0 b1 b2 b3) := by
  have f1 := sizeN_facts b0
  have f2 := goW_facts (sizeN b0) n b0 b1 b2 b3
  generalize goW (sizeN b0) n b0 b1 b2 b3 = g at *
  generalize sizeN b0 = z at *
  have F2 := Aside0.mk f2
  clear f2
  unfold rdN
  by_cases c0 : b0 < 128
  · rw [if_pos c0]
    have := F2.out.1 (by omega)
    first | exact GoodN.ok this rfl | exact GoodN.no this (by decide) (by decide) | exact GoodN.ok this (by omega)
  rw [if_neg c0]
  by_cases c1 : b0 < 194
  · omega
  rw [if_neg c1]
  by_cases c2 : b0 < 224
  · rw [if_pos c2]
    have hz : z = 2 := by omega
    subst hz
    by_cases d1 : n ≤ 1
    · rw [if_pos d1]
      have := F2.out.1 (by omega)
      first | exact GoodN.ok this rfl | exact GoodN.no this (by decide) (by decide) | exact GoodN.ok this (by omega)
    rw [if_neg d1]
    by_cases d2 : b1 < 128 ∨ 191 < b1
    · rw [if_pos d2]
      have := F2.out.2.1 (by omega) (by omega)
      first | exact GoodN.ok this rfl | exact GoodN.no this (by decide) (by decide) | exact GoodN.ok this (by omega)
    · rw [if_neg d2]
      have := (F2.out.2.2 (by omega) (by omega)).1 (by omega)
      first | exact GoodN.ok this rfl | exact GoodN.no this (by decide) (by decide) | exact GoodN.ok this (by omega)
  rw [if_neg c2]
  by_cases c3 : b0 < 240
  · rw [if_pos c3]
    have hz : z = 3 := by omega
    subst hz
    by_cases d1 : n ≤ 1
    · rw [if_pos d1]
      have := F2.out.1 (by omega)
      first | exact GoodN.ok this rfl | exact GoodN.no this (by decide) (by decide) | exact GoodN.ok this (by omega)
    rw [if_neg d1]
    by_cases d2 : b1 < 128 ∨ 191 < b1 ∨ (b0 = 224 ∧ b1 < 160) ∨ (b0 = 237 ∧ 159 < b1)
    · rw [if_pos d2]
      have := F2.out.2.1 (by omega) (by omega)
      first | exact GoodN.ok this rfl | exact GoodN.no this (by decide) (by decide) | exact GoodN.ok this (by omega)
    rw [if_neg d2]
    have F3 := Aside0.mk (F2.out.2.2 (by omega) (by omega))
    by_cases d3 : n ≤ 2
    · rw [if_pos d3]
      have := F3.out.1 (by omega)
      first | exact GoodN.ok this rfl | exact GoodN.no this (by decide) (by decide) | exact GoodN.ok this (by omega)
    rw [if_neg d3]
    by_cases d4 : b2 < 128 ∨ 191 < b2
    · rw [if_pos d4]
      have := F3.out.2.1 (by omega) (by omega)
      first | exact GoodN.ok this rfl | exact GoodN.no this (by decide) (by decide) | exact GoodN.ok this (by omega)
    · rw [if_neg d4]
      have := (F3.out.2.2 (by omega) (by omega)).1 (by omega)
      first | exact GoodN.ok this rfl | exact GoodN.no this (by decide) (by decide) | exact GoodN.ok this (by omega)
  rw [if_neg c3]
  by_cases c4 : b0 < 245
  · rw [if_pos c4]
    have hz : z = 4 := by omega
    subst hz
    by_cases d1 : n ≤ 1
    · rw [if_pos d1]
      have := F2.out.1 (by omega)
      first | exact GoodN.ok this rfl | exact GoodN.no this (by decide) (by decide) | exact GoodN.ok this (by omega)
    rw [if_neg d1]
    by_cases d2 : b1 < 128 ∨ 191 < b1 ∨ (b0 = 240 ∧ b1 < 144) ∨ (b0 = 244 ∧ 143 < b1)
    · rw [if_pos d2]
      have := F2.out.2.1 (by omega) (by omega)
      first | exact GoodN.ok this rfl | exact GoodN.no this (by decide) (by decide) | exact GoodN.ok this (by omega)
    rw [if_neg d2]
    have F3 := Aside0.mk (F2.out.2.2 (by omega) (by omega))
    by_cases d3 : n ≤ 2
    · rw [if_pos d3]
      have := F3.out.1 (by omega)
      first | exact GoodN.ok this rfl | exact GoodN.no this (by decide) (by decide) | exact GoodN.ok this (by omega)
    rw [if_neg d3]
    by_cases d4 : b2 < 128 ∨ 191 < b2
    · rw [if_pos d4]
      have := F3.out.2.1 (by omega) (by omega)
      first | exact GoodN.ok this rfl | exact GoodN.no this (by decide) (by decide) | exact GoodN.ok this (by omega)
    rw [if_neg d4]
    have F4 := Aside0.mk (F3.out.2.2 (by omega) (by omega))
    by_cases d5 : n ≤ 3
    · rw [if_pos d5]
      have := F4.out.1 (by omega)
      first | exact GoodN.ok this rfl | exact GoodN.no this (by decide) (by decide) | exact GoodN.ok this (by omega)
    rw [if_neg d5]
    by_cases d6 : b3 < 128 ∨ 191 < b3
    · rw [if_pos d6]
      have := F4.out.2.1 (by omega) (by omega)
      first | exact GoodN.ok this rfl | exact GoodN.no this (by decide) (by decide) | exact GoodN.ok this (by omega)
    · rw [if_neg d6]
      have := F4.out.2.2 (by omega) (by omega)
      first | exact GoodN.ok this rfl | exact GoodN.no this (by decide) (by decide) | exact GoodN.ok this (by omega)
  · omega

/-- what 'good' tells -/
def goodL (l : List UInt8) : Int × Bool := if sizeN (l.getD 0 0).toNat = 0 then (0, false) else (((rdL l).2.1 : Nat), decide ((rdL l).2.2 = 0))
theorem good_f (k : Nat) (l : List UInt8) (hne : l ≠ []) : sieveref01_good.f (k + 8) (zs l) = some (goodL l) := by
  have hl : 0 < l.length := List.length_pos_iff.2 hne
  have q0 := (l.getD 0 0).toNat_lt
  have r0 : rd (zs l) 0 = ((l.getD 0 0).toNat : Int) := rd_zs l 0
  unfold sieveref01_good.f goodL
  rw [zs_length, if_pos (by omega), r0, size_f (k + 6) _ q0, Option.bind_some]
  by_cases h0 : sizeN (l.getD 0 0).toNat = 0
  · rw [if_pos h0, if_pos (by omega)]
  · have h := rdN_good l.length (l.getD 0 0).toNat (l.getD 1 0).toNat (l.getD 2 0).toNat (l.getD 3 0).toNat (by omega) h0
    unfold GoodN at h
    rw [if_neg h0, if_neg (by omega), good_go k l _ (sizeN_le _)]
    unfold rdL
    rw [← h.1]
    congr 2
    rw [decide_eq_decide, h.1]
    exact h.2.symm

/-! ### pieces -/
def piecesGo : Nat → Nat → List UInt8 → List Pc
  | 0, _, _ => []
  | f + 1, p, l => if l = [] then [] else ⟨((rdL l).1 : Nat), (p : Nat), ((rdL l).2.1 : Nat), decide ((rdL l).2.2 = 0)⟩ :: piecesGo f (p + (rdL l).2.1) (l.drop (rdL l).2.1)
theorem piecesGo_runes : ∀ (f p : Nat) (l : List UInt8), (piecesGo f p l).map (fun x => x.f0) = runesGo f l
  | 0, p, l => rfl
  | f + 1, p, l => by
    unfold piecesGo runesGo
    by_cases h : l = []
    · rw [if_pos h, if_pos h]
      rfl
    · rw [if_neg h, if_neg h, List.map_cons, piecesGo_runes f]
theorem piecesGo_len : ∀ (f p : Nat) (l : List UInt8), (piecesGo f p l).length ≤ l.length
  | 0, p, l => Nat.zero_le _
  | f + 1, p, l => by
    unfold piecesGo
    by_cases h : l = []
    · rw [if_pos h]
      exact Nat.zero_le _
    · rw [if_neg h, List.length_cons]
      have := piecesGo_len f (p + (rdL l).2.1) (l.drop (rdL l).2.1)
      have h1 := (rdL_facts l h).1
      have hl : 0 < l.length := List.length_pos_iff.2 h
      rw [List.length_drop] at this
      omega
def ValN (n z b0 b1 b2 b3 : Nat) (r : Nat × Nat × Nat) : Prop :=
  (z = 0 → r.2.1 = 1 ∧ r.2.2 ≠ 0) ∧ (r.2.2 = 0 → r.2.1 = z ∧ 1 ≤ z ∧ z ≤ n ∧
    r.1 = (if z = 1 then b0 else if z = 2 then b0 % 32 * 64 + b1 % 64 else if z = 3 then b0 % 16 * 4096 + b1 % 64 * 64 + b2 % 64 else b0 % 8 * 262144 + b1 % 64 * 4096 + b2 % 64 * 64 + b3 % 64))
theorem rdN_val (n b0 b1 b2 b3 : Nat) (hn : 1 ≤ n) : ValN n (sizeN b0) b0 b1 b2 b3 (rdN n b0 b1 b2 b3) := by
  have f1 := sizeN_facts b0
  generalize sizeN b0 = z at *
  have w1 : ∀ (a : Nat), ValN n 0 b0 b1 b2 b3 (65533, 1, 1) := fun a => ⟨fun _ => ⟨rfl, by decide⟩, fun h => absurd h (by decide)⟩
  have w2 : ∀ (a c : Nat), z ≠ 0 → c ≠ 0 → ValN n z b0 b1 b2 b3 (65533, a, c) := fun a c hz hc => ⟨fun h => absurd h hz, fun h => absurd h hc⟩
  unfold rdN
  by_cases c0 : b0 < 128
  · rw [if_pos c0]
    obtain rfl : z = 1 := by omega
    exact ⟨fun h => absurd h (by decide), fun _ => ⟨rfl, Nat.le_refl _, hn, by rw [if_pos rfl]⟩⟩
  rw [if_neg c0]
  by_cases c1 : b0 < 194
  · rw [if_pos c1]
    obtain rfl : z = 0 := by omega
    exact w1 0
  rw [if_neg c1]
  by_cases c2 : b0 < 224
  · rw [if_pos c2]
    obtain rfl : z = 2 := by omega
    by_cases d1 : n ≤ 1
    · rw [if_pos d1]; exact w2 _ _ (by decide) (by decide)
    rw [if_neg d1]
    by_cases d2 : b1 < 128 ∨ 191 < b1
    · rw [if_pos d2]; exact w2 _ _ (by decide) (by decide)
    · rw [if_neg d2]
      exact ⟨fun h => absurd h (by decide), fun _ => ⟨rfl, by decide, by omega, by rw [if_neg (by decide), if_pos rfl]⟩⟩
  rw [if_neg c2]
  by_cases c3 : b0 < 240
  · rw [if_pos c3]
    obtain rfl : z = 3 := by omega
    by_cases d1 : n ≤ 1
    · rw [if_pos d1]; exact w2 _ _ (by decide) (by decide)
    rw [if_neg d1]
    by_cases d2 : b1 < 128 ∨ 191 < b1 ∨ (b0 = 224 ∧ b1 < 160) ∨ (b0 = 237 ∧ 159 < b1)
    · rw [if_pos d2]; exact w2 _ _ (by decide) (by decide)
    rw [if_neg d2]
    by_cases d3 : n ≤ 2
    · rw [if_pos d3]; exact w2 _ _ (by decide) (by decide)
    rw [if_neg d3]
    by_cases d4 : b2 < 128 ∨ 191 < b2
    · rw [if_pos d4]; exact w2 _ _ (by decide) (by decide)
    · rw [if_neg d4]
      exact ⟨fun h => absurd h (by decide), fun _ => ⟨rfl, by decide, by omega, by rw [if_neg (by decide), if_neg (by decide), if_pos rfl]⟩⟩
  rw [if_neg c3]
  by_cases c4 : b0 < 245
  · rw [if_pos c4]
    obtain rfl : z = 4 := by omega
    by_cases d1 : n ≤ 1
    · rw [if_pos d1]; exact w2 _ _ (by decide) (by decide)
    rw [if_neg d1]
    by_cases d2 : b1 < 128 ∨ 191 < b1 ∨ (b0 = 240 ∧ b1 < 144) ∨ (b0 = 244 ∧ 143 < b1)
    · rw [if_pos d2]; exact w2 _ _ (by decide) (by decide)
    rw [if_neg d2]
    by_cases d3 : n ≤ 2
    · rw [if_pos d3]; exact w2 _ _ (by decide) (by decide)
    rw [if_neg d3]
    by_cases d4 : b2 < 128 ∨ 191 < b2
    · rw [if_pos d4]; exact w2 _ _ (by decide) (by decide)
    rw [if_neg d4]
    by_cases d5 : n ≤ 3
    · rw [if_pos d5]; exact w2 _ _ (by decide) (by decide)
    rw [if_neg d5]
    by_cases d6 : b3 < 128 ∨ 191 < b3
    · rw [if_pos d6]; exact w2 _ _ (by decide) (by decide)
    · rw [if_neg d6]
      exact ⟨fun h => absurd h (by decide), fun _ => ⟨rfl, by decide, by omega, by rw [if_neg (by decide), if_neg (by decide), if_neg (by decide)]⟩⟩
  · rw [if_neg c4]
    obtain rfl : z = 0 := by omega
    exact w1 0
theorem tmod_nat (a b : Nat) : Int.tmod (a : Int) (b : Int) = ((a % b : Nat) : Int) := (Int.ofNat_tmod a b).symm
theorem l1_go (k : Nat) (l : List UInt8) (hl : l.length ≤ 1099511627776) (out : List Pc) (p n x i : Nat) (t0 t1 t2 : Int) (b : Bool) (hp : p + n ≤ l.length) (hn : n ≤ 4) (hi : i < n) (hx : x < 33554431) :
    sieveref01_Pieces.l1 (k + 1) (zs l) out (p : Int) (n : Int) (x : Int) (i : Int) t0 t1 t2 b =
      sieveref01_Pieces.l1 k (zs l) out (p : Int) (n : Int) ((x * 64 + (l.getD (p + i) 0).toNat % 64 : Nat) : Int) ((i + 1 : Nat) : Int) t0 t1 t2 b := by
  have q := (l.getD (p + i) 0).toNat_lt
  have e0 : wrap64 ((p : Int) + (i : Int)) = ((p + i : Nat) : Int) := by unfold wrap64; omega
  have e1 : wrap64 ((i : Int) + 1) = ((i + 1 : Nat) : Int) := by clear e0; unfold wrap64; omega
  have e2 : wrap32 ((x : Int) * 64) = ((x * 64 : Nat) : Int) := by clear e0 e1; unfold wrap32; omega
  have e3 : Int.tmod (((l.getD (p + i) 0).toNat : Nat) : Int) 64 = (((l.getD (p + i) 0).toNat % 64 : Nat) : Int) := tmod_nat _ 64
  rw [sieveref01_Pieces.l1, zs_length, if_pos (by omega), e0, if_pos (by omega), if_pos (by omega), rd_zs, e1, e2, wrap32_nat _ (by omega), e3]
  have e4 : wrap32 (((x * 64 : Nat) : Int) + (((l.getD (p + i) 0).toNat % 64 : Nat) : Int)) = ((x * 64 + (l.getD (p + i) 0).toNat % 64 : Nat) : Int) := by
    generalize (l.getD (p + i) 0).toNat = z at *
    clear e0 e1 e2 e3
    unfold wrap32
    omega
  rw [e4]
theorem l1_end (k : Nat) (l : List UInt8) (out : List Pc) (ho : out.length < 4398046511104) (p n x i : Nat) (t0 t1 t2 : Int) (b : Bool) (hi : n ≤ i) :
    sieveref01_Pieces.l1 (k + 1) (zs l) out (p : Int) (n : Int) (x : Int) (i : Int) t0 t1 t2 b = sieveref01_Pieces.l0 k (zs l) (out ++ [⟨(x : Int), t1, t2, b⟩]) (wrap64 ((p : Int) + t2)) := by
  rw [sieveref01_Pieces.l1, if_neg (by omega), if_pos ho]
theorem getD_drop (l : List UInt8) (p i : Nat) : (l.drop p).getD i 0 = l.getD (p + i) 0 := by
  simp [List.getD_eq_getElem?_getD, List.getElem?_drop]
/-- a whole character, byte by byte -/
theorem l1_all (k : Nat) (l : List UInt8) (hl : l.length ≤ 1099511627776) (out : List Pc) (ho : out.length < 4398046511104) (p n : Nat) (hn1 : 1 ≤ n) (hn4 : n ≤ 4) (hp : p + n ≤ l.length) (b0 b1 b2 b3 : Nat) (hb : b0 < 256)
    (e1 : (l.getD (p + 1) 0).toNat = b1) (e2 : (l.getD (p + 2) 0).toNat = b2) (e3 : (l.getD (p + 3) 0).toNat = b3) :
    ∃ j, k ≤ j ∧ (if (n : Int) = 2 then sieveref01_Pieces.j2 (k + 7) (zs l) out (p : Int) (n : Int) ((b0 % 32 : Nat) : Int) 65533 (p : Int) (n : Int) true
      else if (n : Int) = 3 then sieveref01_Pieces.j2 (k + 7) (zs l) out (p : Int) (n : Int) ((b0 % 16 : Nat) : Int) 65533 (p : Int) (n : Int) true
      else if (n : Int) = 4 then sieveref01_Pieces.j2 (k + 7) (zs l) out (p : Int) (n : Int) ((b0 % 8 : Nat) : Int) 65533 (p : Int) (n : Int) true
      else sieveref01_Pieces.j2 (k + 7) (zs l) out (p : Int) (n : Int) (b0 : Int) 65533 (p : Int) (n : Int) true) =
    sieveref01_Pieces.l0 j (zs l) (out ++ [⟨((if n = 1 then b0 else if n = 2 then b0 % 32 * 64 + b1 % 64 else if n = 3 then b0 % 16 * 4096 + b1 % 64 * 64 + b2 % 64 else b0 % 8 * 262144 + b1 % 64 * 4096 + b2 % 64 * 64 + b3 % 64 : Nat) : Int), (p : Int), (n : Int), true⟩]) (wrap64 ((p : Int) + (n : Int))) := by
  have hn : n = 1 ∨ n = 2 ∨ n = 3 ∨ n = 4 := by omega
  rcases hn with rfl | rfl | rfl | rfl
  · have s1 := l1_end (k + 5) l out ho p 1 b0 1 65533 (p : Int) ((1 : Nat) : Int) true (by omega)
    refine ⟨k + 5, by omega, ?_⟩
    rw [if_neg (by decide), if_neg (by decide), if_neg (by decide), if_pos rfl, sieveref01_Pieces.j2]
    exact s1
  · have s1 := l1_go (k + 5) l hl out p 2 (b0 % 32) 1 65533 (p : Int) ((2 : Nat) : Int) true hp (by omega) (by omega) (by omega)
    have s2 := l1_end (k + 4) l out ho p 2 (b0 % 32 * 64 + b1 % 64) 2 65533 (p : Int) ((2 : Nat) : Int) true (by omega)
    rw [e1] at s1
    refine ⟨k + 4, by omega, ?_⟩
    rw [if_pos (by decide), if_neg (by decide), if_pos rfl, sieveref01_Pieces.j2]
    exact s1.trans s2
  · have s1 := l1_go (k + 5) l hl out p 3 (b0 % 16) 1 65533 (p : Int) ((3 : Nat) : Int) true hp (by omega) (by omega) (by omega)
    have s2 := l1_go (k + 4) l hl out p 3 (b0 % 16 * 64 + b1 % 64) 2 65533 (p : Int) ((3 : Nat) : Int) true hp (by omega) (by omega) (by omega)
    have s3 := l1_end (k + 3) l out ho p 3 ((b0 % 16 * 64 + b1 % 64) * 64 + b2 % 64) 3 65533 (p : Int) ((3 : Nat) : Int) true (by omega)
    rw [e1] at s1
    rw [e2] at s2
    refine ⟨k + 3, by omega, ?_⟩
    rw [if_neg (by decide), if_pos (by decide), if_neg (by decide), if_neg (by decide), if_pos rfl, sieveref01_Pieces.j2, show b0 % 16 * 4096 + b1 % 64 * 64 + b2 % 64 = (b0 % 16 * 64 + b1 % 64) * 64 + b2 % 64 by omega]
    exact s1.trans (s2.trans s3)
  · have s1 := l1_go (k + 5) l hl out p 4 (b0 % 8) 1 65533 (p : Int) ((4 : Nat) : Int) true hp (by omega) (by omega) (by omega)
    have s2 := l1_go (k + 4) l hl out p 4 (b0 % 8 * 64 + b1 % 64) 2 65533 (p : Int) ((4 : Nat) : Int) true hp (by omega) (by omega) (by omega)
    have s3 := l1_go (k + 3) l hl out p 4 ((b0 % 8 * 64 + b1 % 64) * 64 + b2 % 64) 3 65533 (p : Int) ((4 : Nat) : Int) true hp (by omega) (by omega) (by omega)
    have s4 := l1_end (k + 2) l out ho p 4 (((b0 % 8 * 64 + b1 % 64) * 64 + b2 % 64) * 64 + b3 % 64) 4 65533 (p : Int) ((4 : Nat) : Int) true (by omega)
    rw [e1] at s1
    rw [e2] at s2
    rw [e3] at s3
    refine ⟨k + 2, by omega, ?_⟩
    rw [if_neg (by decide), if_neg (by decide), if_pos (by decide), if_neg (by decide), if_neg (by decide), if_neg (by decide), sieveref01_Pieces.j2,
      show b0 % 8 * 262144 + b1 % 64 * 4096 + b2 % 64 * 64 + b3 % 64 = ((b0 % 8 * 64 + b1 % 64) * 64 + b2 % 64) * 64 + b3 % 64 by omega]
    exact s1.trans (s2.trans (s3.trans s4))
/-- one round -/
theorem pieces_step (k : Nat) (l : List UInt8) (hl : l.length ≤ 1099511627776) (out : List Pc) (ho : out.length < 4398046511104) (p : Nat) (hp : p < l.length) :
    ∃ j, k ≤ j ∧ sieveref01_Pieces.l0 (k + 9) (zs l) out (p : Int) = sieveref01_Pieces.l0 j (zs l) (out ++ [⟨((rdL (l.drop p)).1 : Nat), (p : Nat), ((rdL (l.drop p)).2.1 : Nat), decide ((rdL (l.drop p)).2.2 = 0)⟩]) ((p + (rdL (l.drop p)).2.1 : Nat) : Int) := by
  have hne : l.drop p ≠ [] := by
    rw [ne_eq, List.drop_eq_nil_iff]
    omega
  have hf := rdL_facts _ hne
  have hdl : (l.drop p).length = l.length - p := by rw [List.length_drop]
  have hd0 : (zs l).drop p = zs (l.drop p) := by unfold zs; rw [List.map_drop]
  have hv : ValN (l.drop p).length (sizeN ((l.drop p).getD 0 0).toNat) ((l.drop p).getD 0 0).toNat ((l.drop p).getD 1 0).toNat ((l.drop p).getD 2 0).toNat ((l.drop p).getD 3 0).toNat (rdL (l.drop p)) := rdN_val _ _ _ _ _ (by rw [hdl]; omega)
  rw [getD_drop, getD_drop, getD_drop, getD_drop, Nat.add_zero] at hv
  rw [sieveref01_Pieces.l0, zs_length, if_pos (by omega), if_pos (by omega), if_pos (by omega), Int.toNat_natCast, hd0, good_f k _ hne, Option.bind_some]
  unfold goodL
  rw [getD_drop, Nat.add_zero]
  have q0 := (l.getD p 0).toNat_lt
  have hs4 := sizeN_le (l.getD p 0).toNat
  rw [hdl] at hv hf
  have HD := Aside0.mk hd0
  clear hd0
  generalize rdL (l.drop p) = q at *
  obtain ⟨q1, q2, q3⟩ := q
  unfold FactsN at hf
  simp only at hf
  have hf3 := hf.2.2.2.2.2
  have hf1 := hf.1
  have hf2 := hf.2.1
  clear hf
  have hw : wrap64 ((p : Int) + (q2 : Int)) = ((p + q2 : Nat) : Int) := by
    clear hv hf3
    unfold wrap64
    omega
  have HW := Aside0.mk hw
  clear hw
  simp only
  rw [← HW.out]
  by_cases c0 : sizeN (l.getD p 0).toNat = 0
  · obtain ⟨hw1, hw2⟩ := hv.1 c0
    simp only at hw1 hw2
    rw [if_pos c0]
    simp only
    rw [if_pos trivial, sieveref01_Pieces.j1, if_neg (by decide), if_pos ho, decide_eq_false hw2, hf3 hw2, hw1]
    exact ⟨k + 7, by omega, rfl⟩
  · rw [if_neg c0]
    simp only
    rw [if_neg (by omega), sieveref01_Pieces.j1]
    by_cases c1 : q3 = 0
    · obtain ⟨v1, v2, v3, v4⟩ := hv.2 c1
      simp only at v1 v4
      have e32 : Int.tmod (((l.getD p 0).toNat : Nat) : Int) 32 = (((l.getD p 0).toNat % 32 : Nat) : Int) := tmod_nat _ 32
      have e16 : Int.tmod (((l.getD p 0).toNat : Nat) : Int) 16 = (((l.getD p 0).toNat % 16 : Nat) : Int) := tmod_nat _ 16
      have e8 : Int.tmod (((l.getD p 0).toNat : Nat) : Int) 8 = (((l.getD p 0).toNat % 8 : Nat) : Int) := tmod_nat _ 8
      rw [decide_eq_true c1, if_pos rfl, if_pos (by omega), if_pos (by rw [zs_length]; omega), rd_zs, wrap32_nat _ (by omega), e32, e16, e8, v4, ← v1]
      exact l1_all k l hl out ho p q2 (by omega) (by omega) (by omega) (l.getD p 0).toNat _ _ _ q0 rfl rfl rfl
    · rw [decide_eq_false c1, if_neg (by decide), if_pos ho, hf3 c1]
      exact ⟨k + 7, by omega, rfl⟩
theorem pieces_go (l : List UInt8) (hl : l.length ≤ 1099511627776) : ∀ (d p : Nat) (out : List Pc), l.length - p = d → p ≤ l.length → out.length ≤ p →
    ∃ k, sieveref01_Pieces.l0 k (zs l) out (p : Int) = some (out ++ piecesGo (l.length - p) p (l.drop p)) := by
  intro d
  induction d using Nat.strongRecOn with
  | _ d ih =>
    intro p out hd hp hop
    by_cases c : p < l.length
    · have hne : l.drop p ≠ [] := by
        rw [ne_eq, List.drop_eq_nil_iff]
        omega
      have hf := rdL_facts _ hne
      have hdl : (l.drop p).length = l.length - p := by rw [List.length_drop]
      have h1 := hf.1
      have h2 := hf.2.1
      rw [hdl] at h2
      obtain ⟨k, hk⟩ := ih (l.length - (p + (rdL (l.drop p)).2.1)) (by omega) (p + (rdL (l.drop p)).2.1) (out ++ [⟨((rdL (l.drop p)).1 : Nat), (p : Nat), ((rdL (l.drop p)).2.1 : Nat), decide ((rdL (l.drop p)).2.2 = 0)⟩]) rfl (by omega) (by rw [List.length_append, List.length_singleton]; omega)
      obtain ⟨j, hj, e⟩ := pieces_step k l hl out (by omega) p c
      refine ⟨k + 9, ?_⟩
      rw [e, at_rounds (fun k => (sieveref01_Pieces.mono_l k).1 _ _ _) hj hk]
      congr 1
      obtain ⟨f, hf2⟩ : ∃ f, l.length - p = f + 1 := ⟨l.length - p - 1, by omega⟩
      rw [hf2, piecesGo, if_neg hne, List.append_assoc, List.singleton_append, List.drop_drop]
      congr 2
      have : ∀ (f g : Nat) (q : Nat) (m : List UInt8), m.length ≤ f → m.length ≤ g → piecesGo f q m = piecesGo g q m := by
        intro f
        induction f with
        | zero =>
          intro g q m hf hg
          obtain rfl : m = [] := List.eq_nil_of_length_eq_zero (by omega)
          cases g <;> simp [piecesGo]
        | succ f ih =>
          intro g q m hf hg
          cases g with
          | zero =>
            obtain rfl : m = [] := List.eq_nil_of_length_eq_zero (by omega)
            simp [piecesGo]
          | succ g =>
            unfold piecesGo
            by_cases hm : m = []
            · rw [if_pos hm, if_pos hm]
            · have := (rdL_facts m hm).1
              have hml : 0 < m.length := List.length_pos_iff.2 hm
              rw [if_neg hm, if_neg hm, ih g _ _ (by rw [List.length_drop]; omega) (by rw [List.length_drop]; omega)]
      exact this _ _ _ _ (by rw [List.length_drop]; omega) (by rw [List.length_drop]; omega)
    · have e : l.length - p = 0 := by omega
      refine ⟨1, ?_⟩
      rw [sieveref01_Pieces.l0, zs_length, if_neg (by omega), e, piecesGo, List.append_nil]
theorem pieces_f (l : List UInt8) (hl : l.length ≤ 1099511627776) : ∃ k, sieveref01_Pieces.f k (zs l) = some (piecesGo l.length 0 l) := by
  obtain ⟨k, hk⟩ := pieces_go l hl l.length 0 [] (by omega) (by omega) (Nat.le_refl _)
  refine ⟨k, ?_⟩
  unfold sieveref01_Pieces.f
  rw [Nat.sub_zero, List.drop_zero, List.nil_append] at hk
  exact hk
theorem runes_l0 (xs : List Pc) (hx : xs.length ≤ 1099511627776) : ∀ (d i k : Nat) (out : List Int), xs.length - i = d → i ≤ xs.length → out.length = i → d + 1 ≤ k →
    sieveref01_Runes.l0 k out xs (xs.length : Int) (i : Int) = some (out ++ (xs.drop i).map (fun x => x.f0))
  | 0, i, k, out, hd, hi, ho, hk => by
    obtain ⟨k, rfl⟩ : ∃ j, k = j + 1 := ⟨k - 1, by omega⟩
    obtain rfl : i = xs.length := by omega
    rw [sieveref01_Runes.l0, if_neg (by omega), List.drop_length, List.map_nil, List.append_nil]
  | d + 1, i, k, out, hd, hi, ho, hk => by
    obtain ⟨k, rfl⟩ : ∃ j, k = j + 1 := ⟨k - 1, by omega⟩
    have hlt : i < xs.length := by omega
    have e1 : wrap64 ((i : Int) + 1) = ((i + 1 : Nat) : Int) := by unfold wrap64; omega
    have er : rd_T70 xs (i : Int) = xs[i] := by
      unfold rd_T70
      rw [Int.toNat_natCast, List.getD_eq_getElem?_getD, List.getElem?_eq_getElem hlt]
      rfl
    rw [sieveref01_Runes.l0, if_pos (by omega), if_pos (by omega), if_pos (by omega), if_pos (by omega), e1, er, runes_l0 xs hx d (i + 1) k _ (by omega) (by omega) (by rw [List.length_append, List.length_singleton]; omega) (by omega)]
    rw [List.drop_eq_getElem_cons hlt, List.map_cons, List.append_assoc, List.singleton_append]
theorem runes_f (l : List UInt8) (hl : l.length ≤ 1099511627776) : ∃ k, sieveref01_Runes.f k (zs l) = some (runes l) := by
  obtain ⟨k, hk⟩ := pieces_f l hl
  have hlen := piecesGo_len l.length 0 l
  have h2 := runes_l0 (piecesGo l.length 0 l) (by omega) _ 0 (k + (piecesGo l.length 0 l).length + 1) [] rfl (by omega) rfl (by omega)
  refine ⟨k + (piecesGo l.length 0 l).length + 1, ?_⟩
  unfold sieveref01_Runes.f
  rw [at_rounds (sieveref01_Pieces.mono _) (by omega) hk, Option.bind_some]
  refine Eq.trans h2 ?_
  rw [List.nil_append, List.drop_zero, piecesGo_runes]
  rfl

end Go.Proofs.YthmbbkbmlnaghaaDoor.P
end
section
/-
 The document's answer for bytes and runes, in plain Lean: the text of runes is 'text'.
-/
namespace Go.Proofs.YthmbbkbmlnaghaaDoor.P
open Go.RowKit Go.Proofs.YthmbbkbmlnaghaaDoorW.PrintWords Go.Proofs.YthmbbkbmlnaghaaDoorW.PrintLast Go.Proofs.YthmbbkbmlnaghaaDoorW.PrintMore
set_option linter.unusedVariables false
set_option linter.unusedSimpArgs false

/-! ### runes to bytes -/
theorem char_f (r : Int) : sieveref01_Char.f r = some (decide (goodR r)) := by
 have hg : goodR r ↔ (0 ≤ r ∧ r < 55296) ∨ (57344 ≤ r ∧ r ≤ 1114111) := Iff.rfl
 unfold sieveref01_Char.f
 by_cases h0 : r ≥ 0
 ·rw [if_pos h0]
  by_cases h1 : r ≤ 1114111
  ·rw [if_pos h1]
   by_cases h2 : r < 55296
   ·rw [if_pos h2, decide_eq_true (hg.2 (by omega))]
   ·rw [if_neg h2]
    congr 1
    rw [decide_eq_decide, hg]
    omega
  ·rw [if_neg h1, decide_eq_false (fun h => by have := hg.1 h; omega)]
 ·rw [if_neg h0, decide_eq_false (fun h => by have := hg.1 h; omega)]
theorem width_f (r : Int) (h : goodR r) : sieveref01_Width.f r = some (if r < 128 then 1 else if r < 2048 then 2 else if r < 65536 then 3 else 4) := by
 unfold sieveref01_Width.f
 rw [char_f, decide_eq_true h, Option.bind_some, if_pos rfl]
 repeat' split
 all_goals rfl
theorem zs_encode (z : List Int) (h : ∀ x ∈ z, 0 ≤ x ∧ x < 256) : zs (z.map fun x => x.toNat.toUInt8) = z := by
 unfold zs
 rw [List.map_map]
 conv => rhs; rw [← List.map_id z]
 refine List.map_congr_left fun x hx => ?_
 have := h x hx
 have e : (x.toNat.toUInt8).toNat = x.toNat % 256 := by simp
 show (((x.toNat.toUInt8).toNat : Nat) : Int) = x
 rw [e]
 omega
theorem tdiv_nat (a b : Nat) : Int.tdiv (a : Int) (b : Int) = ((a / b : Nat) : Int) := (Int.ofNat_tdiv a b).symm
theorem wrap_byte (a b : Nat) (h : a + b < 256) : wrap32 ((a : Int) + (b : Int)) % 256 = (a : Int) + (b : Int) := by unfold wrap32; omega
theorem enc_hi (c r m : Nat) (h : c + r / m < 256) : wrap32 ((c : Int) + wrap32 (Int.tdiv (r : Int) (m : Int))) % 256 = (c : Int) + (r : Int) / (m : Int) := by
 rw [tdiv_nat, wrap32_nat _ (by omega), wrap_byte _ _ h, Int.natCast_ediv]
theorem enc_mid (r m : Nat) (h : r / m < 2147483648) : wrap32 (((128 : Nat) : Int) + Int.tmod (wrap32 (Int.tdiv (r : Int) (m : Int))) ((64 : Nat) : Int)) % 256 = ((128 : Nat) : Int) + (r : Int) / (m : Int) % ((64 : Nat) : Int) := by
 rw [tdiv_nat, wrap32_nat _ h, tmod_nat, wrap_byte _ _ (by omega), Int.natCast_emod, Int.natCast_ediv]
theorem enc_lo (r : Nat) : wrap32 (((128 : Nat) : Int) + Int.tmod (r : Int) ((64 : Nat) : Int)) % 256 = ((128 : Nat) : Int) + (r : Int) % ((64 : Nat) : Int) := by
 rw [tmod_nat, wrap_byte _ _ (by omega), Int.natCast_emod]
theorem bytes_j0 (k : Nat) (r : Nat) (h : goodR (r : Int)) : sieveref01_bytesOf.j0 (k + 1) (r : Int) = some (Lib.encodeRuneZ (r : Int)) := by
 have hr : (r < 55296) ∨ (57344 ≤ r ∧ r ≤ 1114111) := by unfold goodR at h; omega
 rw [sieveref01_bytesOf.j0, width_f _ h, Option.bind_some]
 have lo : wrap32 (128 + Int.tmod (r : Int) 64) % 256 = 128 + (r : Int) % 64 := enc_lo r
 by_cases c1 : r < 128
 ·rw [if_pos (show (r : Int) < 128 by omega), if_pos rfl, Lib.encodeRuneZ_one (by omega) (by omega), show (r : Int) % 256 = r by omega]
 rw [if_neg (show ¬ (r : Int) < 128 by omega)]
 by_cases c2 : r < 2048
 ·have hi : wrap32 (192 + wrap32 (Int.tdiv (r : Int) 64)) % 256 = 192 + (r : Int) / 64 := enc_hi 192 r 64 (by omega)
  rw [if_pos (show (r : Int) < 2048 by omega), if_neg (by decide), if_pos rfl, Lib.encodeRuneZ_two (by omega) (by omega), hi, lo]
 rw [if_neg (show ¬ (r : Int) < 2048 by omega)]
 by_cases c3 : r < 65536
 ·have hi : wrap32 (224 + wrap32 (Int.tdiv (r : Int) 4096)) % 256 = 224 + (r : Int) / 4096 := enc_hi 224 r 4096 (by omega)
  have mi : wrap32 (128 + Int.tmod (wrap32 (Int.tdiv (r : Int) 64)) 64) % 256 = 128 + (r : Int) / 64 % 64 := enc_mid r 64 (by omega)
  rw [if_pos (show (r : Int) < 65536 by omega), if_neg (by decide), if_neg (by decide), if_pos rfl, Lib.encodeRuneZ_three (by omega), hi, mi, lo]
 ·have hi : wrap32 (240 + wrap32 (Int.tdiv (r : Int) 262144)) % 256 = 240 + (r : Int) / 262144 := enc_hi 240 r 262144 (by omega)
  have m2 : wrap32 (128 + Int.tmod (wrap32 (Int.tdiv (r : Int) 4096)) 64) % 256 = 128 + (r : Int) / 4096 % 64 := enc_mid r 4096 (by omega)
  have mi : wrap32 (128 + Int.tmod (wrap32 (Int.tdiv (r : Int) 64)) 64) % 256 = 128 + (r : Int) / 64 % 64 := enc_mid r 64 (by omega)
  rw [if_neg (show ¬ (r : Int) < 65536 by omega), if_neg (by decide), if_neg (by decide), if_neg (by decide), Lib.encodeRuneZ_four (by omega) (by omega), hi, m2, mi, lo]
theorem bytesOf_f (k : Nat) (r : Int) : sieveref01_bytesOf.f (k + 1) r = some (zs (Lib.encodeRune r)) := by
 unfold sieveref01_bytesOf.f Lib.encodeRune
 rw [zs_encode _ (Lib.encodeRuneZ_byte r), char_f, Option.bind_some]
 by_cases h : goodR r
 ·rw [decide_eq_true h, if_pos rfl]
  obtain ⟨n, rfl⟩ : ∃ n : Nat, r = n := ⟨r.toNat, by unfold goodR at h; omega⟩
  exact bytes_j0 k n h
 ·rw [decide_eq_false h, if_neg (by decide)]
  rw [Lib.encodeRuneZ_bad (by unfold goodR at h; omega)]
  exact (bytes_j0 k 65533 (by decide)).trans (by decide)
theorem encode_len (r : Int) : 1 ≤ (Lib.encodeRune r).length ∧ (Lib.encodeRune r).length ≤ 4 := by
 unfold Lib.encodeRune
 rw [List.length_map]
 exact Lib.encodeRuneZ_length r
theorem bytes_l0 (xs : List Int) (hx : xs.length ≤ 4398046511104) : ∀ (d i k : Nat) (out : List UInt8), xs.length - i = d → i ≤ xs.length → out.length ≤ 4 * i → d + 2 ≤ k →
  sieveref01_Bytes.l0 k (zs out) xs (xs.length : Int) (i : Int) = some (zs (out ++ text (xs.drop i)))
 | 0, i, k, out, hd, hi, ho, hk => by
  obtain ⟨k, rfl⟩ : ∃ j, k = j + 1 := ⟨k - 1, by omega⟩
  obtain rfl : i = xs.length := by omega
  rw [sieveref01_Bytes.l0, if_neg (by omega), List.drop_length, text_nil, List.append_nil]
 | d + 1, i, k, out, hd, hi, ho, hk => by
  obtain ⟨k, rfl⟩ : ∃ j, k = j + 2 := ⟨k - 2, by omega⟩
  have hlt : i < xs.length := by omega
  have e1 : wrap64 ((i : Int) + 1) = ((i + 1 : Nat) : Int) := by unfold wrap64; omega
  have er : rd xs (i : Int) = xs[i] := by
   unfold rd
   rw [Int.toNat_natCast, List.getD_eq_getElem?_getD, List.getElem?_eq_getElem hlt]
   rfl
  have hz : zs out ++ zs (Lib.encodeRune xs[i]) = zs (out ++ Lib.encodeRune xs[i]) := by unfold zs; rw [List.map_append]
  have h4 := (encode_len xs[i]).2
  rw [sieveref01_Bytes.l0, if_pos (by omega), if_pos (by omega), if_pos (by omega), er, bytesOf_f, Option.bind_some, zs_length, zs_length, if_pos (by omega), hz, e1,
   bytes_l0 xs hx d (i + 1) (k + 1) _ (by omega) (by omega) (by rw [List.length_append]; omega) (by omega)]
  rw [List.drop_eq_getElem_cons hlt, text_cons, List.append_assoc]
theorem text_f (xs : List Int) (hx : xs.length ≤ 4398046511104) (k : Nat) (hk : xs.length + 2 ≤ k) : sieveref01_Text.f k xs = some ⟨(text xs).toArray⟩ := by
 unfold sieveref01_Text.f sieveref01_Bytes.f
 have h := bytes_l0 xs hx xs.length 0 k [] (by omega) (by omega) (Nat.zero_le _) (by omega)
 rw [show sieveref01_Bytes.l0 k ([] : List Int) xs (xs.length : Int) 0 = some (zs ([] ++ text (xs.drop 0))) from h, Option.bind_some, List.nil_append, List.drop_zero]
 congr 1
 have : zs (text xs) = (text xs).map fun b => (b.toNat : Int) := rfl
 rw [this]
 unfold strOfNums
 rw [List.map_map]
 congr 2
 conv => rhs; rw [← List.map_id (text xs)]
 refine List.map_congr_left fun b _ => ?_
 show UInt8.ofNat ((b.toNat : Int)).toNat = b
 rw [Int.toNat_natCast]
 exact UInt8.ofNat_toNat
end Go.Proofs.YthmbbkbmlnaghaaDoor.P
end
section
/-
 sieveref01.Mend: the text of the runes of a text's bytes.
-/
namespace Go.Proofs.YthmbbkbmlnaghaaDoor.P
open Go.RowKit Go.Proofs.YthmbbkbmlnaghaaDoorW.PrintWords Go.Proofs.YthmbbkbmlnaghaaDoorW.PrintLast Go.Proofs.YthmbbkbmlnaghaaDoorW.PrintMore
set_option linter.unusedVariables false
set_option linter.unusedSimpArgs false

def sieveref01_Mend.f (s : ByteArray) : Option ByteArray := if s.size ≤ 1099511627776 then some ⟨(mendL s.data.toList).toArray⟩ else none

theorem runes_len : ∀ (n : Nat) (l : List UInt8), l.length ≤ n → (runes l).length ≤ l.length
 | 0, l, h => by
  obtain rfl : l = [] := List.eq_nil_of_length_eq_zero (by omega)
  exact Nat.le_refl _
 | n + 1, l, h => by
  by_cases hne : l = []
  ·subst hne
   exact Nat.le_refl _
  ·have hw := (rdL_facts l hne).1
   have hl : 0 < l.length := List.length_pos_iff.2 hne
   rw [runes_step l hne, List.length_cons]
   have := runes_len n (l.drop (rdL l).2.1) (by rw [List.length_drop]; omega)
   rw [List.length_drop] at this
   omega
/-- a text's bytes, made: what a call may read -/
theorem bytes_read (w : World) (s : ByteArray) (h : s.size ≤ 140737488355328) : Kd.C (Kd.int .u8) (Lib.bytesWorld w 5 s) (some ⟨w.heap.size, 0, none⟩) (zs s.data.toList).length (zs s.data.toList) := by
 have hz : (zs s.data.toList).length = s.size := by simp [zs]
 rw [hz]
 exact Kd.C_of_reads (enc := Value.int .u8) (d := (0 : Int)) (h1 := fun _ => rfl) ⟨by simp [zs], by omega, fun _ => ⟨_, rfl, fun j hj => by
  rw [add_plain, Lib.bytesWorld_cell w 5 s j hj]
  have := rd_zs s.data.toList j
  unfold rd at this
  rw [Int.toNat_natCast] at this
  rw [this]⟩⟩

set_option maxRecDepth 100000 in
set_option maxHeartbeats 4000000 in
theorem sieveref01_Mend.calls (s : ByteArray) (r : ByteArray) (w : World) (h : sieveref01_Mend.f s = some r) :
  Calls Tryd.prog 14 #[.string s] w fun e w' => e = .returned (.string r) ∧ Below w.heap.size w w' := by
 unfold sieveref01_Mend.f at h
 by_cases hsz : s.size ≤ 1099511627776
 case neg => rw [if_neg hsz] at h; cases h
 rw [if_pos hsz] at h
 have hr := Option.some.inj h
 clear h
 have HR := Aside0.mk hr
 clear hr
 have hl : s.data.toList.length = s.size := by simp
 have hcv := Lib.run_convert_string_bytes (P := Tryd.prog) w 9 46 5 s Tryd.underlying9 Tryd.underlying46 Tryd.underlying5
 have hbb := Lib.bytesWorld_below w 5 s
 have hbs := Lib.bytesWorld_size w 5 s
 have hrd := bytes_read w s (by omega)
 have hz : (zs s.data.toList).length = s.size := by simp [zs]
 obtain ⟨k1, hk1⟩ := runes_f s.data.toList (by omega)
 have hrl := runes_len _ s.data.toList (Nat.le_refl _)
 have hk2 := text_f (runes s.data.toList) (by omega) ((runes s.data.toList).length + 2) (Nat.le_refl _)
 have hgc : (zs s.data.toList).length ≤ Go.grownCap w s.size 0 5 := by rw [hz]; exact grownCap_ge _ _ _ _
 have hcall := sieveref01_Runes.calls k1 (some ⟨w.heap.size, 0, none⟩) (Go.grownCap w s.size 0 5) (zs s.data.toList) _ _ hrd hgc hk1
 rw [hz] at hcall
 have HC := Aside0.mk hcall
 have HBB := Aside0.mk hbb
 have HK2 := Aside0.mk hk2
 clear hcall hrd hz hbb hk1 hk2 hrl hl hgc
 go_enter Tryd.func14, Tryd.ntmps14
 go_wp2_with (first | (go_at_call 27; refine HC.out.mono ?_; rintro e w2 ⟨v, rfl, hR, hb2⟩; obtain ⟨A2, c2, rfl, hc2, hC2⟩ := Kd.R_reads hR) | (go_at_call 26; refine (sieveref01_Text.calls _ A2 c2 _ _ _ hC2 hc2 HK2.out).mono ?_; rintro e w3 ⟨rfl, hb3⟩))
 go_ret
 refine ⟨?_, (HBB.out.trans (hb2.mono (by omega))).trans (hb3.mono ?_)⟩
 ·rw [← HR.out]
  rfl
 ·have := hb2.size
  omega
end Go.Proofs.YthmbbkbmlnaghaaDoor.P
end
section
/-
 sievelaw06.CharrefBack: the walk of the statement's own function.
-/
namespace Go.Proofs.YthmbbkbmlnaghaaDoor.P
open Go.RowKit Go.Proofs.YthmbbkbmlnaghaaDoorW.PrintWords Go.Proofs.YthmbbkbmlnaghaaDoorW.PrintLast Go.Proofs.YthmbbkbmlnaghaaDoorW.PrintMore
set_option linter.unusedVariables false
set_option linter.unusedSimpArgs false

theorem backL_len : ∀ rs : List Int, (backL rs).length ≤ 4 * rs.length
 | [] => Nat.zero_le _
 | r :: t => by
  have h1 := backL_len t
  have h2 : (Lib.encodeRune ((winN r.toNat : Nat) : Int)).length ≤ 4 := by
   unfold Lib.encodeRune
   rw [List.length_map]
   exact (Lib.encodeRuneZ_length _).2
  unfold backL at *
  rw [List.flatMap_cons, List.length_append, List.length_cons]
  omega
theorem win_five : ∀ k : Fin 32, (winL.getD k.val 0 = ((k.val + 128 : Nat) : Int)) ↔ (k.val = 1 ∨ k.val = 13 ∨ k.val = 15 ∨ k.val = 16 ∨ k.val = 29) := by decide +kernel
theorem winN_same (n : Nat) (h : n < 128 ∨ 159 < n ∨ n = 129 ∨ n = 141 ∨ n = 143 ∨ n = 144 ∨ n = 157) : winN n = n := by
 unfold winN
 by_cases c : 128 ≤ n ∧ n ≤ 159
 ·rw [if_pos c]
  have h5 := win_five ⟨n - 128, by omega⟩
  simp only [show n - 128 + 128 = n by omega] at h5
  rw [if_pos (h5.2 (by omega))]
 ·rw [if_neg c]
theorem winN_bad (n : Nat) (h0 : 128 ≤ n) (h1 : n ≤ 159) (h : ¬ (n = 129 ∨ n = 141 ∨ n = 143 ∨ n = 144 ∨ n = 157)) : winN n = 65533 := by
 unfold winN
 rw [if_pos ⟨h0, h1⟩]
 have h5 := win_five ⟨n - 128, by omega⟩
 simp only [show n - 128 + 128 = n by omega] at h5
 rw [if_neg (fun e => h (by have := h5.1 e; omega))]
theorem idx_str (a : ByteArray) (i : Nat) (hi : i < a.size) (W : World) : (Instr.index 9 (.string a) (.int .i64 (i : Int))).run Tryd.prog W = .ok (.int .u8 (((a[i]'hi).toNat : Nat) : Int)) W := by
 rw [run_index_string W 9 a .i64 _ Tryd.underlying9, dif_pos ⟨by omega, by omega⟩]
 have e : ((i : Int)).toNat = i := by omega
 simp only [e]

theorem encode_small (r : Int) : (Utf8.encode r).size ≤ 4 := by
 have he : (Utf8.encode r).data.toList = Lib.encodeRune r := encode_list r
 have hz : (Utf8.encode r).size = (Lib.encodeRune r).length := by rw [← he]; simp
 rw [hz]
 unfold Lib.encodeRune
 rw [List.length_map]
 exact (Lib.encodeRuneZ_length r).2
set_option maxRecDepth 100000 in
set_option maxHeartbeats 16000000 in
theorem CharrefBack_walk (s : ByteArray) (attr : Bool) (hs : s.size ≤ 1048576) (w : World) (ht : DbTab w) :
  Calls Tryd.prog 6 #[.string s, .bool attr] w fun e w' => e = .returned (.bool true) ∧ Below w.heap.size w w' := by
 have hml := mendS_list s
 have hl : s.data.toList.length = s.size := by simp
 have hm4 := mendL_len4 s.data.toList
 have hmv := mendL_valid s.data.toList
 have hmr : (runes (mendL s.data.toList)).length ≤ s.size := by
  rw [mendL_runes]
  have := runes_le _ s.data.toList (Nat.le_refl _)
  omega
 have hmg : goodsR (runes (mendL s.data.toList)) := runes_good _ _ (Nat.le_refl _)
 have hal : (ascS attr s).data.toList = ascL attr (runes (mendL s.data.toList)) := by unfold ascS; rw [hml]
 have haz : (ascS attr s).size = (ascL attr (runes (mendL s.data.toList))).length := by rw [← hal]; simp
 have hle := ascL_len attr (runes (mendL s.data.toList))
 have hbk := backL_len (runes (mendL s.data.toList))
 have HA := Aside0.mk (fun W h => ascii_calls s attr W hs h)
 have HM := Aside0.mk (fun W => sieveref01_Mend.calls s ⟨(mendL s.data.toList).toArray⟩ W (by unfold sieveref01_Mend.f; rw [if_pos (by omega)]))
 have hsafe := ascL_safe attr (runes (mendL s.data.toList))
 have hasc : asciiL (ascS attr s).data.toList := by rw [hal]; exact ascL_ascii _ _
 have hasz : (ascS attr s).size ≤ 106954752 := by rw [haz]; omega
 have hdec : ∀ attr' : Bool, charref_Decode.f 1000000000 (ascS attr s) attr' = some ⟨(backL (runes (mendL s.data.toList))).toArray⟩ := fun attr' => by
  rw [Decode_f (ascS attr s) attr' (by omega) 1000000000 (by omega), mendL_asciiL _ hasc, hal, ascL_says attr attr' _ hmg]
 have hsf : ∀ i (h : i < (ascS attr s).size), safeB attr ((ascS attr s)[i]'h) = true := fun i h => by
  refine hsafe _ ?_
  rw [← hal]
  exact Array.getElem_mem_toList h
 have HD := Aside0.mk (fun (attr' : Bool) (W : World) => charref_Decode.calls 1000000000 (ascS attr s) attr' _ W (hdec attr'))
 have hbz : (backL (runes (mendL s.data.toList))).length ≤ 4194304 := by omega
 have hmz : (⟨(mendL s.data.toList).toArray⟩ : ByteArray).size = (mendL s.data.toList).length := by show (mendL s.data.toList).toArray.size = _; simp
 have hmz2 : (⟨(mendL s.data.toList).toArray⟩ : ByteArray).size ≤ 16777216 := by rw [hmz]; omega
 have hmd : (⟨(mendL s.data.toList).toArray⟩ : ByteArray).data.toList = mendL s.data.toList := rfl
 rw [← hmd] at hmv hmg hbz
 have HD2 : Aside0 (∀ (attr' : Bool) (W : World), Calls Tryd.prog 13 #[.string (ascS attr s), .bool attr'] W fun e W' => e = .returned (.string ⟨(backL (runes (⟨(mendL s.data.toList).toArray⟩ : ByteArray).data.toList)).toArray⟩) ∧ Below W.heap.size W W') := HD
 clear hml hl hm4 hmr hal haz hle hbk hsafe hasc hdec HD hmz hmd
 generalize ascS attr s = a at HA hasz hsf HD2
 generalize (⟨(mendL s.data.toList).toArray⟩ : ByteArray) = m at HM hmv hmg hbz hmz2 HD2
 have hml : m.data.toList.length = m.size := by simp
 have HMV := Aside0.mk hmv
 have HML := Aside0.mk hml
 have HG := Aside0.mk hmg
 have HSF := Aside0.mk hsf
 have HBZ := Aside0.mk hbz
 have HT := Aside0.mk ht
 clear hmv hml hmg hsf hbz ht
 go_enter Tryd.func6, Tryd.ntmps6
 go_wp2_with (first | (go_at_call 15; refine (HA.out _ HT.out).mono ?_; rintro e w1 ⟨rfl, hb1⟩; have HB1 := Aside0.mk hb1; clear hb1))
 go_loopw [15] (fun v15 wr => ∃ (i : Nat), v15 = .int .i64 (i : Nat) ∧ i ≤ a.size ∧ Aside0 (Below w1.heap.size w1 wr)) (fun v15 _ => a.size - (intOf v15).toNat)
 case atStart => exact ⟨0, rfl, Nat.zero_le _, ⟨Below.refl _ _⟩⟩
 case round =>
  obtain ⟨i, rfl, hi, HBr⟩ := hrel
  by_cases hlt : i < a.size
  ·have hX := idx_str a i hlt
   have hs0 := HSF.out i hlt
   obtain ⟨c1, c2, c3, c4⟩ : (a[i]'hlt).toNat < 128 ∧ (a[i]'hlt).toNat ≠ 60 ∧ (a[i]'hlt).toNat ≠ 62 ∧ ((a[i]'hlt).toNat ≠ 34 ∨ attr = false) := by
    unfold safeB at hs0
    simp only [Bool.and_eq_true, Bool.or_eq_true, decide_eq_true_eq, Bool.not_eq_true'] at hs0
    obtain ⟨⟨⟨k1, k2⟩, k3⟩, k4⟩ := hs0
    exact ⟨k1, fun e => k2 (UInt8.toNat_inj.1 e), fun e => k3 (UInt8.toNat_inj.1 e), k4.imp (fun k e => k (UInt8.toNat_inj.1 e)) id⟩
   generalize (a[i]'hlt).toNat = c at hX c1 c2 c3 c4
   have b2 : ((c : Int) == 60) = false := beq_eq_false_iff_ne.2 (by omega)
   have b3 : ((c : Int) == 62) = false := beq_eq_false_iff_ne.2 (by omega)
   clear hs0 c2 c3
   by_cases c5 : c = 34
   case' pos =>
    have b4 : ((c : Int) == 34) = true := beq_iff_eq.2 (by omega)
    obtain rfl : attr = false := c4.resolve_left (fun h => h c5)
    clear c5 c4
   case' neg =>
    have b4 : ((c : Int) == 34) = false := beq_eq_false_iff_ne.2 (by omega)
    clear c5 c4
   all_goals
    go_wp2
    refine ⟨⟨i + 1, by go_num, by omega, HBr⟩, by simp [intOf]; omega⟩
  ·obtain rfl : i = a.size := by omega
   have HB2 := Aside0.mk (HB1.out.trans (HBr.out.mono HB1.out.size))
   clear HBr HSF
   go_wp2_with (first | (go_at_call 14; refine (HM.out _).mono ?_; rintro e w2 ⟨rfl, hb2⟩; have HBW := Aside0.mk (below_step HB2.out hb2); clear hb2))
   have hitr0 : (w2.iter m 0).heap[w2.heap.size]? = some (.stringIter m 0) := World.iter_heap w2 m 0
   go_loopw [7] (fun v7 wr => ∃ (pos : Nat) (x : ByteArray), v7 = .string x ∧ pos ≤ m.size ∧ Aside0 (x.data.toList ++ backL (runes (m.data.toList.drop pos)) = backL (runes m.data.toList)) ∧ Aside0 (valid (m.data.toList.drop pos) = true) ∧ wr.heap[w2.heap.size]? = some (.stringIter m pos) ∧ Aside0 (Below w2.heap.size w2 wr)) (fun _ wr => m.size - wr.iterPos w2.heap.size)
   case atStart =>
    refine ⟨0, ⟨#[]⟩, rfl, Nat.zero_le _, ⟨by rw [List.drop_zero]; rfl⟩, ⟨by rw [List.drop_zero]; exact HMV.out⟩, ?_, ⟨(Below.refl _ w2).alloc (Nat.le_refl _) _⟩⟩
    simpa using hitr0
   case round =>
    obtain ⟨pos, x, rfl, hpl, HR, HV, hit, HBi⟩ := hrel
    by_cases hp : pos < m.size
    ·have hne : m.data.toList.drop pos ≠ [] := by rw [ne_eq, List.drop_eq_nil_iff]; have := HML.out; omega
     have hd := rdL_decode _ hne
     have hf := rdL_facts _ hne
     have hv := HV.out
     rw [valid_step _ hne] at hv
     have h0 : (rdL (m.data.toList.drop pos)).2.2 = 0 := by
      by_cases h0 : (rdL (m.data.toList.drop pos)).2.2 = 0
      ·exact h0
      ·rw [if_neg h0] at hv
       cases hv
     rw [if_pos h0, List.drop_drop] at hv
     rw [if_pos h0, Lib.decodeL_drop] at hd
     have hrn := runes_step _ hne
     rw [List.drop_drop] at hrn
     have hw1 := hf.1
     have hw2 := hf.2.1
     rw [List.length_drop, HML.out] at hw2
     have hg1 : goodR (((rdL (m.data.toList.drop pos)).1 : Nat) : Int) := runes_good _ (m.data.toList.drop pos) (Nat.le_refl _) _ (by rw [runes_step _ hne]; exact List.mem_cons_self)
     have hxl : x.size ≤ 4194304 := by
      have h1 := congrArg List.length HR.out
      have h2 := HBZ.out
      have h3 : x.data.toList.length = x.size := by simp
      rw [List.length_append] at h1
      omega
     have hnx : ∀ ty, (Instr.next (.pointer (some ⟨w2.heap.size, 0, none⟩)) true ty).run Tryd.prog wr = _ := fun ty => Lib.run_next_any_at wr w2.heap.size m pos ty hit hp
     rw [hd] at hnx
     simp only at hnx
     generalize rdL (m.data.toList.drop pos) = q at hd hrn hw1 hw2 hg1 hnx hv
     obtain ⟨q1, q2, q3⟩ := q
     simp only at hd hrn hw1 hw2 hg1 hnx hv
     have hit2 := Lib.iterAt_heap wr w2.heap.size m pos (pos + q2) hit
     have hBy2 := Lib.below_iterAt HBi.out (k := w2.heap.size) (Nat.le_refl _) m (pos + q2)
     generalize hW0 : wr.iterAt w2.heap.size m (pos + q2) = W0 at hnx hit2 hBy2
     have hip := iterPos_of hit
     have hr2 : x.data.toList ++ (Lib.encodeRune ((winN q1 : Nat) : Int) ++ backL (runes (m.data.toList.drop (pos + q2)))) = backL (runes m.data.toList) := by
      rw [← HR.out, hrn]
      simp [backL]
     have hq1 : q1 < 1114112 := by unfold goodR at hg1; omega
     clear hd hne hf h0 hW0 hrn hg1 HR HV hit HBi
     have HIT2 := Aside0.mk hit2
     have HBY2 := Aside0.mk hBy2
     have HV2 := Aside0.mk hv
     have HIP := Aside0.mk hip
     clear hit2 hBy2 hv hip
     by_cases hb : 128 ≤ q1 ∧ q1 ≤ 159 ∧ ¬ (q1 = 129 ∨ q1 = 141 ∨ q1 = 143 ∨ q1 = 144 ∨ q1 = 157)
     ·obtain ⟨d1, d2, d3⟩ := hb
      rw [winN_bad q1 d1 d2 d3] at hr2
      have b1 : ((q1 : Int) != 129) = true := bne_iff_ne.2 (by omega)
      have b2 : ((q1 : Int) != 141) = true := bne_iff_ne.2 (by omega)
      have b3 : ((q1 : Int) != 143) = true := bne_iff_ne.2 (by omega)
      have b4 : ((q1 : Int) != 144) = true := bne_iff_ne.2 (by omega)
      have b5 : ((q1 : Int) != 157) = true := bne_iff_ne.2 (by omega)
      have hesz : (Utf8.encode (65533 : Int)).size ≤ 4 := encode_small _
      have hbig : (9223372036854775807 < x.size + (Utf8.encode (65533 : Int)).size) = False := eq_false (by omega)
      have hbig2 : (x.size + (Utf8.encode (65533 : Int)).size ≤ 9223372036854775807) = True := eq_true (by omega)
      have HR2 := Aside0.mk hr2
      clear hr2 d3 hesz
      go_wp2
      refine ⟨⟨pos + q2, x ++ Utf8.encode (65533 : Int), rfl, by omega, ⟨by rw [ByteArray.data_append, Array.toList_append, encode_list, List.append_assoc]; exact HR2.out⟩, HV2, HIT2.out, HBY2⟩, ?_⟩
      rw [HIP.out, iterPos_of HIT2.out]
      omega
     ·rw [winN_same q1 (by omega)] at hr2
      have hesz : (Utf8.encode (q1 : Int)).size ≤ 4 := encode_small _
      have hbig : (9223372036854775807 < x.size + (Utf8.encode (q1 : Int)).size) = False := eq_false (by omega)
      have hbig2 : (x.size + (Utf8.encode (q1 : Int)).size ≤ 9223372036854775807) = True := eq_true (by omega)
      have HR2 := Aside0.mk hr2
      clear hr2 hesz
      have hc : q1 < 128 ∨ (128 ≤ q1 ∧ 159 < q1) ∨ (128 ≤ q1 ∧ q1 ≤ 159 ∧ q1 = 129) ∨ (128 ≤ q1 ∧ q1 ≤ 159 ∧ q1 = 141) ∨ (128 ≤ q1 ∧ q1 ≤ 159 ∧ q1 = 143) ∨ (128 ≤ q1 ∧ q1 ≤ 159 ∧ q1 = 144) ∨ (128 ≤ q1 ∧ q1 ≤ 159 ∧ q1 = 157) := by omega
      clear hb
      rcases hc with d1 | ⟨d1, d2⟩ | ⟨d1, d2, d3⟩ | ⟨d1, d2, d3⟩ | ⟨d1, d2, d3⟩ | ⟨d1, d2, d3⟩ | ⟨d1, d2, d3⟩
      case' inr.inr.inl =>
       have b1 : ((q1 : Int) != 129) = false := bne_eq_false_iff_eq.2 (by omega)
       clear d3
      case' inr.inr.inr.inl =>
       have b1 : ((q1 : Int) != 129) = true := bne_iff_ne.2 (by omega)
       have b2 : ((q1 : Int) != 141) = false := bne_eq_false_iff_eq.2 (by omega)
       clear d3
      case' inr.inr.inr.inr.inl =>
       have b1 : ((q1 : Int) != 129) = true := bne_iff_ne.2 (by omega)
       have b2 : ((q1 : Int) != 141) = true := bne_iff_ne.2 (by omega)
       have b3 : ((q1 : Int) != 143) = false := bne_eq_false_iff_eq.2 (by omega)
       clear d3
      case' inr.inr.inr.inr.inr.inl =>
       have b1 : ((q1 : Int) != 129) = true := bne_iff_ne.2 (by omega)
       have b2 : ((q1 : Int) != 141) = true := bne_iff_ne.2 (by omega)
       have b3 : ((q1 : Int) != 143) = true := bne_iff_ne.2 (by omega)
       have b4 : ((q1 : Int) != 144) = false := bne_eq_false_iff_eq.2 (by omega)
       clear d3
      case' inr.inr.inr.inr.inr.inr =>
       have b1 : ((q1 : Int) != 129) = true := bne_iff_ne.2 (by omega)
       have b2 : ((q1 : Int) != 141) = true := bne_iff_ne.2 (by omega)
       have b3 : ((q1 : Int) != 143) = true := bne_iff_ne.2 (by omega)
       have b4 : ((q1 : Int) != 144) = true := bne_iff_ne.2 (by omega)
       have b5 : ((q1 : Int) != 157) = false := bne_eq_false_iff_eq.2 (by omega)
       clear d3
      all_goals
       go_wp2
       refine ⟨⟨pos + q2, x ++ Utf8.encode (q1 : Int), rfl, by omega, ⟨by rw [ByteArray.data_append, Array.toList_append, encode_list, List.append_assoc]; exact HR2.out⟩, HV2, HIT2.out, HBY2⟩, ?_⟩
       rw [HIP.out, iterPos_of HIT2.out]
       omega
    ·obtain rfl : pos = m.size := by omega
     have hnx : ∀ ty, (Instr.next (.pointer (some ⟨w2.heap.size, 0, none⟩)) true ty).run Tryd.prog wr = _ := fun ty => Lib.run_next_end_at wr w2.heap.size m m.size ty hit hp
     have hxx : x = ⟨(backL (runes m.data.toList)).toArray⟩ := by
      have h1 := HR.out
      rw [List.drop_of_length_le (by have := HML.out; omega), show backL (runes []) = [] from rfl, List.append_nil] at h1
      rw [← h1]
     rw [← hxx] at HD2
     have HB3 := Aside0.mk (HBW.out.trans (HBi.out.mono HBW.out.size))
     have heq : (x.toList == x.toList) = true := beq_self_eq_true _
     clear hxx HR HV hit HBi HBZ HG
     go_wp2_with (first | (go_at_call 13; ((with_reducible refine (HD2.out _ _).mono ?_); rintro e w4 ⟨rfl, hb4⟩; have HB4 := Aside0.mk (below_step HB3.out hb4); clear hb4 HB3; have HB3 := HB4; clear HB4)) | (go_at_call 11; ((with_reducible refine (sievelaw06_awake.calls 400 true _ cuts_awake).mono ?_); rintro e w4 ⟨rfl, hb4⟩; have HB4 := Aside0.mk (below_step HB3.out hb4); clear hb4 HB3; have HB3 := HB4; clear HB4)))
     go_ret
     exact ⟨rfl, HB3.out⟩

end Go.Proofs.YthmbbkbmlnaghaaDoor.P
end
section
namespace Go.Proofs.YthmbbkbmlnaghaaDoor.charrefBack
open Go.ChangeShapes Go.WideShapes Go.ChangeAt Go.RowKit Go.Proofs.YthmbbkbmlnaghaaDoorW.PrintWords
open Go.ChangeMaps (open_string shut_string)
set_option linter.unusedVariables false
set_option linter.unusedSimpArgs false
theorem own : ownKnob Tryd.prog.godebug = none := by kernel_rfl
theorem vars_tail {P : Program} {w : World} {x : String × DataW Unit} {r : List (String × DataW Unit)} {ps : List MemPlace} (h : DataW.LaidVars P w (x :: r) ps) : ∃ q, DataW.LaidVars P w r q := by
 obtain ⟨g, t, cs, fuel, p, q, _, _, _, _, hq, _⟩ := h
 exact ⟨q, hq⟩
theorem tab_of_vars {P : Program} {W : World} {name : String} {k : IntKind} {zs : List Int} {rest : List (String × DataW Unit)} {g : Nat} {t e : TypeId} {n : Nat} {ps : List MemPlace}
  (hg : P.globalNamed name = some g) (hty : (P.globals[g]?).map (·.type) = some t) (ht : P.underlying t = some (.array n e)) (he : P.underlying e = some (.int k)) (hce : P.cellsOf e = 1) (hct : P.cellsOf t = n)
  (h : DataW.LaidVars P W ((name, Lib.tabData k zs) :: rest) ps) : Lib.TabIs P W name k zs := by
 obtain ⟨g', t', cs, fuel, p, q, hg', ht', hvar, hd, _, _⟩ := h
 obtain rfl := Option.some.inj (hg.symm.trans hg')
 obtain rfl := Option.some.inj (hty.symm.trans ht')
 unfold Lib.TabIs
 rw [hvar, ← Lib.cells_of_tab ht he hce hct hd]
theorem tab1 {W : World} (h : laidMetH Tryd.prog Rows.charrefBackUptoRow.laid W) : Lib.TabIs Tryd.prog W "math/bits.deBruijn64tab" .u8 [0, 1, 56, 2, 57, 49, 28, 3, 61, 58, 42, 50, 38, 29, 17, 4, 62, 47, 59, 36, 45, 43, 51, 22, 53, 39, 33, 30, 24, 18, 12, 5, 63, 55, 48, 27, 60, 41, 37, 16, 46, 35, 44, 21, 52, 32, 23, 11, 54, 26, 40, 15, 34, 20, 31, 10, 25, 14, 19, 9, 13, 8, 7, 6] := by
 rw [MakeChecks.laidMetH_plain _ _ _ (by kernel_rfl)] at h
 obtain ⟨ps, hv, _⟩ := h
 obtain ⟨_, hv⟩ := vars_tail hv
 exact tab_of_vars (g := 6) (t := 141) (e := 5) (n := 64) (by kernel_rfl) (by kernel_rfl) Tryd.underlying141 Tryd.underlying5 (by kernel_rfl) (by kernel_rfl) hv
theorem short {H : Type} (s0 : ByteArray) (d1 : DataW H) (hk : Rows.uptoSmall H [DataW.lit (H := H) (.string s0.data.toList), d1] = true) : s0.size ≤ 1048576 := by
 have h : Rows.uptoBulkAll [DataW.lit (H := H) (.string s0.data.toList), d1] ≤ 1048576 := of_decide_eq_true hk
 simp only [Rows.uptoBulkAll, Rows.uptoBulk] at h
 have e0 : s0.data.toList.length = s0.size := by simp
 omega
set_option maxRecDepth 100000 in
theorem contract (H : Type) (enc : TypeId × Value → H) (W : World) (base : Nat) (args : Array Value) (ds gs : List (DataW H)) (before : List MemPlace)
  (hval : ∀ (j : Nat) t v, Tryd.f6.params[j]? = some t → args[j]? = some v → Value.okWide Tryd.prog W .any base t v)
  (hW : DataW.Whole enc Tryd.prog Tryd.f6.params.toList Rows.charrefBackSpec.vars false W args.toList ds gs before) (hk : Rows.uptoSmall H (ds ++ gs) = true) (hL : laidMetH Tryd.prog Rows.charrefBackUptoRow.laid W) :
  Calls Tryd.prog 6 args W fun e W' => ∃ v, e = .returned v ∧ Rows.charrefBackSpec.post enc Tryd.prog Tryd.f6 false true false false W args v W' := by
 have hW' := hW
 obtain ⟨p, q, hA0, hV, rfl, hfz, hnd⟩ := hW
 have hA : DataW.TrodAll enc Tryd.prog W 0 (fun _ => true) true Tryd.f6.params.toList args.toList ds p := hA0
 rw [Tryd.params6] at hA hval
 obtain ⟨v0, vs0, d0, ds0, p0, q0, hargs, rfl, rfl, h0, r0⟩ := trodAll_cons hA
 obtain ⟨v1, vs1, d1, ds1, p1, q1, rfl, rfl, rfl, h1, r1⟩ := trodAll_cons r0
 obtain ⟨rfl, rfl, rfl⟩ := trodAll_nil r1
 obtain rfl : args = #[v0, v1] := by cases args; simp_all
 obtain ⟨rfl, rfl⟩ := trodVars_none hV
 obtain ⟨a0, rfl, rfl, rfl, y0⟩ := open_string Tryd.underlying9 (hval 0 9 v0 rfl rfl) h0
 obtain ⟨a1, rfl, rfl, rfl⟩ := open_bool Tryd.underlying4 (hval 1 4 v1 rfl rfl) h1
 clear hA0
 simp only [List.append_nil] at hk
 have hs := short a0 _ hk
 refine (P.CharrefBack_walk a0 a1 hs W (tab1 hL)).mono fun e W' ⟨he, bel⟩ => ?_
 subst he
 exact ⟨_, rfl, _, _, _, [], _, [], hW', trodAll_mk1 (shut_bool Tryd.underlying4 _), (trodAll_cons_mk (shut_string Tryd.underlying9 y0) (trodAll_cons_mk (shut_bool Tryd.underlying4 _) trodAll_mk0)), rfl, bel.frame _, fun h => by cases h⟩
/-- a world for the witness: the settled one, the listed tables laid -/
noncomputable def laidWorld (os : Os) : World := World.laidAll Tryd.prog os Rows.charrefBackUptoRow.laid
theorem laid_met (os : Os) : laidMetH Tryd.prog Rows.charrefBackUptoRow.laid ((laidWorld os).forCall (fun _ _ => 0) ⟨#[], #[.string ByteArray.empty, .bool false], []⟩).memory := by
 rw [MakeChecks.laidMetH_plain _ _ _ (by kernel_rfl)]
 exact laidMet_laidAll _ (by kernel_rfl) (by kernel_rfl)
theorem reads (os : Os) {H : Type} (enc : TypeId × Value → H) : ∃ places, DataW.whole enc Tryd.prog ((laidWorld os).forCall (fun _ _ => 0) ⟨#[], #[.string ByteArray.empty, .bool false], []⟩).memory Tryd.f6.params.toList Rows.charrefBackSpec.vars false (#[.string ByteArray.empty, .bool false] : Array Value).toList 8 = some ([.lit (.string []), .lit (.bool false)], [], places) :=
 ⟨[], by kernel_rfl⟩
set_option maxRecDepth 100000 in
theorem lifted (os : Os) (started : os.Started) (H : Type) (enc : TypeId × Value → H) (F : Stop.Interp) :
  ReturnsInHanded {} Tryd.checked os 6 .any ((Rows.OpenSpec.upto Rows.charrefBackSpec).preRow enc Tryd.prog Tryd.f6 Rows.charrefBackUptoRow.domain false Rows.charrefBackUptoRow.laid) (((Rows.OpenSpec.upto Rows.charrefBackSpec).at F).post enc Tryd.prog Tryd.f6 false true false false) := by
 obtain ⟨places, hx⟩ := reads os enc
 refine returnsInHanded_of_row (C := Tryd.checked) (s := Rows.OpenSpec.upto Rows.charrefBackSpec) own started (by kernel_rfl) Tryd.func6
  (witness_row_atRef (enc := enc) (C := Tryd.checked) false (laidWorld os) #[.string ByteArray.empty, .bool false] (World.laidAll_os _ _ _) (by kernel_rfl) (by kernel_rfl) (by kernel_rfl)
   (OpenSpec.preRow_of_cond 8 hx (by kernel_rfl) (fun k hk => by cases hk; kernel_rfl) (by kernel_rfl) (laid_met os))) ?_
 intro W base args ds gs before hval hW _ hcond _ hL _ _
 exact contract H enc W base args ds gs before hval hW (hcond _ rfl) hL
theorem proved : Rows.CharrefBackUptoSaid :=
 OpenClaim.holds_of_cond 6 Tryd.f6 rfl rfl rfl rfl rfl rfl rfl ⟨rfl, rfl, rfl, rfl, rfl⟩ rfl rfl rfl rfl rfl (by kernel_rfl) Tryd.func6 (by kernel_rfl)
  (of_decide_eq_true (by kernel_rfl)) (by unfold Func.isWrapper; first | (rw [if_pos (by decide +kernel)]; kernel_rfl) | (rw [if_neg (by decide +kernel)]; exact ⟨rfl, rfl⟩))
  (fun os started H enc _ F => by rw [OpenClaim.pre_eq_preRow]; exact lifted os started H enc F)
theorem plain (f : FuncId) (fn : Func) (hf : Tryd.pinned.checked.prog.funcNamed "sieve/sievelaw06.CharrefBack" = some f) (hfn : Tryd.pinned.checked.prog.funcs[f]? = some fn) :
  false = Tryd.pinned.checked.prog.looks [] ∧ ∀ (j : Nat) t, fn.params[j]? = some t → Tryd.pinned.checked.prog.wantsStandIn t = false := by
 obtain rfl : f = 6 := Option.some.inj ((show Tryd.prog.funcNamed "sieve/sievelaw06.CharrefBack" = some 6 by kernel_rfl).symm.trans hf) |>.symm
 obtain rfl : fn = Tryd.f6 := (Option.some.inj (Tryd.func6.symm.trans hfn)).symm
 refine ⟨by kernel_rfl, fun j t ht => ?_⟩
 rw [Tryd.params6] at ht
 have hm := Array.mem_of_getElem? ht
 simp only [List.mem_toArray, List.mem_cons, List.mem_nil_iff, or_false] at hm
 rcases hm with rfl | rfl
 ·exact (show Tryd.prog.wantsStandIn 9 = false by kernel_rfl)
 ·exact (show Tryd.prog.wantsStandIn 4 = false by kernel_rfl)
theorem card : Rows.CharrefBackUptoCardSaid :=
 Claim7.holds_tied_plain_at .later [] _ _ _ _ proved (fun _ h => by cases h) (by kernel_rfl) (fun _ h => by cases h) charrefBackUpto_row_tie rfl ⟨rfl, rfl⟩ (by kernel_rfl) rfl plain (by kernel_rfl)
#print axioms card
end Go.Proofs.YthmbbkbmlnaghaaDoor.charrefBack
namespace Go.Proofs.YthmbbkbmlnaghaaDoor
/-- The card, under a short name, for the claim. -/
theorem charrefBack_holds : Rows.CharrefBackUptoCardSaid := charrefBack.card
end Go.Proofs.YthmbbkbmlnaghaaDoor
end
