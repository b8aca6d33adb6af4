/-
  Part 3 of 5 of the proof's texts, joined: Lent, Lnamed, Lnum, PA7, Lnext, Utf, Lmend, Lagr, Lnx, Lsure, Lvalid, Heach, Shelf, Hbld, Hrep0, HrepD, HwholeD, Hall, Hread, Hrunes, Hmend, Hdec, Ldec, Ldec2, Lless, PA2, Lencode, Hencode, PA8, Hawake, Lw.
  (Where a joined text began as one that the kit's print.sh printed, it is trimmed here to what this claim uses, by this session's pack.py.)
-/
import Derived.Test.YthmbbkbmlnaghaaDoorQCharrefLess0
import Derived.Test.YthmbbkbmlnaghaaDoorQCharrefLess1
import Derived.Lib.Strings
import Derived.Lib.ValidLaws
import Derived.Lib.RuneBytes
import Derived.Laws.Cover4
import Derived.Shelf.Strings.Builder1
import Derived.Shelf.Strings.Builder2
import Derived.Shelf.Small.Utf8
import Derived.Shelf.Strings.BuilderF
import Derived.Shelf.Strings.BuilderK
import Derived.Shelf.Strconv.Itoa0
import Derived.Shelf.Strconv.Itoa1
import Derived.Shelf.LaysM
import Derived.Shelf.Strconv.Itoa2
import Derived.Shelf.Strconv.Itoa3
import Derived.Shelf.Strconv.Itoa4
import Derived.Shelf.Unicode.Latin
import Derived.Shelf.Unicode.Decode
import Derived.Shelf.Unicode.DecodeSlow
import Derived.Shelf.Unicode.DecodeAny
import Derived.Shelf.Unicode.CaseLookup
import Derived.Shelf.Unicode.CaseConvert
import Derived.Shelf.Unicode.CaseTo
import Derived.Shelf.Unicode.CaseLaid
import Derived.Test.YthmbbkbmlnaghaaDoorProg
import Derived.Lib.OthersKept
import Derived.Laws.EntriesVeiled
import Derived.Deep.RegionWith
import Derived.RangeFuncNested
import Derived.RangeFuncBound
import Derived.RangeFuncCalls
import Derived.RangeFuncLeaves
import Derived.RangeFuncBox
import Derived.Shelf.Abstract
import Derived.OwnWalkIn
import Derived.TacticsInMore
import Derived.LoopNIn
import Derived.LoopIn
import Derived.Lib.Hide
import Derived.Laws.BitsAllLaws
import Derived.Maps.AppendAt
import Derived.Lib.TrimUEq
import Derived.Lib.AtoiErrMem
import Derived.Lib.ItoaNum
import Derived.Lib.ItoaLen
import Derived.Lib.ItoaMem
section
/-
  Named references in plain Lean: what the program's loops over the table tell.
-/
namespace Go.Proofs.YthmbbkbmlnaghaaDoor.P
open Go.RowKit Go.Proofs.YthmbbkbmlnaghaaDoorW.PrintWords Go.Proofs.YthmbbkbmlnaghaaDoorW.PrintLast Go.Proofs.YthmbbkbmlnaghaaDoorW.PrintMore
set_option linter.unusedVariables false
set_option linter.unusedSimpArgs false

abbrev Ent := S75
def nameL (x : Ent) : List UInt8 := x.f0.data.toList
def saysE (x : Ent) : List Int := if x.f2 = 0 then [x.f1] else [x.f1, x.f2]
def stepL (l : List UInt8) (acc : Nat × List Int) (x : Ent) : Nat × List Int :=
  if (nameL x).isPrefixOf l = true then
    (if (nameL x).length < l.length ∧ l.getD (nameL x).length 0 = 59 then (if acc.1 < (nameL x).length + 1 then ((nameL x).length + 1, saysE x) else acc)
     else if x.f3 = true then (if acc.1 < (nameL x).length then ((nameL x).length, saysE x) else acc) else acc)
  else acc
def longL (l : List UInt8) : Nat × List Int := ents.foldl (stepL l) (0, [])
def begL (l : List UInt8) : Bool := ents.any fun x => l.isPrefixOf (nameL x)

theorem ents_small : ∀ x ∈ ents, x.f0.size ≤ 100 := by decide +kernel
theorem ents_len : ents.length = 301 := by decide +kernel
theorem nameL_len (x : Ent) : (nameL x).length = x.f0.size := by simp [nameL]

theorem prefix_take (a p : List UInt8) : (p.isPrefixOf a = true) ↔ (p.length ≤ a.length ∧ a.take p.length = p) := by
  rw [List.isPrefixOf_iff_prefix, List.prefix_iff_eq_take]
  constructor
  · intro h
    refine ⟨?_, h.symm⟩
    have := congrArg List.length h
    rw [List.length_take] at this
    omega
  · exact fun h => h.2.symm
theorem hasPrefix_f (a b : ByteArray) : strings_HasPrefix.f a b = some (b.data.toList.isPrefixOf a.data.toList) := by
  unfold strings_HasPrefix.f stringslite_HasPrefix.f
  have ha : a.data.toList.length = a.size := by simp
  have hb : b.data.toList.length = b.size := by simp
  have e2 : b.toList = b.data.toList := ByteArray.toList_eq b
  by_cases h : b.size ≤ a.size
  · rw [if_pos (by omega), if_pos (by omega), if_pos (by omega)]
    show some _ = some _
    congr 1
    rw [Lib.extract_toList, e2, Bool.eq_iff_iff, beq_iff_eq, prefix_take, hb]
    simp only [Int.toNat_natCast, Nat.sub_zero, List.drop_zero]
    rw [ha]
    exact ⟨fun e => ⟨h, e⟩, fun e => e.2⟩
  · rw [if_neg (by omega)]
    show some false = some _
    congr 1
    symm
    rw [Bool.eq_false_iff, ne_eq, prefix_take, hb, ha]
    omega
theorem rdT_at (es : List Ent) (i : Nat) (h : i < es.length) : rd_T75 es (i : Int) = es[i] := by
  unfold rd_T75
  rw [Int.toNat_natCast, List.getD_eq_getElem?_getD, List.getElem?_eq_getElem h]
  rfl
theorem bt_l (s : ByteArray) (p : Nat) (h : p < s.size) : bt s (p : Int) = ((s.data.toList.getD p 0).toNat : Int) := by
  have hl : p < s.data.toList.length := by simpa using h
  have : s.data.toList.getD p 0 = s.data.toList[p] := by rw [List.getD_eq_getElem?_getD, List.getElem?_eq_getElem hl]; rfl
  rw [this]
  unfold bt
  simp only [Int.toNat_natCast]
  rw [dif_pos h]
  rfl
theorem u8_eq (b : UInt8) (n : Nat) (h : n < 256) : ((b.toNat : Int) = (n : Int)) ↔ b = UInt8.ofNat n := by
  constructor
  · intro e
    apply UInt8.toNat_inj.1
    rw [UInt8.toNat_ofNat_of_lt' h]
    omega
  · rintro rfl
    rw [UInt8.toNat_ofNat_of_lt' h]

theorem says_f (x : Ent) : entity_says.f x.f0 x.f1 x.f2 x.f3 = some (saysE x) := by
  unfold entity_says.f saysE
  split <;> rfl

set_option maxHeartbeats 4000000 in
theorem longest_l0 (s : ByteArray) (es : List Ent) (hes : es.length ≤ 100000) (hsm : ∀ x ∈ es, x.f0.size ≤ 100) : ∀ (d i k n : Nat) (out : List Int), es.length - i = d → i ≤ es.length → 2 * d + 1 ≤ k →
    entity_Longest.l0 k s (n : Int) out es (es.length : Int) (i : Int) = some ((((es.drop i).foldl (stepL s.data.toList) (n, out)).1 : Int), ((es.drop i).foldl (stepL s.data.toList) (n, out)).2)
  | 0, i, k, n, out, hd, hi, hk => by
    obtain ⟨k, rfl⟩ : ∃ j, k = j + 1 := ⟨k - 1, by omega⟩
    obtain rfl : i = es.length := by omega
    rw [entity_Longest.l0, if_neg (by omega), List.drop_length]
    rfl
  | d + 1, i, k, n, out, hd, hi, hk => by
    obtain ⟨k, rfl⟩ : ∃ j, k = j + 2 := ⟨k - 2, by omega⟩
    have hlt : i < es.length := by omega
    have HW := Aside0.mk (show wrap64 ((i : Int) + 1) = ((i + 1 : Nat) : Int) by unfold wrap64; omega)
    rw [List.drop_eq_getElem_cons hlt, List.foldl_cons]
    have hx := hsm es[i] (List.getElem_mem hlt)
    generalize hxe : es[i] = x at hx
    have hnl := nameL_len x
    have hsl : s.data.toList.length = s.size := by simp
    have ih1 := fun (n : Nat) (out : List Int) => longest_l0 s es hes hsm d (i + 1) (k + 1) n out (by omega) (by omega) (by omega)
    have ih2 := fun (n : Nat) (out : List Int) => longest_l0 s es hes hsm d (i + 1) k n out (by omega) (by omega) (by omega)
    rw [entity_Longest.l0, if_pos (by omega), if_pos (by omega), if_pos (by omega), rdT_at es i hlt, hxe, hasPrefix_f, HW.out]
    rw [Option.bind_some]
    by_cases hp : x.f0.data.toList.isPrefixOf s.data.toList = true
    · rw [if_pos hp]
      have hp' : (nameL x).isPrefixOf s.data.toList = true := hp
      have hle := ((prefix_take _ _).1 hp').1
      have HW2 := Aside0.mk (show wrap64 ((x.f0.size : Int) + 1) = ((x.f0.size + 1 : Nat) : Int) by unfold wrap64; omega)
      -- the test for a semicolon
      have hj : ∀ b : Bool, b = decide ((nameL x).length < s.data.toList.length ∧ s.data.toList.getD (nameL x).length 0 = 59) →
          entity_Longest.j1 (k + 1) s (n : Int) out (x.f0.size : Int) es (es.length : Int) (i : Int) b x.f0 x.f1 x.f2 x.f3 =
            some ((((es.drop (i + 1)).foldl (stepL s.data.toList) (stepL s.data.toList (n, out) x)).1 : Int), ((es.drop (i + 1)).foldl (stepL s.data.toList) (stepL s.data.toList (n, out) x)).2) := by
        rintro b hb
        rw [entity_Longest.j1, HW2.out, says_f, HW.out]
        have hs : stepL s.data.toList (n, out) x = (if (nameL x).length < s.data.toList.length ∧ s.data.toList.getD (nameL x).length 0 = 59 then (if n < (nameL x).length + 1 then ((nameL x).length + 1, saysE x) else (n, out))
            else if x.f3 = true then (if n < (nameL x).length then ((nameL x).length, saysE x) else (n, out)) else (n, out)) := by
          unfold stepL
          rw [if_pos hp']
        rw [hs]
        by_cases hc : (nameL x).length < s.data.toList.length ∧ s.data.toList.getD (nameL x).length 0 = 59
        · rw [hb, if_pos (decide_eq_true hc), if_pos hc]
          by_cases hm : n < (nameL x).length + 1
          · have hm1 : ((x.f0.size + 1 : Nat) : Int) > (n : Int) := by omega
            rw [if_pos hm1, if_pos hm]
            rw [Option.bind_some]
            rw [ih2, hnl]
          · rw [if_neg (by omega), if_neg hm, ih2]
        · rw [hb, if_neg (by simpa using hc), if_neg hc]
          by_cases h3 : x.f3 = true
          · rw [if_pos h3, if_pos h3]
            by_cases hm : n < (nameL x).length
            · rw [if_pos (by omega), if_pos hm]
              rw [Option.bind_some]
              rw [ih2, hnl]
            · rw [if_neg (by omega), if_neg hm, ih2]
          · rw [if_neg h3, if_neg h3, ih2]
      by_cases hc1 : x.f0.size < s.size
      · rw [if_pos (by omega), if_pos (by omega)]
        refine hj _ ?_
        rw [bt_l s _ hc1, Bool.eq_iff_iff, beq_iff_eq, decide_eq_true_iff, hnl, hsl]
        have := u8_eq (s.data.toList.getD x.f0.size 0) 59 (by decide)
        exact ⟨fun e => ⟨hc1, this.1 e⟩, fun e => this.2 e.2⟩
      · rw [if_neg (by omega)]
        refine hj _ ?_
        symm
        rw [decide_eq_false_iff_not, hnl, hsl]
        omega
    · rw [if_neg hp]
      have hp' : ¬ (nameL x).isPrefixOf s.data.toList = true := hp
      have hstep : stepL s.data.toList (n, out) x = (n, out) := by unfold stepL; rw [if_neg hp']
      rw [hstep, ih1]
theorem longest_f (s : ByteArray) (k : Nat) (hk : 603 ≤ k) : entity_Longest.f k s = some (((longL s.data.toList).1 : Int), (longL s.data.toList).2) := by
  unfold entity_Longest.f
  show entity_Longest.l0 k s ((0 : Nat) : Int) [] ents (ents.length : Int) ((0 : Nat) : Int) = _
  rw [longest_l0 s ents (by rw [ents_len]; omega) ents_small ents.length 0 k 0 [] (by omega) (by omega) (by rw [ents_len]; omega)]
  rfl

theorem begins_l0 (s : ByteArray) (es : List Ent) (hes : es.length ≤ 100000) : ∀ (d i k : Nat), es.length - i = d → i ≤ es.length → d + 1 ≤ k →
    entity_Begins.l0 k s es (es.length : Int) (i : Int) = some ((es.drop i).any fun x => s.data.toList.isPrefixOf (nameL x))
  | 0, i, k, hd, hi, hk => by
    obtain ⟨k, rfl⟩ : ∃ j, k = j + 1 := ⟨k - 1, by omega⟩
    obtain rfl : i = es.length := by omega
    rw [entity_Begins.l0, if_neg (by omega), List.drop_length]
    rfl
  | d + 1, i, k, hd, hi, hk => by
    obtain ⟨k, rfl⟩ : ∃ j, k = j + 1 := ⟨k - 1, by omega⟩
    have hlt : i < es.length := by omega
    have HW := Aside0.mk (show wrap64 ((i : Int) + 1) = ((i + 1 : Nat) : Int) by unfold wrap64; omega)
    have ih := begins_l0 s es hes d (i + 1) k (by omega) (by omega) (by omega)
    rw [List.drop_eq_getElem_cons hlt, List.any_cons]
    rw [entity_Begins.l0, if_pos (by omega), if_pos (by omega), if_pos (by omega), rdT_at es i hlt, HW.out]
    generalize es[i] = x
    have hnl := nameL_len x
    have hsl : s.data.toList.length = s.size := by simp
    by_cases hc : s.size ≤ x.f0.size
    · rw [if_pos (by omega), hasPrefix_f]
      rw [Option.bind_some]
      by_cases hp : s.data.toList.isPrefixOf x.f0.data.toList = true
      · rw [if_pos hp]
        have : s.data.toList.isPrefixOf (nameL x) = true := hp
        rw [this]
        rfl
      · rw [if_neg hp, ih]
        have : s.data.toList.isPrefixOf (nameL x) = false := Bool.eq_false_iff.2 hp
        rw [this]
        rfl
    · rw [if_neg (by omega), ih]
      have : s.data.toList.isPrefixOf (nameL x) = false := by
        rw [Bool.eq_false_iff, ne_eq, prefix_take]
        omega
      rw [this]
      rfl
theorem begins_f (s : ByteArray) (k : Nat) (hk : 302 ≤ k) : entity_Begins.f k s = some (begL s.data.toList) := by
  unfold entity_Begins.f
  show entity_Begins.l0 k s ents (ents.length : Int) ((0 : Nat) : Int) = _
  rw [begins_l0 s ents (by rw [ents_len]; omega) ents.length 0 k (by omega) (by omega) (by rw [ents_len]; omega)]
  rfl
end Go.Proofs.YthmbbkbmlnaghaaDoor.P
end
section
/-
  charref.named in plain Lean.
-/
namespace Go.Proofs.YthmbbkbmlnaghaaDoor.P
open Go.RowKit Go.Proofs.YthmbbkbmlnaghaaDoorW.PrintWords Go.Proofs.YthmbbkbmlnaghaaDoorW.PrintLast Go.Proofs.YthmbbkbmlnaghaaDoorW.PrintMore
set_option linter.unusedVariables false
set_option linter.unusedSimpArgs false

def wordB (b : Nat) : Bool := decide ((65 ≤ b ∧ b ≤ 90) ∨ (97 ≤ b ∧ b ≤ 122) ∨ (48 ≤ b ∧ b ≤ 57))
theorem word_all : ∀ b : Fin 256, charref_word.f ((b.val : Nat) : Int) = some (wordB b.val) := by decide +kernel

theorem stepL_le (l : List UInt8) (acc : Nat × List Int) (x : Ent) (h : acc.1 ≤ l.length) : (stepL l acc x).1 ≤ l.length := by
  unfold stepL
  by_cases hp : (nameL x).isPrefixOf l = true
  · rw [if_pos hp]
    have := ((prefix_take _ _).1 hp).1
    by_cases hc : (nameL x).length < l.length ∧ l.getD (nameL x).length 0 = 59
    · rw [if_pos hc]
      split
      · exact hc.1
      · exact h
    · rw [if_neg hc]
      split
      · split
        · exact this
        · exact h
      · exact h
  · rw [if_neg hp]
    exact h
theorem foldL_le (l : List UInt8) : ∀ (es : List Ent) (acc : Nat × List Int), acc.1 ≤ l.length → (es.foldl (stepL l) acc).1 ≤ l.length
  | [], acc, h => h
  | x :: t, acc, h => foldL_le l t _ (stepL_le l acc x h)
theorem longL_le (l : List UInt8) : (longL l).1 ≤ l.length := foldL_le l ents (0, []) (Nat.zero_le _)

theorem foldL_small (l : List UInt8) : ∀ (es : List Ent) (acc : Nat × List Int), acc.1 ≤ 101 → (∀ x ∈ es, x.f0.size ≤ 100) → (es.foldl (stepL l) acc).1 ≤ 101
  | [], acc, h, _ => h
  | x :: t, acc, h, hs => by
    refine foldL_small l t _ ?_ (fun y hy => hs y (List.mem_cons_of_mem _ hy))
    have hx := hs x List.mem_cons_self
    have hn := nameL_len x
    unfold stepL
    split
    · split
      · split
        · show (nameL x).length + 1 ≤ 101
          omega
        · exact h
      · split
        · split
          · show (nameL x).length ≤ 101
            omega
          · exact h
        · exact h
    · exact h
theorem longL_small (l : List UInt8) : (longL l).1 ≤ 101 := foldL_small l ents (0, []) (Nat.zero_le _) ents_small

def emp : ByteArray := ⟨#[]⟩
def namedL (l : List UInt8) (attr e : Bool) : ByteArray × Int × Bool :=
  if e = false ∧ begL l = true then (emp, 0, false)
  else if (longL l).1 = 0 then (emp, 0, true)
  else if attr = true ∧ l.getD ((longL l).1 - 1) 0 ≠ 59 then
    (if (longL l).1 = l.length then (if e = true then (Hc_text (longL l).2, ((longL l).1 : Int), true) else (emp, 0, false))
     else if wordB (l.getD (longL l).1 0).toNat = true then (emp, 0, true)
     else if l.getD (longL l).1 0 = 61 then (emp, 0, true) else (Hc_text (longL l).2, ((longL l).1 : Int), true))
  else (Hc_text (longL l).2, ((longL l).1 : Int), true)

theorem named_j1 (k : Nat) (s : ByteArray) (e : Bool) (n : Nat) (o : List Int) (b : Bool) (hn : n ≤ s.size) :
    charref_named.j1 (k + 1) s e (n : Int) o b = some (if b = true then
      (if n = s.data.toList.length then (if e = true then (Hc_text o, (n : Int), true) else (emp, 0, false))
       else if wordB (s.data.toList.getD n 0).toNat = true then (emp, 0, true)
       else if s.data.toList.getD n 0 = 61 then (emp, 0, true) else (Hc_text o, (n : Int), true))
      else (Hc_text o, (n : Int), true)) := by
  have hsl : s.data.toList.length = s.size := by simp
  rw [charref_named.j1]
  by_cases hb : b = true
  · rw [if_pos hb, if_pos hb, hsl]
    by_cases h1 : n = s.size
    · rw [if_pos (by omega), if_pos h1]
      split <;> rfl
    · rw [if_neg (by omega), if_neg h1, if_pos (by omega), if_pos (by omega), bt_l s n (by omega)]
      have hw := word_all ⟨_, UInt8.toNat_lt (s.data.toList.getD n 0)⟩
      simp only at hw
      rw [hw, Option.bind_some]
      have hq : ((s.data.toList.getD n 0).toNat : Int) = 61 ↔ s.data.toList.getD n 0 = 61 := u8_eq (s.data.toList.getD n 0) 61 (by decide)
      by_cases h2 : wordB (s.data.toList.getD n 0).toNat = true
      · rw [if_pos h2, if_pos h2]
        rfl
      · rw [if_neg h2, if_neg h2]
        by_cases h3 : s.data.toList.getD n 0 = 61
        · rw [if_pos h3, if_pos (hq.2 h3)]
          rfl
        · rw [if_neg h3, if_neg (fun e => h3 (hq.1 e))]
  · rw [if_neg hb, if_neg hb]
theorem named_j0 (k : Nat) (hk : 603 ≤ k) (s : ByteArray) (attr e b : Bool) :
    charref_named.j0 (k + 2) s attr e b = some (if b = true then (emp, 0, false) else if (longL s.data.toList).1 = 0 then (emp, 0, true)
      else if attr = true ∧ s.data.toList.getD ((longL s.data.toList).1 - 1) 0 ≠ 59 then
        (if (longL s.data.toList).1 = s.data.toList.length then (if e = true then (Hc_text (longL s.data.toList).2, ((longL s.data.toList).1 : Int), true) else (emp, 0, false))
         else if wordB (s.data.toList.getD (longL s.data.toList).1 0).toNat = true then (emp, 0, true)
         else if s.data.toList.getD (longL s.data.toList).1 0 = 61 then (emp, 0, true) else (Hc_text (longL s.data.toList).2, ((longL s.data.toList).1 : Int), true))
      else (Hc_text (longL s.data.toList).2, ((longL s.data.toList).1 : Int), true)) := by
  have hle := longL_le s.data.toList
  have hsm := longL_small s.data.toList
  have hsl : s.data.toList.length = s.size := by simp
  rw [charref_named.j0]
  by_cases hb : b = true
  · rw [if_pos hb, if_pos hb]
    rfl
  rw [if_neg hb, if_neg hb, longest_f s (k + 1) (by omega), Option.bind_some]
  generalize longL s.data.toList = q at hle hsm
  obtain ⟨n, o⟩ := q
  simp only at hle hsm ⊢
  by_cases h0 : n = 0
  · rw [if_pos (by omega), if_pos h0]
    rfl
  rw [if_neg (by omega), if_neg h0]
  by_cases ha : attr = true
  · have HW := Aside0.mk (show wrap64 ((n : Int) - 1) = ((n - 1 : Nat) : Int) by unfold wrap64; omega)
    rw [if_pos ha, HW.out, if_pos (by omega), if_pos (by omega), named_j1 k s e n o _ (by omega), bt_l s (n - 1) (by omega)]
    have hq : ((s.data.toList.getD (n - 1) 0).toNat : Int) = 59 ↔ s.data.toList.getD (n - 1) 0 = 59 := u8_eq (s.data.toList.getD (n - 1) 0) 59 (by decide)
    by_cases h59 : s.data.toList.getD (n - 1) 0 = 59
    · rw [if_neg (by rw [bne_iff_ne]; exact fun h => h (hq.2 h59)), if_neg (fun h => h.2 h59)]
    · rw [if_pos (by rw [bne_iff_ne]; exact fun h => h59 (hq.1 h)), if_pos (show attr = true ∧ s.data.toList.getD (n - 1) 0 ≠ 59 from ⟨ha, h59⟩)]
  · rw [if_neg ha, named_j1 k s e n o _ (by omega), if_neg (by decide), if_neg (fun h => ha h.1)]
theorem named_f (k : Nat) (hk : 605 ≤ k) (s : ByteArray) (attr e : Bool) : charref_named.f k s attr e = some (namedL s.data.toList attr e) := by
  obtain ⟨j, rfl⟩ : ∃ j, k = j + 2 := ⟨k - 2, by omega⟩
  unfold charref_named.f namedL
  cases e with
  | true =>
    rw [if_pos rfl, named_j0 j (by omega), if_neg (show ¬ (false = true) by decide), if_neg (show ¬ (true = false ∧ begL s.data.toList = true) from fun h => by cases h.1)]
  | false =>
    rw [if_neg (by decide), begins_f s _ (by omega), Option.bind_some, named_j0 j (by omega)]
    by_cases hb : begL s.data.toList = true
    · rw [if_pos hb, if_pos (show false = false ∧ begL s.data.toList = true from ⟨rfl, hb⟩)]
    · rw [if_neg hb, if_neg (show ¬ (false = false ∧ begL s.data.toList = true) from fun h => hb h.2)]
end Go.Proofs.YthmbbkbmlnaghaaDoor.P
end
section
/-
 charref.Number in plain Lean.
-/
namespace Go.Proofs.YthmbbkbmlnaghaaDoor.P
open Go.RowKit Go.Proofs.YthmbbkbmlnaghaaDoorW.PrintWords Go.Proofs.YthmbbkbmlnaghaaDoorW.PrintLast Go.Proofs.YthmbbkbmlnaghaaDoorW.PrintMore
set_option linter.unusedVariables false
set_option linter.unusedSimpArgs false

theorem digV_range : ∀ b : Fin 256, -1 ≤ digV b.val ∧ digV b.val ≤ 15 := by decide +kernel
theorem value_f (k : Nat) (b : UInt8) : names_Value.f (k + 1) (wrap32 (b.toNat : Int)) = some (digV b.toNat) := by
 have h := digV_all ⟨b.toNat, UInt8.toNat_lt b⟩
 exact (show names_Value.f (k + 1) (wrap32 (b.toNat : Int)) = names_Value.f 9 (wrap32 (b.toNat : Int)) from rfl).trans h
/-- what digits say so far -/
def numStep (base : Nat) (n : Nat) (b : UInt8) : Nat := min (n * base + (digV b.toNat).toNat) 1114112
def numL (hex : Bool) (l : List UInt8) : Int × Bool :=
 if l.all (isDig hex) = true then (if l = [] then (65533, false) else saysF ((l.foldl (numStep (if hex = true then 16 else 10)) 0 : Nat) : Int)) else (65533, false)

theorem num_step10 (n v : Nat) (hn : n ≤ 1114112) (hv : v ≤ 15) : mn (wrap64 ((wrap64 ((n : Int) * 10)) + (v : Int))) 1114112 = ((min (n * 10 + v) 1114112 : Nat) : Int) := by
 have e1 : wrap64 ((n : Int) * 10) = (n : Int) * 10 := by unfold wrap64; omega
 rw [e1]
 have e2 : wrap64 ((n : Int) * 10 + (v : Int)) = (n : Int) * 10 + (v : Int) := by clear e1; unfold wrap64; omega
 rw [e2]
 clear e1 e2
 unfold mn
 split <;> omega
theorem num_step16 (n v : Nat) (hn : n ≤ 1114112) (hv : v ≤ 15) : mn (wrap64 ((wrap64 ((n : Int) * 16)) + (v : Int))) 1114112 = ((min (n * 16 + v) 1114112 : Nat) : Int) := by
 have e1 : wrap64 ((n : Int) * 16) = (n : Int) * 16 := by unfold wrap64; omega
 rw [e1]
 have e2 : wrap64 ((n : Int) * 16 + (v : Int)) = (n : Int) * 16 + (v : Int) := by clear e1; unfold wrap64; omega
 rw [e2]
 clear e1 e2
 unfold mn
 split <;> omega

theorem number_l0 (s : ByteArray) (hs : s.size ≤ 9223372036854775807) (hex : Bool) (base : Nat) (hb : base = if hex = true then 16 else 10) (ok : Bool) : ∀ (d i k n : Nat), s.size - i = d → i ≤ s.size → n ≤ 1114112 → d + 2 ≤ k →
  charref_Number.l0 k s (base : Int) (n : Int) ok (s.size : Int) (i : Int) =
   some (if (s.data.toList.drop i).all (isDig hex) = true then (if ok = true then saysF (((s.data.toList.drop i).foldl (numStep base) n : Nat) : Int) else (65533, false)) else (65533, false))
 | 0, i, k, n, hd, hi, hn, hk => by
  obtain ⟨k, rfl⟩ : ∃ j, k = j + 1 := ⟨k - 1, by omega⟩
  obtain rfl : i = s.size := by omega
  have he : s.data.toList.drop s.size = [] := List.drop_eq_nil_of_le (by simp)
  rw [charref_Number.l0, if_neg (by omega), he]
  simp only [List.all_nil, List.foldl_nil, if_true]
  by_cases ho : ok = true
  ·rw [if_pos ho, if_pos ho]
   have : charref_says.f (n : Int) = some (saysF (n : Int)) := by unfold charref_says.f; rw [if_pos (by omega)]
   rw [this]
   rfl
  ·rw [if_neg ho, if_neg ho]
 | d + 1, i, k, n, hd, hi, hn, hk => by
  obtain ⟨k, rfl⟩ : ∃ j, k = j + 2 := ⟨k - 2, by omega⟩
  have hlt : i < s.size := by omega
  have hl : i < s.data.toList.length := by simpa using hlt
  have hdr := List.drop_eq_getElem_cons hl
  have hg : s.data.toList.getD i 0 = s.data.toList[i] := by rw [List.getD_eq_getElem?_getD, List.getElem?_eq_getElem hl]; rfl
  have ih := fun (n : Nat) (hn : n ≤ 1114112) => number_l0 s hs hex base hb ok d (i + 1) (k + 1) n (by omega) (by omega) hn (by omega)
  rw [hdr, List.all_cons, List.foldl_cons]
  rw [charref_Number.l0, if_pos (by omega), if_pos (by omega), if_pos (by omega), bt_l s i hlt, hg, value_f, Option.bind_some]
  generalize s.data.toList[i] = b
  have hr := digV_range ⟨b.toNat, UInt8.toNat_lt b⟩
  simp only at hr
  have hbase : base = 10 ∨ base = 16 := by subst hb; split <;> simp
  by_cases h0 : digV b.toNat < 0
  ·have hd0 : isDig hex b = false := by unfold isDig; rw [decide_eq_false (by omega), Bool.false_and]
   rw [if_pos h0, hd0, Bool.false_and, if_neg (by decide)]
  rw [if_neg h0]
  by_cases h1 : digV b.toNat ≥ (base : Int)
  ·have hd0 : isDig hex b = false := by
    unfold isDig
    cases hex with
    | true => simp at hb; omega
    | false => simp at hb; rw [Bool.false_or, decide_eq_false (by omega : ¬ digV b.toNat < 10), Bool.and_false]
   rw [if_pos h1, hd0, Bool.false_and, if_neg (by decide)]
  rw [if_neg h1]
  have hd1 : isDig hex b = true := by
   unfold isDig
   rw [decide_eq_true (by omega), Bool.true_and]
   cases hex with
   | true => rfl
   | false => simp at hb; rw [Bool.false_or, decide_eq_true (by omega)]
  have HM := Aside0.mk (show mn (wrap64 ((wrap64 ((n : Int) * (base : Int))) + digV b.toNat)) 1114112 = ((numStep base n b : Nat) : Int) by
   obtain ⟨v, hv⟩ : ∃ v : Nat, digV b.toNat = v := ⟨(digV b.toNat).toNat, by omega⟩
   unfold numStep
   rw [hv, Int.toNat_natCast]
   rcases hbase with hb2 | hb2
   ·rw [hb2]; exact num_step10 n v hn (by omega)
   ·rw [hb2]; exact num_step16 n v hn (by omega))
  have HW := Aside0.mk (show wrap64 ((i : Int) + 1) = ((i + 1 : Nat) : Int) by unfold wrap64; omega)
  rw [HM.out, HW.out, ih _ (by unfold numStep; omega), hd1, Bool.true_and]
theorem number_f (k : Nat) (s : ByteArray) (hs : s.size ≤ 9223372036854775807) (hk : s.size + 4 ≤ k) (hex : Bool) : charref_Number.f k s hex = some (numL hex s.data.toList) := by
 obtain ⟨j, rfl⟩ : ∃ j, k = j + 1 := ⟨k - 1, by omega⟩
 have hne : (s.toList != ([] : List UInt8)) = decide (s.data.toList ≠ []) := by rw [ByteArray.toList_eq, Bool.eq_iff_iff, bne_iff_ne, decide_eq_true_iff]
 have key : ∀ base : Nat, base = (if hex = true then 16 else 10) → charref_Number.j0 (j + 1) s (base : Int) = some (numL hex s.data.toList) := by
  intro base hb
  rw [charref_Number.j0]
  have := number_l0 s hs hex base hb (s.toList != ([] : List UInt8)) s.size 0 j 0 (by omega) (by omega) (by omega) (by omega)
  rw [List.drop_zero] at this
  refine Eq.trans this ?_
  unfold numL
  rw [hne, hb]
  by_cases h : s.data.toList = []
  ·simp [h]
  ·simp [h]
 unfold charref_Number.f
 cases hex with
 | true => rw [if_pos rfl]; exact key 16 rfl
 | false => rw [if_neg (by decide)]; exact key 10 rfl
end Go.Proofs.YthmbbkbmlnaghaaDoor.P
end
section
namespace Go.Proofs.YthmbbkbmlnaghaaDoor.P
open Go.RowKit Go.Proofs.YthmbbkbmlnaghaaDoorW.PrintWords Go.Proofs.YthmbbkbmlnaghaaDoorW.PrintLast Go.Proofs.YthmbbkbmlnaghaaDoorW.PrintMore
attribute [local go_sem] max2_int min2_int max_two min_two max_three min_three max_four min_four   -- for this text's walks alone
set_option linter.unusedVariables false
set_option linter.unusedSimpArgs false

/-! ### charref_next: function 22 -/
def charref_next.j0 : Nat → ByteArray → Bool → Bool → Bool → Option (ByteArray × Int × Bool)
 | 0, _, _, _, _ => none
 | k + 1, x0, x1, x2, x13 => if x13 = true then ((charref_numeric.f k x0 x2).bind fun bt278 => (some (bt278.1, bt278.2.1, bt278.2.2))) else ((charref_named.f k x0 x1 x2).bind fun bt281 => (some (bt281.1, bt281.2.1, bt281.2.2)))
def charref_next.f (k : Nat) (a0 : ByteArray) (a1 : Bool) (a2 : Bool) : Option (ByteArray × Int × Bool) := if a0.toList = ([] : List UInt8) then (charref_next.j0 k a0 a1 a2 false) else (if 0 < (a0.size : Int) then (charref_next.j0 k a0 a1 a2 ((bt a0 0) == 35)) else (none))
theorem charref_next.mono_l : ∀ k, (∀ y0 y1 y2 y3, LeO (charref_next.j0 k y0 y1 y2 y3) (charref_next.j0 (k + 1) y0 y1 y2 y3))
 | 0 => fun _ _ _ _ r h => by simp [charref_next.j0] at h
 | k + 1 => by
  have ih0 := charref_next.mono_l k
  ·intro y0 y1 y2 y3
   unfold charref_next.j0
   repeat' first
   | (with_reducible exact ih0 _ _ _ _)
   | (with_reducible exact charref_named.mono _ _ _ _)
   | (with_reducible exact charref_numeric.mono _ _ _)
   | (with_reducible exact LeO.refl _)
   | (with_reducible exact LeO.none _)
   | (with_reducible refine LeO.ite ?_ ?_)
   | (with_reducible refine LeO.bind ?_ (fun _ => ?_))
   | exact ih0 _ _ _ _
   | exact charref_named.mono _ _ _ _
   | exact charref_numeric.mono _ _ _
   | exact LeO.none _
   | refine LeO.ite ?_ ?_
   | refine LeO.bind ?_ (fun _ => ?_)
theorem charref_next.mono : ∀ a0 a1 a2 k, LeO (charref_next.f k a0 a1 a2) (charref_next.f (k + 1) a0 a1 a2) := by
 intro a0 a1 a2 k
 have ih0 := charref_next.mono_l k
 unfold charref_next.f
 repeat' first
   | (with_reducible exact ih0 _ _ _ _)
   | (with_reducible exact charref_named.mono _ _ _ _)
   | (with_reducible exact charref_numeric.mono _ _ _)
   | (with_reducible exact LeO.refl _)
   | (with_reducible exact LeO.none _)
   | (with_reducible refine LeO.ite ?_ ?_)
   | (with_reducible refine LeO.bind ?_ (fun _ => ?_))
   | exact ih0 _ _ _ _
   | exact charref_named.mono _ _ _ _
   | exact charref_numeric.mono _ _ _
   | exact LeO.none _
   | refine LeO.ite ?_ ?_
   | refine LeO.bind ?_ (fun _ => ?_)
set_option maxHeartbeats 8000000 in
set_option maxRecDepth 100000 in
theorem charref_next.calls (k : Nat) (a0 : ByteArray) (a1 : Bool) (a2 : Bool) (r1 : ByteArray) (r2 : Int) (r3 : Bool) (w : World) (h : charref_next.f k a0 a1 a2 = some (r1, r2, r3)) :
  Calls Tryd.prog 22 #[.string a0, .bool a1, .bool a2] w fun e w' => e = .returned (.agg #[.string r1, .int .i64 r2, .bool r3]) ∧ Below w.heap.size w w' := by
 have hu38 := Tryd.underlying38
 have HB := Aside0.mk (Below.refl w.heap.size w)
 have H : (if a0.toList = ([] : List UInt8) then (charref_next.j0 k a0 a1 a2 false) else (if 0 < (a0.size : Int) then (charref_next.j0 k a0 a1 a2 ((bt a0 0) == 35)) else (none))) = some (r1, r2, r3) := h
 clear h
 have HC4 := Aside0.mk H
 clear H
 go_enter Tryd.func22, Tryd.ntmps22
 go_upto_region 1 with (first | ((with_reducible refine gate_dst (N := 6) rfl ?_); refine box_event ?hg (N := 6) ?hd (cs := #[.string (⟨#[]⟩ : ByteArray), .int .i64 0, .bool false]) (t := 38) ?hr ?_; (case hd => rfl); (case hg => rfl); (case hr => first | (go_simp; done) | (go_simp; rfl)); intro gb277 hg w5 hbox hb; have n0_ := Aside0.mk (below_step (by repeat (first | (with_reducible first | exact HB.out | apply below_alloc | apply pw_below_drewN | apply below_drew1) | exact HB.out)) hb); have n1_ := Aside0.mk (hbox); have n2_ := Aside0.mk ((by rw [hg]; exact (below_size (by repeat (first | (with_reducible first | exact HB.out | apply below_alloc | apply pw_below_drewN | apply below_drew1) | exact HB.out))) : w.heap.size ≤ gb277)); have n3_ := Aside0.mk ((by rw [hg]; exact (below_size (by repeat (first | (with_reducible first | exact HB.out | apply below_alloc | apply pw_below_drewN | apply below_drew1) | exact HB.out))) : w.heap.size ≤ gb277)); clear HB; have HB := n0_; have BK277 := n1_; have GW277 := n2_; have GE277 := n3_; clear n0_ n1_ n2_ n3_; clear hb hbox hg))
 (try simp only [Act.put, List.setIfInBounds_toArray, List.set_cons_zero, List.set_cons_succ])
 go_cut [13] (fun v13 wc => ∃ (kq : Nat) (x13_3 : Bool), v13 = .bool x13_3 ∧ Aside0 (charref_next.j0 kq a0 a1 a2 x13_3 = some (r1, r2, r3)) ∧ Aside0 (kq ≤ k) ∧ Aside0 (wc.heap[gb277]? = some (.cells #[.string (⟨#[]⟩ : ByteArray), .int .i64 0, .bool false] 38 (0, 0))) ∧ Aside0 (Below w.heap.size w wc))
 case first =>
  have H := HC4.out
  clear HC4
  by_cases c6 : a0.toList = ([] : List UInt8)
  ·rw [if_pos c6] at H
   have c6b0 : (a0.toList == ([] : List UInt8)) = true := beq_iff_eq.mpr c6
   have c6b1 : (a0.toList != ([] : List UInt8)) = false := bne_eq_false_iff_eq.mpr c6
   clear c6
   (first | rw [c6b0] | (simp only [i64_w, i32_w]; rw [c6b0]) | skip)
   have H' := Aside0.mk H
   clear H
   go_wp2
   go_meet
   case rel => exact ⟨_, (false), (by first | rfl | (simp; done) | (simp [*]; done) | (unfold bt; split <;> first | rfl | (exfalso; simp_all; done) | (exfalso; simp_all; omega))), H', ⟨by first | omega | exact Nat.le_refl _⟩, ⟨by (with_reducible repeat (first | refine blk_drewN ?_ _ | refine blk_drew ?_ | refine blk_alloc ?_ _)); exact BK277.out⟩, ⟨by repeat (first | (with_reducible first | exact HB.out | apply below_alloc | apply pw_below_drewN | apply below_drew1 | refine below_set ?_ GE277.out) | exact HB.out)⟩⟩
  ·rw [if_neg c6] at H
   have c6b0 : (a0.toList == ([] : List UInt8)) = false := beq_eq_false_iff_ne.mpr c6
   have c6b1 : (a0.toList != ([] : List UInt8)) = true := bne_iff_ne.mpr c6
   (first | rw [c6b0] | (simp only [i64_w, i32_w]; rw [c6b0]) | skip)
   by_cases c7 : 0 < (a0.size : Int)
   ·rw [if_pos c7] at H
    have c7b0 : decide (0 < (a0.size : Int)) = true := decide_eq_true c7
    have c7b1 : decide (0 < a0.size) = true := decide_eq_true (by omega)
    clear c7
    have H' := Aside0.mk H
    clear H
    have p8 : 0 ≤ (0 : Int) := (by omega)
    have q8 : 0 < a0.size := (by have : (0 : Int) < (a0.size : Int) := of_decide_eq_true (by first | (with_reducible assumption) | assumption); omega)
    have hx8 : ∀ h : 0 < a0.size, ((a0[0]'h).toNat : Int) = bt a0 0 := bt_at a0 0
    clear p8
    have qi8 : (0 < (a0.size : Int)) = True := eq_true (of_decide_eq_true (by first | (with_reducible assumption) | assumption))
    replace q8 := eq_true q8
    go_wp2
    go_meet
    case rel => exact ⟨_, (((bt a0 0) == 35)), (by first | rfl | (simp; done) | (simp [*]; done) | (unfold bt; split <;> first | rfl | (exfalso; simp_all; done) | (exfalso; simp_all; omega))), H', ⟨by first | omega | exact Nat.le_refl _⟩, ⟨by (with_reducible repeat (first | refine blk_drewN ?_ _ | refine blk_drew ?_ | refine blk_alloc ?_ _)); exact BK277.out⟩, ⟨by repeat (first | (with_reducible first | exact HB.out | apply below_alloc | apply pw_below_drewN | apply below_drew1 | refine below_set ?_ GE277.out) | exact HB.out)⟩⟩
   ·rw [if_neg c7] at H
    exact absurd H (by simp)
 case rest =>
  clear HC4
  try clear c2
  try clear p2
  try clear c6
  try clear c6b0
  try clear c6b1
  try clear c7
  try clear c7b0
  try clear c7b1
  try clear p8
  try clear q8
  try clear hx8
  try clear qi8
  try clear p8
  try clear q8
  obtain ⟨kq, x13_3, rfl, HA, HJ3, BK277, HB⟩ := hcut
  cases kq with
  | zero => exact absurd HA.out (by simp [charref_next.j0])
  | succ kj3 =>
   have H := HA.out
   clear HA
   simp only [charref_next.j0] at H
   by_cases c9 : x13_3 = true
   ·subst c9
    have H1 : ((charref_numeric.f kj3 a0 a2).bind fun bt278 => (some (bt278.1, bt278.2.1, bt278.2.2))) = some (r1, r2, r3) := by rw [if_pos rfl] at H; exact H
    clear H
    have H := H1
    clear H1
    replace H := Option.bind_eq_some_iff.mp H
    obtain ⟨⟨t278, t279, t280⟩, A100, H⟩ := H
    replace H : (some (t278, t279, t280)) = some (r1, r2, r3) := H
    have A10 := Aside0.mk A100
    clear A100
    simp only [Option.some.injEq, Prod.mk.injEq] at H
    obtain ⟨rfl, rfl, rfl⟩ := H
    go_wp2_with (first | ((with_reducible refine gate_callee (f := 40) rfl ?_); refine goesL_ (some 16) rfl rfl Tryd.func40 (by kernel_rfl) rfl #[.string a0, .bool a2] rfl (by (try simp only [List.map_toArray, List.map_cons, List.map_nil]); first | done | rfl | (simp only [List.length_drop, List.length_take]; rfl) | (simp [*] <;> rfl)) ?_; (with_reducible refine (charref_numeric.calls kj3 a0 a2 t278 t279 t280 _ A10.out).mono ?_); rintro e w11 ⟨rfl, hb⟩; refine ⟨_, rfl, ?_⟩; have n0_ := Aside0.mk (blk_below (g := gb277) (o := .cells #[.string (⟨#[]⟩ : ByteArray), .int .i64 0, .bool false] 38 (0, 0)) (by (with_reducible repeat (first | refine blk_drewN ?_ _ | refine blk_drew ?_ | refine blk_alloc ?_ _)); exact BK277.out) hb); have n1_ := Aside0.mk (below_step (by repeat (first | (with_reducible first | exact HB.out | apply below_alloc | apply pw_below_drewN | apply below_drew1 | refine below_set ?_ GE277.out) | exact HB.out)) hb); clear BK277; clear HB; have BK277 := n0_; have HB := n1_; clear n0_ n1_; (try clear hb); (try clear hb2); (try clear hk); (try clear hi); have hcz12_0 : w11.cell? ⟨gb277, 0, none⟩ = some (.string (⟨#[]⟩ : ByteArray)) := (blk_cell BK277.out 0).trans rfl; have hcz12_1 : w11.cell? ⟨gb277, 1, none⟩ = some (.int .i64 0) := (blk_cell BK277.out 1).trans rfl; have hcz12_2 : w11.cell? ⟨gb277, 2, none⟩ = some (.bool false) := (blk_cell BK277.out 2).trans rfl; have hfz12_0 := blk_frozen BK277.out 0; have hfz12_1 := blk_frozen BK277.out 1; have hfz12_2 := blk_frozen BK277.out 2))
    refine bodyPost_ret (results_cell_row rfl _ _ gb277 38 #[.string t278, .int .i64 t279, .bool t280] (0, 0) _ rfl (by (with_reducible repeat (first | refine blk_drewN ?_ _ | refine blk_drew ?_ | refine blk_alloc ?_ _)); refine blk_put (cs := #[.string t278, .int .i64 t279, .bool false]) ?_ 2 _ rfl; (with_reducible repeat (first | refine blk_drewN ?_ _ | refine blk_drew ?_ | refine blk_alloc ?_ _)); refine blk_put (cs := #[.string t278, .int .i64 0, .bool false]) ?_ 1 _ rfl; (with_reducible repeat (first | refine blk_drewN ?_ _ | refine blk_drew ?_ | refine blk_alloc ?_ _)); refine blk_put (cs := #[.string (⟨#[]⟩ : ByteArray), .int .i64 0, .bool false]) ?_ 0 _ rfl; (with_reducible repeat (first | refine blk_drewN ?_ _ | refine blk_drew ?_ | refine blk_alloc ?_ _)); exact BK277.out) Tryd.underlying38 rfl (by kernel_rfl)) rfl ?_
    exact ⟨by first | rfl | (simp [errW_none, errW_some] <;> rfl) | (simp [*, errW_none, errW_some] <;> rfl), by repeat (first | (with_reducible first | exact HB.out | apply below_alloc | apply pw_below_drewN | apply below_drew1 | refine below_set ?_ GE277.out) | exact HB.out)⟩
   ·replace c9 := Bool.eq_false_iff.mpr c9
    subst c9
    have H1 : ((charref_named.f kj3 a0 a1 a2).bind fun bt281 => (some (bt281.1, bt281.2.1, bt281.2.2))) = some (r1, r2, r3) := by rw [if_neg (show ¬ (false = true) by decide)] at H; exact H
    clear H
    have H := H1
    clear H1
    replace H := Option.bind_eq_some_iff.mp H
    obtain ⟨⟨t281, t282, t283⟩, A130, H⟩ := H
    replace H : (some (t281, t282, t283)) = some (r1, r2, r3) := H
    have A13 := Aside0.mk A130
    clear A130
    simp only [Option.some.injEq, Prod.mk.injEq] at H
    obtain ⟨rfl, rfl, rfl⟩ := H
    go_wp2_with (first | ((with_reducible refine gate_callee (f := 41) rfl ?_); refine goesL_ (some 20) rfl rfl Tryd.func41 (by kernel_rfl) rfl #[.string a0, .bool a1, .bool a2] rfl (by (try simp only [List.map_toArray, List.map_cons, List.map_nil]); first | done | rfl | (simp only [List.length_drop, List.length_take]; rfl) | (simp [*] <;> rfl)) ?_; (with_reducible refine (charref_named.calls kj3 a0 a1 a2 t281 t282 t283 _ A13.out).mono ?_); rintro e w14 ⟨rfl, hb⟩; refine ⟨_, rfl, ?_⟩; have n0_ := Aside0.mk (blk_below (g := gb277) (o := .cells #[.string (⟨#[]⟩ : ByteArray), .int .i64 0, .bool false] 38 (0, 0)) (by (with_reducible repeat (first | refine blk_drewN ?_ _ | refine blk_drew ?_ | refine blk_alloc ?_ _)); exact BK277.out) hb); have n1_ := Aside0.mk (below_step (by repeat (first | (with_reducible first | exact HB.out | apply below_alloc | apply pw_below_drewN | apply below_drew1 | refine below_set ?_ GE277.out) | exact HB.out)) hb); clear BK277; clear HB; have BK277 := n0_; have HB := n1_; clear n0_ n1_; (try clear hb); (try clear hb2); (try clear hk); (try clear hi); have hcz15_0 : w14.cell? ⟨gb277, 0, none⟩ = some (.string (⟨#[]⟩ : ByteArray)) := (blk_cell BK277.out 0).trans rfl; have hcz15_1 : w14.cell? ⟨gb277, 1, none⟩ = some (.int .i64 0) := (blk_cell BK277.out 1).trans rfl; have hcz15_2 : w14.cell? ⟨gb277, 2, none⟩ = some (.bool false) := (blk_cell BK277.out 2).trans rfl; have hfz15_0 := blk_frozen BK277.out 0; have hfz15_1 := blk_frozen BK277.out 1; have hfz15_2 := blk_frozen BK277.out 2))
    refine bodyPost_ret (results_cell_row rfl _ _ gb277 38 #[.string t281, .int .i64 t282, .bool t283] (0, 0) _ rfl (by (with_reducible repeat (first | refine blk_drewN ?_ _ | refine blk_drew ?_ | refine blk_alloc ?_ _)); refine blk_put (cs := #[.string t281, .int .i64 t282, .bool false]) ?_ 2 _ rfl; (with_reducible repeat (first | refine blk_drewN ?_ _ | refine blk_drew ?_ | refine blk_alloc ?_ _)); refine blk_put (cs := #[.string t281, .int .i64 0, .bool false]) ?_ 1 _ rfl; (with_reducible repeat (first | refine blk_drewN ?_ _ | refine blk_drew ?_ | refine blk_alloc ?_ _)); refine blk_put (cs := #[.string (⟨#[]⟩ : ByteArray), .int .i64 0, .bool false]) ?_ 0 _ rfl; (with_reducible repeat (first | refine blk_drewN ?_ _ | refine blk_drew ?_ | refine blk_alloc ?_ _)); exact BK277.out) Tryd.underlying38 rfl (by kernel_rfl)) rfl ?_
    exact ⟨by first | rfl | (simp [errW_none, errW_some] <;> rfl) | (simp [*, errW_none, errW_some] <;> rfl), by repeat (first | (with_reducible first | exact HB.out | apply below_alloc | apply pw_below_drewN | apply below_drew1 | refine below_set ?_ GE277.out) | exact HB.out)⟩

-- NOT PRINTED: function 42 (charref_each)

-- NOT PRINTED: function 23 (charref_replaced)

/-! ### charref_Next: function 12 -/
def charref_Next.f (k : Nat) (a0 : ByteArray) (a1 : Bool) (a2 : Bool) : Option (ByteArray × Int × Bool) := (charref_next.f k a0 a1 a2).bind fun bt284 => (some (bt284.1, bt284.2.1, bt284.2.2))
set_option maxHeartbeats 8000000 in
set_option maxRecDepth 100000 in
theorem charref_Next.calls (k : Nat) (a0 : ByteArray) (a1 : Bool) (a2 : Bool) (r1 : ByteArray) (r2 : Int) (r3 : Bool) (w : World) (h : charref_Next.f k a0 a1 a2 = some (r1, r2, r3)) :
  Calls Tryd.prog 12 #[.string a0, .bool a1, .bool a2] w fun e w' => e = .returned (.tuple #[.string r1, .int .i64 r2, .bool r3]) ∧ Below w.heap.size w w' := by
 have hu38 := Tryd.underlying38
 have HB := Aside0.mk (Below.refl w.heap.size w)
 have H : ((charref_next.f k a0 a1 a2).bind fun bt284 => (some (bt284.1, bt284.2.1, bt284.2.2))) = some (r1, r2, r3) := h
 clear h
 replace H := Option.bind_eq_some_iff.mp H
 obtain ⟨⟨t284, t285, t286⟩, A40, H⟩ := H
 replace H : (some (t284, t285, t286)) = some (r1, r2, r3) := H
 have A4 := Aside0.mk A40
 clear A40
 simp only [Option.some.injEq, Prod.mk.injEq] at H
 obtain ⟨rfl, rfl, rfl⟩ := H
 go_enter Tryd.func12, Tryd.ntmps12
 go_wp2_with (first | (go_at_call 22; (with_reducible refine (charref_next.calls k a0 a1 a2 t284 t285 t286 _ A4.out).mono ?_); rintro e w5 ⟨rfl, hb⟩; have n0_ := Aside0.mk (below_step (by repeat (first | (with_reducible first | exact HB.out | apply below_alloc | apply pw_below_drewN | apply below_drew1) | exact HB.out)) hb); clear HB; have HB := n0_; clear n0_; (try clear hb); (try clear hb2); (try clear hk); (try clear hi)) | ((with_reducible refine gate_dst (N := 9) rfl ?_); refine box_event ?hg (N := 9) ?hd (cs := #[.string (⟨#[]⟩ : ByteArray), .int .i64 0, .bool false]) (t := 38) ?hr ?_; (case hd => rfl); (case hg => rfl); (case hr => first | (go_simp; done) | (go_simp; rfl)); intro gb287 hg w6 hbox hb; have n0_ := Aside0.mk (below_step (by repeat (first | (with_reducible first | exact HB.out | apply below_alloc | apply pw_below_drewN | apply below_drew1) | exact HB.out)) hb); have n1_ := Aside0.mk (hbox); have n2_ := Aside0.mk ((by rw [hg]; exact (below_size (by repeat (first | (with_reducible first | exact HB.out | apply below_alloc | apply pw_below_drewN | apply below_drew1) | exact HB.out))) : w.heap.size ≤ gb287)); have n3_ := Aside0.mk ((by rw [hg]; exact (below_size (by repeat (first | (with_reducible first | exact HB.out | apply below_alloc | apply pw_below_drewN | apply below_drew1) | exact HB.out))) : w.heap.size ≤ gb287)); clear HB; have HB := n0_; have BK287 := n1_; have GW287 := n2_; have GE287 := n3_; clear n0_ n1_ n2_ n3_; clear hb hbox hg; have hcz7_0 : w6.cell? ⟨gb287, 0, none⟩ = some (.string (⟨#[]⟩ : ByteArray)) := (blk_cell BK287.out 0).trans rfl; have hcz7_1 : w6.cell? ⟨gb287, 1, none⟩ = some (.int .i64 0) := (blk_cell BK287.out 1).trans rfl; have hcz7_2 : w6.cell? ⟨gb287, 2, none⟩ = some (.bool false) := (blk_cell BK287.out 2).trans rfl; have hfz7_0 := blk_frozen BK287.out 0; have hfz7_1 := blk_frozen BK287.out 1; have hfz7_2 := blk_frozen BK287.out 2))
 repeat (go_quiet (first | (go_at_call 22; (with_reducible refine (charref_next.calls k a0 a1 a2 t284 t285 t286 _ A4.out).mono ?_); rintro e w5 ⟨rfl, hb⟩; have n0_ := Aside0.mk (below_step (by repeat (first | (with_reducible first | exact HB.out | apply below_alloc | apply pw_below_drewN | apply below_drew1) | exact HB.out)) hb); clear HB; have HB := n0_; clear n0_; (try clear hb); (try clear hb2); (try clear hk); (try clear hi)) | ((with_reducible refine gate_dst (N := 9) rfl ?_); refine box_event ?hg (N := 9) ?hd (cs := #[.string (⟨#[]⟩ : ByteArray), .int .i64 0, .bool false]) (t := 38) ?hr ?_; (case hd => rfl); (case hg => rfl); (case hr => first | (go_simp; done) | (go_simp; rfl)); intro gb287 hg w6 hbox hb; have n0_ := Aside0.mk (below_step (by repeat (first | (with_reducible first | exact HB.out | apply below_alloc | apply pw_below_drewN | apply below_drew1) | exact HB.out)) hb); have n1_ := Aside0.mk (hbox); have n2_ := Aside0.mk ((by rw [hg]; exact (below_size (by repeat (first | (with_reducible first | exact HB.out | apply below_alloc | apply pw_below_drewN | apply below_drew1) | exact HB.out))) : w.heap.size ≤ gb287)); have n3_ := Aside0.mk ((by rw [hg]; exact (below_size (by repeat (first | (with_reducible first | exact HB.out | apply below_alloc | apply pw_below_drewN | apply below_drew1) | exact HB.out))) : w.heap.size ≤ gb287)); clear HB; have HB := n0_; have BK287 := n1_; have GW287 := n2_; have GE287 := n3_; clear n0_ n1_ n2_ n3_; clear hb hbox hg; have hcz7_0 : w6.cell? ⟨gb287, 0, none⟩ = some (.string (⟨#[]⟩ : ByteArray)) := (blk_cell BK287.out 0).trans rfl; have hcz7_1 : w6.cell? ⟨gb287, 1, none⟩ = some (.int .i64 0) := (blk_cell BK287.out 1).trans rfl; have hcz7_2 : w6.cell? ⟨gb287, 2, none⟩ = some (.bool false) := (blk_cell BK287.out 2).trans rfl; have hfz7_0 := blk_frozen BK287.out 0; have hfz7_1 := blk_frozen BK287.out 1; have hfz7_2 := blk_frozen BK287.out 2)); try go_wp2_with (first | (go_at_call 22; (with_reducible refine (charref_next.calls k a0 a1 a2 t284 t285 t286 _ A4.out).mono ?_); rintro e w5 ⟨rfl, hb⟩; have n0_ := Aside0.mk (below_step (by repeat (first | (with_reducible first | exact HB.out | apply below_alloc | apply pw_below_drewN | apply below_drew1) | exact HB.out)) hb); clear HB; have HB := n0_; clear n0_; (try clear hb); (try clear hb2); (try clear hk); (try clear hi)) | ((with_reducible refine gate_dst (N := 9) rfl ?_); refine box_event ?hg (N := 9) ?hd (cs := #[.string (⟨#[]⟩ : ByteArray), .int .i64 0, .bool false]) (t := 38) ?hr ?_; (case hd => rfl); (case hg => rfl); (case hr => first | (go_simp; done) | (go_simp; rfl)); intro gb287 hg w6 hbox hb; have n0_ := Aside0.mk (below_step (by repeat (first | (with_reducible first | exact HB.out | apply below_alloc | apply pw_below_drewN | apply below_drew1) | exact HB.out)) hb); have n1_ := Aside0.mk (hbox); have n2_ := Aside0.mk ((by rw [hg]; exact (below_size (by repeat (first | (with_reducible first | exact HB.out | apply below_alloc | apply pw_below_drewN | apply below_drew1) | exact HB.out))) : w.heap.size ≤ gb287)); have n3_ := Aside0.mk ((by rw [hg]; exact (below_size (by repeat (first | (with_reducible first | exact HB.out | apply below_alloc | apply pw_below_drewN | apply below_drew1) | exact HB.out))) : w.heap.size ≤ gb287)); clear HB; have HB := n0_; have BK287 := n1_; have GW287 := n2_; have GE287 := n3_; clear n0_ n1_ n2_ n3_; clear hb hbox hg; have hcz7_0 : w6.cell? ⟨gb287, 0, none⟩ = some (.string (⟨#[]⟩ : ByteArray)) := (blk_cell BK287.out 0).trans rfl; have hcz7_1 : w6.cell? ⟨gb287, 1, none⟩ = some (.int .i64 0) := (blk_cell BK287.out 1).trans rfl; have hcz7_2 : w6.cell? ⟨gb287, 2, none⟩ = some (.bool false) := (blk_cell BK287.out 2).trans rfl; have hfz7_0 := blk_frozen BK287.out 0; have hfz7_1 := blk_frozen BK287.out 1; have hfz7_2 := blk_frozen BK287.out 2)))
 go_ret3
 exact ⟨by first | rfl | (simp [errW_none, errW_some] <;> rfl) | (simp [*, errW_none, errW_some] <;> rfl), by repeat (first | (with_reducible first | exact HB.out | apply below_alloc | apply pw_below_drewN | apply below_drew1 | refine below_set ?_ GE287.out) | exact HB.out)⟩

end Go.Proofs.YthmbbkbmlnaghaaDoor.P
end
section
/-
 charref.next in plain Lean: total on every text that is not too long.
-/
namespace Go.Proofs.YthmbbkbmlnaghaaDoor.P
open Go.RowKit Go.Proofs.YthmbbkbmlnaghaaDoorW.PrintWords Go.Proofs.YthmbbkbmlnaghaaDoorW.PrintLast Go.Proofs.YthmbbkbmlnaghaaDoorW.PrintMore
set_option linter.unusedVariables false
set_option linter.unusedSimpArgs false

/-- what a numeric reference says -/
def numericP (s : ByteArray) (e : Bool) : ByteArray × Int × Bool :=
 if s.size = 1 then (emp, 0, e)
 else if numAt s = s.size ∧ e = false then (emp, 0, false)
 else if numAt s = numFrom s then (emp, 0, true)
 else (Utf8.encode (numL (numHex s) (s.extract (numFrom s) (numAt s)).data.toList).1, ((if numAt s < s.size ∧ bt s (numAt s : Nat) = 59 then numAt s + 1 else numAt s : Nat) : Int), true)
theorem numeric_f (k : Nat) (s : ByteArray) (e : Bool) (hs : s.size ≤ 35184372088831) (h1 : 1 ≤ s.size) (hk : s.size + 4 ≤ k) : charref_numeric.f k s e = some (numericP s e) := by
 unfold charref_numeric.f numericP
 rw [if_pos ⟨hs, h1⟩]
 by_cases c1 : s.size = 1
 ·rw [if_pos c1, if_pos c1]
  rfl
 rw [if_neg c1, if_neg c1]
 by_cases c2 : numAt s = s.size ∧ e = false
 ·rw [if_pos c2, if_pos c2]
  rfl
 rw [if_neg c2, if_neg c2]
 by_cases c3 : numAt s = numFrom s
 ·rw [if_pos c3, if_pos c3]
  rfl
 rw [if_neg c3, if_neg c3, number_f k _ (by simp; omega) (by simp; omega), Option.bind_some]
def nextP (s : ByteArray) (attr e : Bool) : ByteArray × Int × Bool :=
 if s.data.toList ≠ [] ∧ s.data.toList.getD 0 0 = 35 then numericP s e else namedL s.data.toList attr e
theorem next_f (k : Nat) (s : ByteArray) (attr e : Bool) (hs : s.size ≤ 35184372088831) (hk : s.size + 610 ≤ k) : charref_next.f k s attr e = some (nextP s attr e) := by
 obtain ⟨j, rfl⟩ : ∃ j, k = j + 1 := ⟨k - 1, by omega⟩
 unfold charref_next.f nextP
 have hsl : s.data.toList.length = s.size := by simp
 rw [ByteArray.toList_eq]
 by_cases h0 : s.data.toList = []
 ·rw [if_pos h0, if_neg (show ¬ (s.data.toList ≠ [] ∧ _) from fun h => h.1 h0), charref_next.j0, if_neg (by decide), named_f j (by omega), Option.bind_some]
 ·have hpos : 0 < s.size := by rw [← hsl]; exact List.length_pos_iff.2 h0
  have hb : bt s 0 = ((s.data.toList.getD 0 0).toNat : Int) := bt_l s 0 hpos
  have hq : ((s.data.toList.getD 0 0).toNat : Int) = 35 ↔ s.data.toList.getD 0 0 = 35 := u8_eq _ 35 (by decide)
  rw [if_neg h0, if_pos (by omega), hb, charref_next.j0]
  by_cases c : s.data.toList.getD 0 0 = 35
  ·rw [if_pos (beq_iff_eq.2 (hq.2 c)), if_pos (show s.data.toList ≠ [] ∧ s.data.toList.getD 0 0 = 35 from ⟨h0, c⟩), numeric_f j s e hs (by omega) (by omega), Option.bind_some]
  ·rw [if_neg (by rw [beq_iff_eq]; exact fun h => c (hq.1 h)), if_neg (show ¬ (s.data.toList ≠ [] ∧ s.data.toList.getD 0 0 = 35) from fun h => c h.2), named_f j (by omega), Option.bind_some]
end Go.Proofs.YthmbbkbmlnaghaaDoor.P
end
section
/-
  UTF-8 in plain Lean: the runes of bytes, the bytes of runes, there and back.
-/
set_option linter.unusedVariables false
namespace Go.Proofs.YthmbbkbmlnaghaaDoor.P
open Go.Lib

/-- the rune at the head, its width, and 0: whole, 1: wrong, 2: begun -/
def rdN (n b0 b1 b2 b3 : Nat) : Nat × Nat × Nat :=
  if b0 < 128 then (b0, 1, 0)
  else if b0 < 194 then (65533, 1, 1)
  else if b0 < 224 then
    (if n ≤ 1 then (65533, 1, 2) else if b1 < 128 ∨ 191 < b1 then (65533, 1, 1) else (b0 % 32 * 64 + b1 % 64, 2, 0))
  else if b0 < 240 then
    (if n ≤ 1 then (65533, 1, 2) else if b1 < 128 ∨ 191 < b1 ∨ (b0 = 224 ∧ b1 < 160) ∨ (b0 = 237 ∧ 159 < b1) then (65533, 1, 1)
     else if n ≤ 2 then (65533, 2, 2) else if b2 < 128 ∨ 191 < b2 then (65533, 2, 1)
     else (b0 % 16 * 4096 + b1 % 64 * 64 + b2 % 64, 3, 0))
  else if b0 < 245 then
    (if n ≤ 1 then (65533, 1, 2) else if b1 < 128 ∨ 191 < b1 ∨ (b0 = 240 ∧ b1 < 144) ∨ (b0 = 244 ∧ 143 < b1) then (65533, 1, 1)
     else if n ≤ 2 then (65533, 2, 2) else if b2 < 128 ∨ 191 < b2 then (65533, 2, 1)
     else if n ≤ 3 then (65533, 3, 2) else if b3 < 128 ∨ 191 < b3 then (65533, 3, 1)
     else (b0 % 8 * 262144 + b1 % 64 * 4096 + b2 % 64 * 64 + b3 % 64, 4, 0))
  else (65533, 1, 1)

def goodR (r : Int) : Prop := (0 ≤ r ∧ r < 55296) ∨ (57344 ≤ r ∧ r ≤ 1114111)
instance (r : Int) : Decidable (goodR r) := by unfold goodR; infer_instance

theorem ite_ok {α : Type} {P : α → Prop} {c : Prop} [Decidable c] {a b : α} (hp : c → P a) (hn : ¬ c → P b) : P (if c then a else b) := by
  split
  · exact hp ‹_›
  · exact hn ‹_›

def FactsN (n : Nat) (r : Nat × Nat × Nat) : Prop :=
  1 ≤ r.2.1 ∧ r.2.1 ≤ n ∧ r.2.1 ≤ 4 ∧ r.2.2 ≤ 2 ∧ (r.1 < 55296 ∨ (57344 ≤ r.1 ∧ r.1 ≤ 1114111)) ∧ (r.2.2 ≠ 0 → r.1 = 65533)

theorem rdN_facts (n b0 b1 b2 b3 : Nat) (hn : 1 ≤ n) (h0 : b0 < 256) (h1 : b1 < 256) (h2 : b2 < 256) (h3 : b3 < 256) : FactsN n (rdN n b0 b1 b2 b3) := by
  unfold rdN
  repeat' (refine ite_ok (fun _ => ?_) (fun _ => ?_))
  all_goals (refine ⟨?_, ?_, ?_, ?_, ?_, fun _ => ?_⟩ <;> simp only at * <;> omega)

def DecN (n b0 b1 b2 b3 : Nat) (r : Nat × Nat × Nat) : Prop := decodeN n b0 b1 b2 b3 = if r.2.2 = 0 then (r.1, r.2.1) else (65533, 1)
set_option maxHeartbeats 2000000 in
set_option maxRecDepth 100000 in
/-- against the model's own decode -/
theorem rdN_decode (n b0 b1 b2 b3 : Nat) (hn : 1 ≤ n) (h0 : b0 < 256) (h1 : b1 < 256) (h2 : b2 < 256) (h3 : b3 < 256) : DecN n b0 b1 b2 b3 (rdN n b0 b1 b2 b3) := by
  unfold rdN
  repeat' (with_reducible refine ite_ok (P := DecN n b0 b1 b2 b3) (fun _ => ?_) (fun _ => ?_))
  all_goals (unfold DecN decodeN; simp only [Nat.succ_ne_zero, if_true, if_false])
  all_goals (repeat' split)
  all_goals first | rfl | (exfalso; omega) | omega

/-! ### lists of bytes -/
def rdL (l : List UInt8) : Nat × Nat × Nat := rdN l.length (l.getD 0 0).toNat (l.getD 1 0).toNat (l.getD 2 0).toNat (l.getD 3 0).toNat

theorem rdL_facts (l : List UInt8) (h : l ≠ []) : FactsN l.length (rdL l) :=
  rdN_facts _ _ _ _ _ (List.length_pos_iff.2 h) (UInt8.toNat_lt _) (UInt8.toNat_lt _) (UInt8.toNat_lt _) (UInt8.toNat_lt _)

theorem rdL_decode (l : List UInt8) (h : l ≠ []) : decodeL l = if (rdL l).2.2 = 0 then ((rdL l).1, (rdL l).2.1) else (65533, 1) := by
  rw [decodeL_N]
  exact rdN_decode _ _ _ _ _ (List.length_pos_iff.2 h) (UInt8.toNat_lt _) (UInt8.toNat_lt _) (UInt8.toNat_lt _) (UInt8.toNat_lt _)

/-- the runes of bytes -/
def runesGo : Nat → List UInt8 → List Int
  | 0, _ => []
  | n + 1, l => if l = [] then [] else ((rdL l).1 : Int) :: runesGo n (l.drop (rdL l).2.1)
def runes (l : List UInt8) : List Int := runesGo l.length l

theorem runesGo_nil (n : Nat) : runesGo n [] = [] := by cases n <;> simp [runesGo]
theorem runesGo_fuel : ∀ (n m : Nat) (l : List UInt8), l.length ≤ n → l.length ≤ m → runesGo n l = runesGo m l
  | 0, m, l, hn, _ => by
    obtain rfl : l = [] := List.eq_nil_of_length_eq_zero (by omega)
    rw [runesGo_nil, runesGo_nil]
  | n + 1, 0, l, _, hm => by
    obtain rfl : l = [] := List.eq_nil_of_length_eq_zero (by omega)
    rw [runesGo_nil, runesGo_nil]
  | n + 1, m + 1, l, hn, hm => by
    unfold runesGo
    by_cases hne : l = []
    · simp [hne]
    · have hw := (rdL_facts l hne).1
      have hl : 0 < l.length := List.length_pos_iff.2 hne
      rw [if_neg hne, if_neg hne, runesGo_fuel n m (l.drop (rdL l).2.1) (by rw [List.length_drop]; omega) (by rw [List.length_drop]; omega)]
theorem runes_nil : runes [] = [] := rfl
theorem runes_step (l : List UInt8) (hne : l ≠ []) : runes l = ((rdL l).1 : Int) :: runes (l.drop (rdL l).2.1) := by
  have hl : 0 < l.length := List.length_pos_iff.2 hne
  have hw := (rdL_facts l hne).1
  obtain ⟨n, hn⟩ : ∃ n, l.length = n + 1 := ⟨l.length - 1, by omega⟩
  unfold runes
  rw [hn]
  show (if l = [] then [] else _) = _
  rw [if_neg hne, runesGo_fuel n (l.drop (rdL l).2.1).length _ (by rw [List.length_drop]; omega) (Nat.le_refl _)]

/-- all is whole -/
def validGo : Nat → List UInt8 → Bool
  | 0, _ => true
  | n + 1, l => if l = [] then true else if (rdL l).2.2 = 0 then validGo n (l.drop (rdL l).2.1) else false
def valid (l : List UInt8) : Bool := validGo l.length l
theorem validGo_nil (n : Nat) : validGo n [] = true := by cases n <;> simp [validGo]
theorem validGo_fuel : ∀ (n m : Nat) (l : List UInt8), l.length ≤ n → l.length ≤ m → validGo n l = validGo m l
  | 0, m, l, hn, _ => by
    obtain rfl : l = [] := List.eq_nil_of_length_eq_zero (by omega)
    rw [validGo_nil, validGo_nil]
  | n + 1, 0, l, _, hm => by
    obtain rfl : l = [] := List.eq_nil_of_length_eq_zero (by omega)
    rw [validGo_nil, validGo_nil]
  | n + 1, m + 1, l, hn, hm => by
    unfold validGo
    by_cases hne : l = []
    · simp [hne]
    · have hw := (rdL_facts l hne).1
      have hl : 0 < l.length := List.length_pos_iff.2 hne
      rw [if_neg hne, if_neg hne, validGo_fuel n m (l.drop (rdL l).2.1) (by rw [List.length_drop]; omega) (by rw [List.length_drop]; omega)]
theorem valid_nil : valid [] = true := rfl
theorem valid_step (l : List UInt8) (hne : l ≠ []) : valid l = if (rdL l).2.2 = 0 then valid (l.drop (rdL l).2.1) else false := by
  have hl : 0 < l.length := List.length_pos_iff.2 hne
  have hw := (rdL_facts l hne).1
  obtain ⟨n, hn⟩ : ∃ n, l.length = n + 1 := ⟨l.length - 1, by omega⟩
  unfold valid
  rw [hn]
  show (if l = [] then true else _) = _
  rw [if_neg hne, validGo_fuel n (l.drop (rdL l).2.1).length _ (by rw [List.length_drop]; omega) (Nat.le_refl _)]

/-! ### there and back -/
def text (rs : List Int) : List UInt8 := rs.flatMap encodeRune
theorem text_nil : text [] = [] := rfl
theorem text_cons (r : Int) (rs : List Int) : text (r :: rs) = encodeRune r ++ text rs := by simp [text]
theorem tob (b : UInt8) (z : Int) (h : z = (b.toNat : Int)) : (z.toNat).toUInt8 = b := by subst h; simp

theorem lenS {l : List UInt8} (k : Nat) (h : k < l.length) : l.drop k = l.getD k 0 :: l.drop (k + 1) := by
  rw [List.drop_eq_getElem_cons h]; simp [List.getD_eq_getElem?_getD, List.getElem?_eq_getElem h]

/-- what is whole is its rune's own bytes -/
theorem rdL_whole (l : List UInt8) (h : (rdL l).2.2 = 0) (hne : l ≠ []) : l = encodeRune ((rdL l).1 : Nat) ++ l.drop (rdL l).2.1 := by
  have hl : 0 < l.length := List.length_pos_iff.2 hne
  have q0 := (l.getD 0 0).toNat_lt
  have q1 := (l.getD 1 0).toNat_lt
  have q2 := (l.getD 2 0).toNat_lt
  have q3 := (l.getD 3 0).toNat_lt
  have e0 := lenS (l := l) 0 hl
  rw [List.drop_zero] at e0
  revert h
  unfold rdL rdN
  by_cases c0 : (l.getD 0 0).toNat < 128
  · rw [if_pos c0]
    intro _
    simp only [encodeRune]
    rw [encodeRuneZ_one (by omega) (by omega)]
    simp only [List.map_cons, List.map_nil]
    rw [tob (l.getD 0 0) _ rfl]
    exact e0
  rw [if_neg c0]
  by_cases c1 : (l.getD 0 0).toNat < 194
  · rw [if_pos c1]; intro h; exact absurd h (by simp)
  rw [if_neg c1]
  by_cases c2 : (l.getD 0 0).toNat < 224
  · rw [if_pos c2]
    by_cases d1 : l.length ≤ 1
    · rw [if_pos d1]; intro h; exact absurd h (by simp)
    rw [if_neg d1]
    have e1 := lenS (l := l) 1 (by omega)
    by_cases d2 : (l.getD 1 0).toNat < 128 ∨ 191 < (l.getD 1 0).toNat
    · rw [if_pos d2]; intro h; exact absurd h (by simp)
    rw [if_neg d2]
    intro _
    simp only [encodeRune]
    rw [encodeRuneZ_two (by omega) (by omega)]
    simp only [List.map_cons, List.map_nil]
    rw [tob (l.getD 0 0) _ (by omega), tob (l.getD 1 0) _ (by omega)]
    rw [e1] at e0
    exact e0
  rw [if_neg c2]
  by_cases c3 : (l.getD 0 0).toNat < 240
  · rw [if_pos c3]
    by_cases d1 : l.length ≤ 1
    · rw [if_pos d1]; intro h; exact absurd h (by simp)
    rw [if_neg d1]
    have e1 := lenS (l := l) 1 (by omega)
    by_cases d2 : (l.getD 1 0).toNat < 128 ∨ 191 < (l.getD 1 0).toNat ∨ ((l.getD 0 0).toNat = 224 ∧ (l.getD 1 0).toNat < 160) ∨ ((l.getD 0 0).toNat = 237 ∧ 159 < (l.getD 1 0).toNat)
    · rw [if_pos d2]; intro h; exact absurd h (by simp)
    rw [if_neg d2]
    by_cases d3 : l.length ≤ 2
    · rw [if_pos d3]; intro h; exact absurd h (by simp)
    rw [if_neg d3]
    have e2 := lenS (l := l) 2 (by omega)
    by_cases d4 : (l.getD 2 0).toNat < 128 ∨ 191 < (l.getD 2 0).toNat
    · rw [if_pos d4]; intro h; exact absurd h (by simp)
    rw [if_neg d4]
    intro _
    simp only [encodeRune]
    rw [encodeRuneZ_three (by omega)]
    simp only [List.map_cons, List.map_nil]
    rw [tob (l.getD 0 0) _ (by omega), tob (l.getD 1 0) _ (by omega), tob (l.getD 2 0) _ (by omega)]
    rw [e1, e2] at e0
    exact e0
  rw [if_neg c3]
  by_cases c4 : (l.getD 0 0).toNat < 245
  · rw [if_pos c4]
    by_cases d1 : l.length ≤ 1
    · rw [if_pos d1]; intro h; exact absurd h (by simp)
    rw [if_neg d1]
    have e1 := lenS (l := l) 1 (by omega)
    by_cases d2 : (l.getD 1 0).toNat < 128 ∨ 191 < (l.getD 1 0).toNat ∨ ((l.getD 0 0).toNat = 240 ∧ (l.getD 1 0).toNat < 144) ∨ ((l.getD 0 0).toNat = 244 ∧ 143 < (l.getD 1 0).toNat)
    · rw [if_pos d2]; intro h; exact absurd h (by simp)
    rw [if_neg d2]
    by_cases d3 : l.length ≤ 2
    · rw [if_pos d3]; intro h; exact absurd h (by simp)
    rw [if_neg d3]
    have e2 := lenS (l := l) 2 (by omega)
    by_cases d4 : (l.getD 2 0).toNat < 128 ∨ 191 < (l.getD 2 0).toNat
    · rw [if_pos d4]; intro h; exact absurd h (by simp)
    rw [if_neg d4]
    by_cases d5 : l.length ≤ 3
    · rw [if_pos d5]; intro h; exact absurd h (by simp)
    rw [if_neg d5]
    have e3 := lenS (l := l) 3 (by omega)
    by_cases d6 : (l.getD 3 0).toNat < 128 ∨ 191 < (l.getD 3 0).toNat
    · rw [if_pos d6]; intro h; exact absurd h (by simp)
    rw [if_neg d6]
    intro _
    simp only [encodeRune]
    rw [encodeRuneZ_four (by omega) (by omega)]
    simp only [List.map_cons, List.map_nil]
    rw [tob (l.getD 0 0) _ (by omega), tob (l.getD 1 0) _ (by omega), tob (l.getD 2 0) _ (by omega), tob (l.getD 3 0) _ (by omega)]
    rw [e1, e2, e3] at e0
    exact e0
  · rw [if_neg c4]; intro h; exact absurd h (by simp)
end Go.Proofs.YthmbbkbmlnaghaaDoor.P
end
section
/-
 Mended text in plain Lean: what stands for a text's bytes, and that a text and its mended form agree in all that ASCII asks of them.
-/
set_option linter.unusedVariables false
set_option linter.unusedSimpArgs false
namespace Go.Proofs.YthmbbkbmlnaghaaDoor.P
open Go.Lib

/-! ### the model's own conversion is the same -/
theorem encode_list (r : Int) : (Utf8.encode r).data.toList = encodeRune r := by
 unfold encodeRune
 by_cases hb : r < 0 ∨ (55296 ≤ r ∧ r ≤ 57343) ∨ 1114111 < r
 ·have v : Utf8.valid r = false := by simp [Utf8.valid]; omega
  rw [encodeRuneZ_bad hb]
  simp [Utf8.encode, v, Utf8.runeError]
 have v : Utf8.valid r = true := by simp [Utf8.valid]; omega
 obtain ⟨n, rfl⟩ : ∃ n : Nat, r = n := ⟨r.toNat, by omega⟩
 by_cases c1 : n < 128
 ·rw [encodeRuneZ_one (by omega) (by omega)]
  simp [Utf8.encode, v, c1]
 by_cases c2 : n < 2048
 ·rw [encodeRuneZ_two (by omega) (by omega)]
  simp only [Utf8.encode, v, List.map_cons, List.map_nil]
  have e1 : ((192 : Int) + (n : Int) / 64).toNat = 192 + n / 64 := by omega
  have e2 : ((128 : Int) + (n : Int) % 64).toNat = 128 + n % 64 := by omega
  simp [c1, c2, e1, e2]
 by_cases c3 : n < 65536
 ·rw [encodeRuneZ_three (by omega)]
  simp only [Utf8.encode, v, List.map_cons, List.map_nil]
  have e1 : ((224 : Int) + (n : Int) / 4096).toNat = 224 + n / 4096 := by omega
  have e2 : ((128 : Int) + (n : Int) / 64 % 64).toNat = 128 + n / 64 % 64 := by omega
  have e3 : ((128 : Int) + (n : Int) % 64).toNat = 128 + n % 64 := by omega
  simp [c1, c2, c3, e1, e2, e3]
 ·rw [encodeRuneZ_four (by omega) (by omega)]
  simp only [Utf8.encode, v, List.map_cons, List.map_nil]
  have e0 : ((240 : Int) + (n : Int) / 262144).toNat = 240 + n / 262144 := by omega
  have e1 : ((128 : Int) + (n : Int) / 4096 % 64).toNat = 128 + n / 4096 % 64 := by omega
  have e2 : ((128 : Int) + (n : Int) / 64 % 64).toNat = 128 + n / 64 % 64 := by omega
  have e3 : ((128 : Int) + (n : Int) % 64).toNat = 128 + n % 64 := by omega
  simp [c1, c2, c3, e0, e1, e2, e3]
theorem runesBytes_go (xs : List Int) : ∀ a : ByteArray, (xs.foldl (fun r n => r ++ Utf8.encode n) a).data.toList = a.data.toList ++ text xs := by
 induction xs with
 | nil => intro a; simp [text_nil]
 | cons x t ih =>
  intro a
  rw [List.foldl_cons, ih, ByteArray.data_append, Array.toList_append, encode_list, text_cons, List.append_assoc]
theorem runesBytes_list (xs : List Int) : (runesBytes xs).data.toList = text xs := by
 unfold runesBytes
 rw [runesBytes_go]
 rfl

/-! ### mended -/
def mendL (l : List UInt8) : List UInt8 := text (runes l)
theorem rdL_ascii (b : UInt8) (l : List UInt8) (h : b.toNat < 128) : rdL (b :: l) = (b.toNat, 1, 0) := by
 unfold rdL rdN
 simp only [List.getD_cons_zero]
 rw [if_pos h]
theorem encode_ascii (b : UInt8) (h : b.toNat < 128) : encodeRune ((b.toNat : Nat) : Int) = [b] := by
 simp only [encodeRune]
 rw [encodeRuneZ_one (by omega) (by omega)]
 simp only [List.map_cons, List.map_nil]
 rw [tob b _ rfl]
theorem mendL_ascii (b : UInt8) (l : List UInt8) (h : b.toNat < 128) : mendL (b :: l) = b :: mendL l := by
 unfold mendL
 rw [runes_step _ (by simp), rdL_ascii b l h, text_cons, encode_ascii b h]
 rfl
theorem encode_high (r : Nat) (h : 128 ≤ r) : ∃ c t, encodeRune ((r : Nat) : Int) = c :: t ∧ 128 ≤ c.toNat := by
 simp only [encodeRune]
 have hu : ∀ z : Int, 128 ≤ z → z < 256 → 128 ≤ (z.toNat.toUInt8).toNat := by
  intro z h1 h2
  have : (z.toNat.toUInt8).toNat = z.toNat % 256 := by simp
  omega
 by_cases c2 : r ≤ 2047
 ·rw [encodeRuneZ_two (by omega) (by omega)]
  exact ⟨_, _, rfl, hu _ (by omega) (by omega)⟩
 by_cases c3 : ((2048 : Int) ≤ r ∧ (r : Int) < 55296) ∨ (57343 < (r : Int) ∧ (r : Int) ≤ 65535)
 ·rw [encodeRuneZ_three c3]
  exact ⟨_, _, rfl, hu _ (by omega) (by omega)⟩
 by_cases c4 : 65536 ≤ (r : Int) ∧ (r : Int) ≤ 1114111
 ·rw [encodeRuneZ_four c4.1 c4.2]
  exact ⟨_, _, rfl, hu _ (by omega) (by omega)⟩
 ·rw [encodeRuneZ_bad (by omega)]
  exact ⟨_, _, rfl, by decide⟩
/-! ### two texts that agree in their ASCII beginning, and in whether something stands behind it -/
inductive Agr : List UInt8 → List UInt8 → Prop
 | nil : Agr [] []
 | asc (b : UInt8) (l m : List UInt8) : b.toNat < 128 → Agr l m → Agr (b :: l) (b :: m)
 | hi (b c : UInt8) (l m : List UInt8) : 128 ≤ b.toNat → 128 ≤ c.toNat → Agr (b :: l) (c :: m)
theorem Agr.nil_iff {l m : List UInt8} (h : Agr l m) : l = [] ↔ m = [] := by cases h <;> simp
/-- an ASCII byte at the head -/
theorem Agr.head_iff {l m : List UInt8} (h : Agr l m) (c : UInt8) (hc : c.toNat < 128) : l.getD 0 0 = c ↔ m.getD 0 0 = c := by
 cases h with
 | nil => exact Iff.rfl
 | asc b l m hb h => exact Iff.rfl
 | hi b d l m hb hd =>
  simp only [List.getD_cons_zero]
  constructor
  ·rintro rfl; omega
  ·rintro rfl; omega
def asciiL (l : List UInt8) : Prop := ∀ b ∈ l, b.toNat < 128
theorem asciiL_tail {b : UInt8} {l : List UInt8} (h : asciiL (b :: l)) : asciiL l := fun x hx => h x (List.mem_cons_of_mem _ hx)
/-- up to place n both are the same, and behind it they agree -/
def Upto (n : Nat) (l m : List UInt8) : Prop := l.take n = m.take n ∧ Agr (l.drop n) (m.drop n) ∧ n ≤ l.length
theorem Upto.zero {l m : List UInt8} (h : Agr l m) : Upto 0 l m := ⟨by simp, by simpa using h, Nat.zero_le _⟩
theorem Upto.len {n : Nat} {l m : List UInt8} (h : Upto n l m) : n ≤ m.length := by
 have := congrArg List.length h.1
 rw [List.length_take, List.length_take] at this
 have := h.2.2
 omega
theorem getD_drop0 (l : List UInt8) (n : Nat) : (l.drop n).getD 0 0 = l.getD n 0 := by
 simp [List.getD_eq_getElem?_getD, List.getElem?_drop]
theorem Upto.len_iff {n : Nat} {l m : List UInt8} (h : Upto n l m) : n = l.length ↔ n = m.length := by
 have h1 := h.2.1.nil_iff
 have h2 := h.len
 have h3 := h.2.2
 rw [List.drop_eq_nil_iff, List.drop_eq_nil_iff] at h1
 omega
theorem Upto.lt_iff {n : Nat} {l m : List UInt8} (h : Upto n l m) : n < l.length ↔ n < m.length := by
 have h1 := h.len_iff
 have h2 := h.len
 have h3 := h.2.2
 omega
theorem Upto.at_iff {n : Nat} {l m : List UInt8} (h : Upto n l m) (c : UInt8) (hc : c.toNat < 128) : l.getD n 0 = c ↔ m.getD n 0 = c := by
 have := h.2.1.head_iff c hc
 rwa [getD_drop0, getD_drop0] at this
theorem Upto.before {n : Nat} {l m : List UInt8} (h : Upto n l m) (i : Nat) (hi : i < n) : l.getD i 0 = m.getD i 0 := by
 have e := congrArg (fun x : List UInt8 => x[i]?) h.1
 simp only [List.getElem?_take, if_pos hi] at e
 rw [List.getD_eq_getElem?_getD, List.getD_eq_getElem?_getD, e]
theorem Upto.succ {n : Nat} {l m : List UInt8} (h : Upto n l m) (hlt : n < l.length) (hb : (l.getD n 0).toNat < 128) : Upto (n + 1) l m := by
 have hm := h.lt_iff.1 hlt
 have e := (h.at_iff _ hb).1 rfl
 have a := h.2.1
 rw [lenS n hlt, lenS n hm, e] at a
 refine ⟨?_, ?_, hlt⟩
 ·rw [List.take_succ_eq_append_getElem hlt, List.take_succ_eq_append_getElem hm, h.1]
  have e1 : l.getD n 0 = l[n] := by rw [List.getD_eq_getElem?_getD, List.getElem?_eq_getElem hlt]; rfl
  have e2 : m.getD n 0 = m[n] := by rw [List.getD_eq_getElem?_getD, List.getElem?_eq_getElem hm]; rfl
  rw [← e1, ← e2, e]
 ·cases a with
  | asc b l m hb h => exact h
  | hi b c l m hb' hc => omega
end Go.Proofs.YthmbbkbmlnaghaaDoor.P
end
section
/-
 charref.next over lists of bytes, and that it is the same of a text and of the mended text.
-/
namespace Go.Proofs.YthmbbkbmlnaghaaDoor.P
open Go.RowKit Go.Proofs.YthmbbkbmlnaghaaDoorW.PrintWords Go.Proofs.YthmbbkbmlnaghaaDoorW.PrintLast Go.Proofs.YthmbbkbmlnaghaaDoorW.PrintMore
set_option linter.unusedVariables false
set_option linter.unusedSimpArgs false

/-! ### numbers -/
def hexL (l : List UInt8) : Bool := decide (l.getD 1 0 = 120) || decide (l.getD 1 0 = 88)
def fromL (l : List UInt8) : Nat := if hexL l = true then 2 else 1
def atL (l : List UInt8) : Nat := fromL l + nDig (hexL l) (l.drop (fromL l))
def numericL (l : List UInt8) (e : Bool) : ByteArray × Int × Bool :=
 if l.length = 1 then (emp, 0, e)
 else if atL l = l.length ∧ e = false then (emp, 0, false)
 else if atL l = fromL l then (emp, 0, true)
 else (Utf8.encode (numL (hexL l) ((l.take (atL l)).drop (fromL l))).1, ((if atL l < l.length ∧ l.getD (atL l) 0 = 59 then atL l + 1 else atL l : Nat) : Int), true)
theorem hexL_eq (s : ByteArray) : numHex s = hexL s.data.toList := by
 unfold numHex hexL
 have hl : s.data.toList.length = s.size := by simp
 by_cases h : 1 < s.size
 ·have hb : bt s 1 = ((s.data.toList.getD 1 0).toNat : Int) := bt_l s 1 h
  rw [hb]
  have q1 : ((s.data.toList.getD 1 0).toNat : Int) = 120 ↔ s.data.toList.getD 1 0 = 120 := u8_eq _ 120 (by decide)
  have q2 : ((s.data.toList.getD 1 0).toNat : Int) = 88 ↔ s.data.toList.getD 1 0 = 88 := u8_eq _ 88 (by decide)
  rw [Bool.eq_iff_iff, Bool.or_eq_true, Bool.or_eq_true, beq_iff_eq, beq_iff_eq, decide_eq_true_iff, decide_eq_true_iff, q1, q2]
 ·have e0 : bt s 1 = 0 := by
   unfold bt
   rw [dif_neg (by simpa using h)]
  have e1 : s.data.toList.getD 1 0 = 0 := by
   rw [List.getD_eq_getElem?_getD, List.getElem?_eq_none (by omega)]
   rfl
  rw [e0, e1]
  rfl
theorem fromL_eq (s : ByteArray) : numFrom s = fromL s.data.toList := by
 unfold numFrom fromL
 rw [hexL_eq]
theorem atL_eq (s : ByteArray) : numAt s = atL s.data.toList := by
 unfold numAt atL
 rw [hexL_eq, fromL_eq]
theorem numericP_eq (s : ByteArray) (e : Bool) : numericP s e = numericL s.data.toList e := by
 unfold numericP numericL
 have hl : s.data.toList.length = s.size := by simp
 rw [hexL_eq, fromL_eq, atL_eq, hl]
 have hx : (s.extract (fromL s.data.toList) (atL s.data.toList)).data.toList = (s.data.toList.take (atL s.data.toList)).drop (fromL s.data.toList) := by
  rw [← ByteArray.toList_eq, Lib.extract_toList, List.drop_take]
 rw [hx]
 have hs : (atL s.data.toList < s.size ∧ bt s (atL s.data.toList : Nat) = 59) ↔ (atL s.data.toList < s.size ∧ s.data.toList.getD (atL s.data.toList) 0 = 59) := by
  constructor
  ·rintro ⟨h, hb⟩
   rw [bt_l s _ h] at hb
   exact ⟨h, (u8_eq _ 59 (by decide)).1 hb⟩
  ·rintro ⟨h, hb⟩
   refine ⟨h, ?_⟩
   rw [bt_l s _ h]
   exact (u8_eq _ 59 (by decide)).2 hb
 by_cases c : atL s.data.toList < s.size ∧ s.data.toList.getD (atL s.data.toList) 0 = 59
 ·rw [if_pos c, if_pos (hs.2 c)]
 ·rw [if_neg c, if_neg (fun d => c (hs.1 d))]
def nextL (l : List UInt8) (attr e : Bool) : ByteArray × Int × Bool :=
 if l ≠ [] ∧ l.getD 0 0 = 35 then numericL l e else namedL l attr e
theorem nextP_eq (s : ByteArray) (attr e : Bool) : nextP s attr e = nextL s.data.toList attr e := by
 unfold nextP nextL
 rw [numericP_eq]

end Go.Proofs.YthmbbkbmlnaghaaDoor.P
end
section
/-
 What a & is, by what stands behind it: plain facts.
-/
namespace Go.Proofs.YthmbbkbmlnaghaaDoor.P
open Go.RowKit Go.Proofs.YthmbbkbmlnaghaaDoorW.PrintWords Go.Proofs.YthmbbkbmlnaghaaDoorW.PrintLast Go.Proofs.YthmbbkbmlnaghaaDoorW.PrintMore
set_option linter.unusedVariables false
set_option linter.unusedSimpArgs false

theorem atL_le (l : List UInt8) (h : fromL l ≤ l.length) : atL l ≤ l.length := by
 unfold atL
 have := nDig_le (hexL l) (l.drop (fromL l))
 rw [List.length_drop] at this
 omega
theorem hexL_len (l : List UInt8) (h : hexL l = true) : 1 < l.length := by
 refine Nat.lt_of_not_le fun hle => ?_
 have : l.getD 1 0 = 0 := by
  rw [List.getD_eq_getElem?_getD, List.getElem?_eq_none hle]
  rfl
 unfold hexL at h
 rw [this] at h
 exact absurd h (by decide)
theorem fromL_le (l : List UInt8) (h : 1 ≤ l.length) : fromL l ≤ l.length := by
 unfold fromL
 by_cases c : hexL l = true
 ·rw [if_pos c]
  have := hexL_len l c
  omega
 ·rw [if_neg c]
  exact h
theorem extract_list (s : ByteArray) (a b : Nat) : (s.extract a b).data.toList = (s.data.toList.drop a).take (b - a) := by
 rw [← ByteArray.toList_eq, Lib.extract_toList]
end Go.Proofs.YthmbbkbmlnaghaaDoor.P
end
section
/-
 What is sure stays, whatever follows: charref.next in plain Lean.
-/
namespace Go.Proofs.YthmbbkbmlnaghaaDoor.P
open Go.RowKit Go.Proofs.YthmbbkbmlnaghaaDoorW.PrintWords Go.Proofs.YthmbbkbmlnaghaaDoorW.PrintLast Go.Proofs.YthmbbkbmlnaghaaDoorW.PrintMore
set_option linter.unusedVariables false
set_option linter.unusedSimpArgs false

/-! ### sizes -/
theorem nextL_size (l : List UInt8) (attr e : Bool) : 0 ≤ (nextL l attr e).2.1 ∧ (nextL l attr e).2.1 ≤ (l.length : Int) := by
 have hn : 0 ≤ (namedL l attr e).2.1 ∧ (namedL l attr e).2.1 ≤ (l.length : Int) := by
  have hle := longL_le l
  unfold namedL
  generalize longL l = q at hle
  obtain ⟨n, o⟩ := q
  simp only at hle ⊢
  split
  ·exact ⟨Int.le_refl _, by simp only; omega⟩
  ·split
   ·exact ⟨Int.le_refl _, by simp only; omega⟩
   ·split
    ·split
     ·split
      ·exact ⟨by simp only; omega, by simp only; omega⟩
      ·exact ⟨Int.le_refl _, by simp only; omega⟩
     ·split
      ·exact ⟨Int.le_refl _, by simp only; omega⟩
      ·split
       ·exact ⟨Int.le_refl _, by simp only; omega⟩
       ·exact ⟨by simp only; omega, by simp only; omega⟩
    ·exact ⟨by simp only; omega, by simp only; omega⟩
 unfold nextL
 by_cases c : l ≠ [] ∧ l.getD 0 0 = 35
 ·rw [if_pos c]
  have hl0 : 0 < l.length := List.length_pos_iff.2 c.1
  have ha := atL_le l (fromL_le l (by omega))
  unfold numericL
  split
  ·exact ⟨Int.le_refl _, by simp only; omega⟩
  ·split
   ·exact ⟨Int.le_refl _, by simp only; omega⟩
   ·split
    ·exact ⟨Int.le_refl _, by simp only; omega⟩
    ·by_cases d : atL l < l.length ∧ l.getD (atL l) 0 = 59
     ·rw [if_pos d]
      exact ⟨by simp only; omega, by simp only; omega⟩
     ·rw [if_neg d]
      exact ⟨by simp only; omega, by simp only; omega⟩
 ·rw [if_neg c]
  exact hn
end Go.Proofs.YthmbbkbmlnaghaaDoor.P
end
section
/-
 Valid texts in plain Lean: runes of a text of good runes; what may be cut off a valid text.
-/
set_option linter.unusedVariables false
set_option linter.unusedSimpArgs false
namespace Go.Proofs.YthmbbkbmlnaghaaDoor.P
open Go.Lib

theorem u8n (z : Nat) (h : z < 256) : (((z : Int)).toNat.toUInt8).toNat = z := by
 rw [Int.toNat_natCast]
 have : (z.toUInt8).toNat = z % 256 := by simp
 omega
theorem rdL_encode (r : Nat) (hg : r < 55296 ∨ (57344 ≤ r ∧ r ≤ 1114111)) (t : List UInt8) : rdL (encodeRune ((r : Nat) : Int) ++ t) = (r, (encodeRune ((r : Nat) : Int)).length, 0) := by
 by_cases c1 : r < 128
 ·have e : encodeRune ((r : Nat) : Int) = [(((r : Nat) : Int)).toNat.toUInt8] := by
   simp only [encodeRune]
   rw [encodeRuneZ_one (by omega) (by omega)]
   rfl
  rw [e, List.singleton_append, rdL_ascii _ _ (by rw [u8n r (by omega)]; omega), u8n r (by omega)]
  rfl
 by_cases c2 : r < 2048
 ·have e : encodeRune ((r : Nat) : Int) = [(((192 + r / 64 : Nat) : Int)).toNat.toUInt8, (((128 + r % 64 : Nat) : Int)).toNat.toUInt8] := by
   simp only [encodeRune]
   rw [encodeRuneZ_two (by omega) (by omega)]
   simp only [List.map_cons, List.map_nil]
   rw [show (192 : Int) + (r : Int) / 64 = ((192 + r / 64 : Nat) : Int) by omega, show (128 : Int) + (r : Int) % 64 = ((128 + r % 64 : Nat) : Int) by omega]
  rw [e]
  unfold rdL
  simp only [List.cons_append, List.nil_append, List.getD_cons_zero, List.getD_cons_succ, List.length_cons, List.length_nil]
  rw [u8n _ (by omega), u8n _ (by omega)]
  unfold rdN
  rw [if_neg (by omega), if_neg (by omega), if_pos (by omega), if_neg (by omega), if_neg (by omega)]
  congr 1
  omega
 by_cases c3 : r < 65536
 ·have e : encodeRune ((r : Nat) : Int) = [(((224 + r / 4096 : Nat) : Int)).toNat.toUInt8, (((128 + r / 64 % 64 : Nat) : Int)).toNat.toUInt8, (((128 + r % 64 : Nat) : Int)).toNat.toUInt8] := by
   simp only [encodeRune]
   rw [encodeRuneZ_three (by omega)]
   simp only [List.map_cons, List.map_nil]
   rw [show (224 : Int) + (r : Int) / 4096 = ((224 + r / 4096 : Nat) : Int) by omega, show (128 : Int) + (r : Int) / 64 % 64 = ((128 + r / 64 % 64 : Nat) : Int) by omega, show (128 : Int) + (r : Int) % 64 = ((128 + r % 64 : Nat) : Int) by omega]
  rw [e]
  unfold rdL
  simp only [List.cons_append, List.nil_append, List.getD_cons_zero, List.getD_cons_succ, List.length_cons, List.length_nil]
  rw [u8n _ (by omega), u8n _ (by omega), u8n _ (by omega)]
  unfold rdN
  rw [if_neg (by omega), if_neg (by omega), if_neg (by omega), if_pos (by omega), if_neg (by omega), if_neg (by omega), if_neg (by omega), if_neg (by omega)]
  congr 1
  omega
 ·have e : encodeRune ((r : Nat) : Int) = [(((240 + r / 262144 : Nat) : Int)).toNat.toUInt8, (((128 + r / 4096 % 64 : Nat) : Int)).toNat.toUInt8, (((128 + r / 64 % 64 : Nat) : Int)).toNat.toUInt8, (((128 + r % 64 : Nat) : Int)).toNat.toUInt8] := by
   simp only [encodeRune]
   rw [encodeRuneZ_four (by omega) (by omega)]
   simp only [List.map_cons, List.map_nil]
   rw [show (240 : Int) + (r : Int) / 262144 = ((240 + r / 262144 : Nat) : Int) by omega, show (128 : Int) + (r : Int) / 4096 % 64 = ((128 + r / 4096 % 64 : Nat) : Int) by omega, show (128 : Int) + (r : Int) / 64 % 64 = ((128 + r / 64 % 64 : Nat) : Int) by omega, show (128 : Int) + (r : Int) % 64 = ((128 + r % 64 : Nat) : Int) by omega]
  rw [e]
  unfold rdL
  simp only [List.cons_append, List.nil_append, List.getD_cons_zero, List.getD_cons_succ, List.length_cons, List.length_nil]
  rw [u8n _ (by omega), u8n _ (by omega), u8n _ (by omega), u8n _ (by omega)]
  unfold rdN
  rw [if_neg (by omega), if_neg (by omega), if_neg (by omega), if_neg (by omega), if_pos (by omega), if_neg (by omega), if_neg (by omega), if_neg (by omega), if_neg (by omega), if_neg (by omega), if_neg (by omega)]
  congr 1
  omega
theorem encode_ne (r : Int) : encodeRune r ≠ [] := by
 intro h
 have := (encodeRuneZ_length r).1
 have h2 := congrArg List.length h
 unfold encodeRune at h2
 rw [List.length_map, List.length_nil] at h2
 omega
def goodsR (rs : List Int) : Prop := ∀ r ∈ rs, goodR r
theorem runes_good : ∀ (n : Nat) (l : List UInt8), l.length ≤ n → goodsR (runes l)
 | 0, l, h => by
  obtain rfl : l = [] := List.eq_nil_of_length_eq_zero (by omega)
  intro r hr
  rw [runes_nil] at hr
  cases hr
 | n + 1, l, h => by
  by_cases hne : l = []
  ·subst hne
   intro r hr
   rw [runes_nil] at hr
   cases hr
  ·have hf := rdL_facts l hne
   have hl : 0 < l.length := List.length_pos_iff.2 hne
   rw [runes_step l hne]
   intro r hr
   rcases List.mem_cons.1 hr with rfl | hr
   ·have := hf.2.2.2.2.1
    unfold goodR
    omega
   ·exact runes_good n (l.drop (rdL l).2.1) (by rw [List.length_drop]; have := hf.1; omega) r hr
theorem valid_encode (r : Int) (hg : goodR r) (t : List UInt8) : valid (encodeRune r ++ t) = valid t := by
 obtain ⟨n, rfl⟩ : ∃ n : Nat, r = n := ⟨r.toNat, by unfold goodR at hg; omega⟩
 have h := rdL_encode n (by unfold goodR at hg; omega) t
 rw [valid_step _ (by simp [encode_ne]), h]
 simp only
 rw [if_pos trivial, List.drop_append_of_le_length (Nat.le_refl _), List.drop_length, List.nil_append]
theorem text_runes : ∀ (n : Nat) (l : List UInt8), l.length ≤ n → valid l = true → text (runes l) = l
 | 0, l, h, _ => by
  obtain rfl : l = [] := List.eq_nil_of_length_eq_zero (by omega)
  rfl
 | n + 1, l, h, hv => by
  by_cases hne : l = []
  ·subst hne
   rfl
  ·have hf := rdL_facts l hne
   have hl : 0 < l.length := List.length_pos_iff.2 hne
   rw [valid_step l hne] at hv
   by_cases h0 : (rdL l).2.2 = 0
   ·rw [if_pos h0] at hv
    rw [runes_step l hne, text_cons, text_runes n (l.drop (rdL l).2.1) (by rw [List.length_drop]; have := hf.1; omega) hv]
    exact (rdL_whole l h0 hne).symm
   ·rw [if_neg h0] at hv
    cases hv
theorem mendL_of_valid (l : List UInt8) (h : valid l = true) : mendL l = l := text_runes _ l (Nat.le_refl _) h
theorem valid_append : ∀ (n : Nat) (a b : List UInt8), a.length ≤ n → valid a = true → valid b = true → valid (a ++ b) = true := by
 intro n a b _ ha hb
 rw [← mendL_of_valid a ha]
 unfold mendL
 have : ∀ rs : List Int, goodsR rs → valid (text rs ++ b) = true := by
  intro rs
  induction rs with
  | nil => intro _; exact hb
  | cons r t ih =>
   intro hg
   rw [text_cons, List.append_assoc, valid_encode r (hg r List.mem_cons_self)]
   exact ih (fun x hx => hg x (List.mem_cons_of_mem _ hx))
 exact this _ (runes_good _ a (Nat.le_refl _))
/-- a byte below 128 begins a character: behind any such place a valid text is valid -/
theorem encode_tail_high (r : Int) (i : Nat) (h0 : 0 < i) (hi : i < (encodeRune r).length) : 128 ≤ ((encodeRune r).getD i 0).toNat := by
 have hu : ∀ z : Int, 128 ≤ z → z < 256 → 128 ≤ (z.toNat.toUInt8).toNat := by
  intro z h1 h2
  have : (z.toNat.toUInt8).toNat = z.toNat % 256 := by simp
  omega
 have key : ∀ z : List Int, (∀ j, 0 < j → j < z.length → 128 ≤ z.getD j 0 ∧ z.getD j 0 < 256) → ∀ i, 0 < i → i < (z.map fun x : Int => x.toNat.toUInt8).length → 128 ≤ ((z.map fun x : Int => x.toNat.toUInt8).getD i 0).toNat := by
  intro z hz i h0 hi
  rw [List.length_map] at hi
  have := hz i h0 hi
  rw [List.getD_eq_getElem?_getD, List.getElem?_eq_getElem hi] at this
  rw [List.getD_eq_getElem?_getD, List.getElem?_map, List.getElem?_eq_getElem hi]
  exact hu _ this.1 this.2
 unfold encodeRune at hi ⊢
 refine key _ ?_ i h0 hi
 intro j j0 j1
 by_cases c1 : 0 ≤ r ∧ r ≤ 127
 ·rw [encodeRuneZ_one c1.1 c1.2] at j1
  simp at j1
  omega
 by_cases c2 : 128 ≤ r ∧ r ≤ 2047
 ·rw [encodeRuneZ_two c2.1 c2.2] at j1 ⊢
  simp at j1
  obtain rfl : j = 1 := by omega
  simp
  omega
 by_cases c3 : (2048 ≤ r ∧ r < 55296) ∨ (57343 < r ∧ r ≤ 65535)
 ·rw [encodeRuneZ_three c3] at j1 ⊢
  simp at j1
  rcases (show j = 1 ∨ j = 2 by omega) with rfl | rfl <;> simp <;> omega
 by_cases c4 : 65536 ≤ r ∧ r ≤ 1114111
 ·rw [encodeRuneZ_four c4.1 c4.2] at j1 ⊢
  simp at j1
  rcases (show j = 1 ∨ j = 2 ∨ j = 3 by omega) with rfl | rfl | rfl <;> simp <;> omega
 ·rw [encodeRuneZ_bad (by omega)] at j1 ⊢
  simp at j1
  rcases (show j = 1 ∨ j = 2 by omega) with rfl | rfl <;> simp
end Go.Proofs.YthmbbkbmlnaghaaDoor.P
end
section
/-
  charref.each: the references of a text, one by one, each handed to a function value.
-/
namespace Go.Proofs.YthmbbkbmlnaghaaDoor.P
open Go.RowKit Go.Proofs.YthmbbkbmlnaghaaDoorW.PrintWords Go.Proofs.YthmbbkbmlnaghaaDoorW.PrintLast Go.Proofs.YthmbbkbmlnaghaaDoorW.PrintMore
set_option linter.unusedVariables false
set_option linter.unusedSimpArgs false

/-- the references from place i on: where the & stands, what is said, how many bytes stand behind the & -/
def refsGo (attr : Bool) (s : ByteArray) : Nat → Nat → Option (List (Nat × ByteArray × Nat))
  | 0, _ => none
  | k + 1, i =>
    if i < s.size then
      (if bt s i = 38 then
        (charref_next.f k (s.extract (i + 1) s.size) attr true).bind fun n =>
          if 0 ≤ n.2.1 ∧ i + 1 + n.2.1.toNat ≤ s.size then
            (if n.2.1 = 0 then refsGo attr s k (i + 1)
             else (refsGo attr s k (i + 1 + n.2.1.toNat)).bind fun t => some ((i, n.1, n.2.1.toNat) :: t))
          else none
       else refsGo attr s k (i + 1))
    else some []

set_option maxRecDepth 100000 in
set_option maxHeartbeats 8000000 in
theorem charref_each_calls (k : Nat) (s : ByteArray) (attr : Bool) (fv : Array Value) (refs : List (Nat × ByteArray × Nat)) (I : List (Nat × ByteArray × Nat) → World → Prop) (w : World)
    (hs : s.size ≤ 35184372088831) (h : refsGo attr s k 0 = some refs)
    (hI : ∀ pre W W', I pre W → Below W.heap.size W W' → I pre W')
    (hdo : ∀ (pre : List (Nat × ByteArray × Nat)) (x : Nat × ByteArray × Nat) (W : World) (b : Bool), I pre W → (∃ post, pre ++ [x] ++ post = refs) → Calls Tryd.prog 43 (#[.int .i64 (x.1 : Nat), .agg #[.string x.2.1, .int .i64 (x.2.2 : Nat), .bool b]] ++ fv) W fun e W' =>
      e = .returned (.bool true) ∧ I (pre ++ [x]) W' ∧ ∀ (j : Nat) (cs : Array Value), W.heap[j]? = some (Obj.cells cs 38 (0, 0)) → W'.heap[j]? = some (Obj.cells cs 38 (0, 0)))
    (h0 : I [] w) :
    Calls Tryd.prog 42 #[.string s, .bool attr, .func (.func 43) #[] fv] w fun e w' => e = .returned (.tuple #[]) ∧ I refs w' := by
  have HDO := Aside0.mk hdo
  have HI := Aside0.mk hI
  have HR := Aside0.mk h
  clear hdo
  clear hI
  clear h
  have hu60 := Tryd.underlying38
  go_enter Tryd.func42, Tryd.ntmps42
  go_wp2
  go_loopw [6] (fun v wr => ∃ (i kk : Nat) (pre rest : List (Nat × ByteArray × Nat)), v = .int .i64 (i : Nat) ∧ i ≤ s.size ∧ Aside0 (refsGo attr s kk i = some rest) ∧ Aside0 (pre ++ rest = refs) ∧ Aside0 (I pre wr)) (fun v _ => s.size - (intOf v).toNat)
  case atStart => exact ⟨0, k, [], refs, rfl, Nat.zero_le _, HR, ⟨rfl⟩, ⟨h0⟩⟩
  case round =>
    obtain ⟨i, kk, pre, rest, rfl, hi, hrest, hpre, hinv⟩ := hrel
    by_cases hlt : i < s.size
    · have hl1 : ((i : Int) < (s.size : Int)) = True := eq_true (by omega)
      have hl2 : ((0 : Int) ≤ (i : Int)) = True := eq_true (by omega)
      have hx0 : ∀ h : i < s.size, ((s[i]'h).toNat : Int) = bt s (i : Int) := bt_at s (i : Int)
      have hw1 : IntKind.i64.wrap ((i : Int) + 1) = (i : Int) + 1 := IntWalk.i64_in _ (by omega)
      cases kk with
      | zero => exact absurd hrest.out (by simp [refsGo])
      | succ kk =>
        have hr := hrest.out
        clear hrest
        unfold refsGo at hr
        rw [if_pos hlt] at hr
        by_cases c : bt s (i : Int) = 38
        · rw [if_pos c] at hr
          obtain ⟨⟨n1, n2, n3⟩, hn, hr⟩ := Option.bind_eq_some_iff.1 hr
          have HN := Aside0.mk hn
          clear hn
          by_cases hb : 0 ≤ n2 ∧ i + 1 + n2.toNat ≤ s.size
          · rw [if_pos hb] at hr
            obtain ⟨m, rfl⟩ : ∃ m : Nat, n2 = m := ⟨n2.toNat, by omega⟩
            obtain ⟨_, hm⟩ := hb
            simp only [Int.toNat_natCast] at hm hr
            have HRR := Aside0.mk hr
            clear hr
            have kc : (bt s (i : Int) != 38) = false := bne_eq_false_iff_eq.2 c
            have s1 : ((0 : Int) ≤ (i : Int) + 1) = True := eq_true (by omega)
            have s2 : ((i : Int) + 1 ≤ (s.size : Int)) = True := eq_true (by omega)
            have s3 : ((i : Int) + 1).toNat = i + 1 := by omega
            have hw2 : IntKind.i64.wrap (1 + (m : Int)) = 1 + (m : Int) := IntWalk.i64_in _ (by omega)
            have hw3 : IntKind.i64.wrap ((i : Int) + (1 + (m : Int))) = ((i + 1 + m : Nat) : Int) := by rw [IntWalk.i64_in _ (by omega)]; omega
            by_cases hm0 : m = 0
            · have HM0 := Aside0.mk hm0
              have hrr := HRR.out
              rw [if_pos (by omega)] at hrr
              have HREST := Aside0.mk hrr
              clear hrr
              have g1 : decide ((m : Int) > 0) = false := decide_eq_false (by omega)
              have g2 : decide ((0 : Int) < (m : Int)) = false := decide_eq_false (by omega)
              have g3 : (0 < m) = False := eq_false (by omega)
              have g4 : ((0 : Int) < (m : Int)) = False := eq_false (by omega)
              have hw4 : ((i + 1 + m : Nat) : Int) = ((i + 1 : Nat) : Int) := by omega
              have HW4 := Aside0.mk hw4
              clear hw4 hm0
              go_wp2_with (first | (go_at_call 22; refine (charref_next.calls kk (s.extract (i + 1) s.size) attr true n1 (m : Int) n3 _ HN.out).mono ?_; rintro e w1 ⟨rfl, hb1⟩; have HB1 := Aside0.mk hb1; clear hb1) | ((with_reducible refine gate_dst (N := 7) rfl ?_); refine box_event ?hg (N := 7) ?hd (cs := #[.string (⟨#[]⟩ : ByteArray), .int .i64 0, .bool false]) (t := 38) ?hr ?_; (case hd => rfl); (case hg => rfl); (case hr => first | (go_simp; done) | (go_simp; rfl)); intro gb hg w5 hbox hb; have HB5 := Aside0.mk (below_step HB1.out hb); have BK5 := Aside0.mk hbox; have GE5 := Aside0.mk ((by rw [hg]; exact (below_size HB1.out)) : wr.heap.size ≤ gb); clear hb hbox hg; have hcz0 : w5.cell? ⟨gb, 0, none⟩ = some (.string (⟨#[]⟩ : ByteArray)) := (blk_cell BK5.out 0).trans rfl; have hcz1 : w5.cell? ⟨gb, 1, none⟩ = some (.int .i64 0) := (blk_cell BK5.out 1).trans rfl; have hcz2 : w5.cell? ⟨gb, 2, none⟩ = some (.bool false) := (blk_cell BK5.out 2).trans rfl; have hfz0 := blk_frozen BK5.out 0; have hfz1 := blk_frozen BK5.out 1; have hfz2 := blk_frozen BK5.out 2))
              go_roundw
              case rel => exact ⟨i + 1, kk, pre, rest, by rw [← HW4.out]; rfl, by omega, HREST, hpre, ⟨HI.out pre wr _ hinv.out (below_set (below_set (below_set HB5.out GE5.out) GE5.out) GE5.out)⟩⟩
              case measure => simp [intOf]; omega
            · have hrr := HRR.out
              rw [if_neg (by omega)] at hrr
              obtain ⟨t2, ht2, heq⟩ := Option.bind_eq_some_iff.1 hrr
              have heq := Option.some.inj heq
              have HREST := Aside0.mk ht2
              clear hrr ht2
              have hpre2 : pre ++ [(i, n1, m)] ++ t2 = refs := by rw [← hpre.out, ← heq, List.append_assoc]; rfl
              have HPRE2 := Aside0.mk hpre2
              clear hpre2 heq
              have g1 : decide ((m : Int) > 0) = true := decide_eq_true (by omega)
              have g2 : decide ((0 : Int) < (m : Int)) = true := decide_eq_true (by omega)
              go_wp2_with (first | (go_at_call 22; refine (charref_next.calls kk (s.extract (i + 1) s.size) attr true n1 (m : Int) n3 _ HN.out).mono ?_; rintro e w1 ⟨rfl, hb1⟩; have HB1 := Aside0.mk hb1; clear hb1) | ((with_reducible refine gate_dst (N := 7) rfl ?_); refine box_event ?hg (N := 7) ?hd (cs := #[.string (⟨#[]⟩ : ByteArray), .int .i64 0, .bool false]) (t := 38) ?hr ?_; (case hd => rfl); (case hg => rfl); (case hr => first | (go_simp; done) | (go_simp; rfl)); intro gb hg w5 hbox hb; have HB5 := Aside0.mk (below_step HB1.out hb); have BK5 := Aside0.mk hbox; have GE5 := Aside0.mk ((by rw [hg]; exact (below_size HB1.out)) : wr.heap.size ≤ gb); clear hb hbox hg; have hcz0 : w5.cell? ⟨gb, 0, none⟩ = some (.string (⟨#[]⟩ : ByteArray)) := (blk_cell BK5.out 0).trans rfl; have hcz1 : w5.cell? ⟨gb, 1, none⟩ = some (.int .i64 0) := (blk_cell BK5.out 1).trans rfl; have hcz2 : w5.cell? ⟨gb, 2, none⟩ = some (.bool false) := (blk_cell BK5.out 2).trans rfl; have hfz0 := blk_frozen BK5.out 0; have hfz1 := blk_frozen BK5.out 1; have hfz2 := blk_frozen BK5.out 2) | (go_at_call 43; refine (HDO.out pre (i, n1, m) _ n3 (HI.out pre wr _ hinv.out (below_set (below_set (below_set HB5.out GE5.out) GE5.out) GE5.out)) ⟨t2, HPRE2.out⟩).mono ?_; rintro e w7 ⟨rfl, hinv7, hk7⟩; have HINV7 := Aside0.mk hinv7; have BK7 := Aside0.mk (hk7 gb #[.string n1, .int .i64 (m : Nat), .bool n3] (blk_put (cs := #[.string n1, .int .i64 (m : Nat), .bool false]) (blk_put (cs := #[.string n1, .int .i64 0, .bool false]) (blk_put (cs := #[.string (⟨#[]⟩ : ByteArray), .int .i64 0, .bool false]) BK5.out 0 _ rfl) 1 _ rfl) 2 _ rfl)); clear hinv7 hk7; have hcy1 : w7.cell? ⟨gb, 1, none⟩ = some (.int .i64 (m : Nat)) := (blk_cell BK7.out 1).trans rfl))
              go_roundw
              case rel => exact ⟨i + 1 + m, kk, pre ++ [(i, n1, m)], t2, rfl, hm, HREST, HPRE2, HINV7⟩
              case measure => simp [intOf]; omega
          · rw [if_neg hb] at hr
            cases hr
        · rw [if_neg c] at hr
          have HREST := Aside0.mk hr
          clear hr
          have kc : (bt s (i : Int) != 38) = true := bne_iff_ne.2 c
          clear c
          go_wp2
          go_roundw
          case rel => exact ⟨i + 1, kk, pre, rest, rfl, by omega, HREST, hpre, hinv⟩
          case measure => simp [intOf]; omega
    · have hl1 : ((i : Int) < (s.size : Int)) = False := eq_false (by omega)
      have hrr : rest = [] := by
        have := hrest.out
        cases kk with
        | zero => simp [refsGo] at this
        | succ kk =>
          unfold refsGo at this
          rw [if_neg hlt] at this
          exact (Option.some.inj this).symm
      subst hrr
      have hp := hpre.out
      rw [List.append_nil] at hp
      subst hp
      go_wp2
      go_end0
      exact ⟨rfl, hinv.out⟩
end Go.Proofs.YthmbbkbmlnaghaaDoor.P
end
section
/-
 DERIVED: THE SHELF's CONTRACTS AT THIS DUMP, IN PLAIN WORDS (tools/lay-plain.mjs out of 'TrydShelf.lean', which tools/lay-shelf.mjs wrote): THE SAME DECLARATIONS UNDER THE SAME NAMES: 'import', 'namespace', 'open', 'def', 'theorem' AND NOTHING ELSE: no command of the shelf's: FOR A HAND-IN. Each laying: the table of numbers ('.._ren') and one theorem, a field a fact of the dump's own or the kernel's comparison; each contract: ONE APPLICATION.
-/
namespace Go.Proofs
open Go.Shelf
def Tryd.lays169_ren : Go.Shelf.Ren := ⟨fun | 169 => 35 | n => n, fun | 70 => 47 | 9 => 9 | 0 => 0 | 72 => 49 | 37 => 46 | 127 => 81 | 3 => 3 | 5 => 5 | n => n, fun | n => n⟩
theorem Tryd.lays169 : Go.Proofs.Lays.n169 Tryd.prog Tryd.lays169_ren := {
 mixed := by kernel_rfl
 f169 := Tryd.func35.trans (congrArg some (by kernel_rfl))
 t0 := Tryd.underlying0
 a0 := Tryd.isAgg0
 z0 := Tryd.sizeOf0
 v0 := Tryd.zeroValue0
 t3 := Tryd.underlying3
 a3 := Tryd.isAgg3
 z3 := Tryd.sizeOf3
 v3 := Tryd.zeroValue3
 t9 := Tryd.underlying9
 a9 := Tryd.isAgg9
 z9 := Tryd.sizeOf9
 v9 := Tryd.zeroValue9
 t37 := Tryd.underlying46
 a37 := Tryd.isAgg46
 z37 := Tryd.sizeOf46
 v37 := Tryd.zeroValue46
 t70 := Tryd.underlying47
 a70 := Tryd.isAgg47
 z70 := Tryd.sizeOf47
 v70 := Tryd.zeroValue47
 t72 := Tryd.underlying49
 a72 := Tryd.isAgg49
 z72 := Tryd.sizeOf49
 v72 := Tryd.zeroValue49
 t127 := Tryd.underlying81
 a127 := Tryd.isAgg81
 z127 := Tryd.sizeOf81
 v127 := Tryd.zeroValue81 }
theorem Tryd.Builder_Extra_169 : Builder.Extra Tryd.prog Tryd.lays169_ren := {
 sizeBuilder := by kernel_rfl
 liesBuilder := by kernel_rfl
 t5 := Tryd.underlying5
 a5 := Tryd.isAgg5
 z5 := Tryd.sizeOf5
 v5 := Tryd.zeroValue5
 infoByte := by kernel_rfl
 cellsByte := by kernel_rfl
 sizeByte := by kernel_rfl
 neB5 := by decide }
open Go.RowKit in
/-- (*strings.Builder).String: "String returns the accumulated string.": WHATEVER THE BUILDER HOLDS; THE FORM '_k': OVER 'Lib.IsBuilderF' (a builder that 'String()' may have read), AND WITH THE FRAME THAT REACHES ABOVE THE BUILDER: 'Lib.OthersKept': every block that is not b and is no row of uint8's stands as it stood: the iterator of a range among them. (LAID: no walk: one application.) -/
theorem Tryd.Builder_String_any_k (B b : Nat) (l : List UInt8) (w : World) (h : Lib.IsBuilderF 49 5 B b (Lib.byteCells l) w) (hBw : B ≤ w.heap.size) :
  Calls Tryd.prog 35 #[.pointer (some ⟨b, 0, none⟩)] w fun e w' => e = .returned (.string ⟨l.toArray⟩) ∧ (Lib.IsBuilderF 49 5 B b (Lib.byteCells l) w' ∧ Below B w w' ∧ Lib.OthersKept 5 (some b) w w') := Any.Builder_String_any_k Tryd.lays169 Tryd.Builder_Extra_169 B b l w h hBw
def Tryd.laysM171_ren : Go.Shelf.Ren := ⟨fun | 171 => 21 | 243 => 39 | 246 => 55 | 283 => 70 | 284 => 71 | 285 => 72 | 286 => 73 | 129 => 87 | 317 => 86 | 318 => 88 | 319 => 89 | 320 => 90 | 337 => 97 | 338 => 98 | n => n, fun | 3 => 3 | 9 => 9 | 2 => 2 | 4 => 4 | 171 => 100 | 0 => 0 | 53 => 101 | 37 => 46 | 5 => 5 | 173 => 104 | 212 => 122 | 51 => 95 | 20 => 20 | 213 => 123 | 46 => 116 | 232 => 140 | 233 => 141 | n => n, fun | 17 => 1 | 18 => 5 | 19 => 6 | n => n⟩
theorem Tryd.laysM171 : Go.Proofs.LaysM.n171 Tryd.prog Tryd.laysM171_ren := {
 mixed := by kernel_rfl
 f129 := Tryd.func87.trans (congrArg some (by kernel_rfl))
 f171 := Tryd.func21.trans (congrArg some (by kernel_rfl))
 f243 := Tryd.func39.trans (congrArg some (by kernel_rfl))
 f246 := Tryd.func55.trans (congrArg some (by kernel_rfl))
 f283 := Tryd.func70.trans (congrArg some (by kernel_rfl))
 f284 := Tryd.func71.trans (congrArg some (by kernel_rfl))
 f285 := Tryd.func72.trans (congrArg some (by kernel_rfl))
 f286 := Tryd.func73.trans (congrArg some (by kernel_rfl))
 f317 := Tryd.func86.trans (congrArg some (by kernel_rfl))
 f318 := Tryd.func88.trans (congrArg some (by kernel_rfl))
 f319 := Tryd.func89.trans (congrArg some (by kernel_rfl))
 f320 := Tryd.func90.trans (congrArg some (by kernel_rfl))
 f337 := Tryd.func97.trans (congrArg some (by kernel_rfl))
 f338 := Tryd.func98.trans (congrArg some (by kernel_rfl))
 t0 := Tryd.underlying0
 a0 := Tryd.isAgg0
 z0 := Tryd.sizeOf0
 v0 := Tryd.zeroValue0
 t2 := Tryd.underlying2
 a2 := Tryd.isAgg2
 z2 := Tryd.sizeOf2
 v2 := Tryd.zeroValue2
 t3 := Tryd.underlying3
 a3 := Tryd.isAgg3
 z3 := Tryd.sizeOf3
 v3 := Tryd.zeroValue3
 t4 := Tryd.underlying4
 a4 := Tryd.isAgg4
 z4 := Tryd.sizeOf4
 v4 := Tryd.zeroValue4
 t5 := Tryd.underlying5
 a5 := Tryd.isAgg5
 z5 := Tryd.sizeOf5
 v5 := Tryd.zeroValue5
 t9 := Tryd.underlying9
 a9 := Tryd.isAgg9
 z9 := Tryd.sizeOf9
 v9 := Tryd.zeroValue9
 t20 := Tryd.underlying20
 a20 := Tryd.isAgg20
 z20 := Tryd.sizeOf20
 v20 := Tryd.zeroValue20
 t37 := Tryd.underlying46
 a37 := Tryd.isAgg46
 z37 := Tryd.sizeOf46
 v37 := Tryd.zeroValue46
 t46 := Tryd.underlying116
 a46 := Tryd.isAgg116
 z46 := Tryd.sizeOf116
 v46 := Tryd.zeroValue116
 t51 := Tryd.underlying95
 a51 := Tryd.isAgg95
 z51 := Tryd.sizeOf95
 v51 := Tryd.zeroValue95
 t53 := Tryd.underlying101
 a53 := Tryd.isAgg101
 z53 := Tryd.sizeOf101
 v53 := Tryd.zeroValue101
 t171 := Tryd.underlying100
 a171 := Tryd.isAgg100
 z171 := Tryd.sizeOf100
 v171 := Tryd.zeroValue100
 t173 := Tryd.underlying104
 a173 := Tryd.isAgg104
 z173 := Tryd.sizeOf104
 v173 := Tryd.zeroValue104
 t212 := Tryd.underlying122
 a212 := Tryd.isAgg122
 z212 := Tryd.sizeOf122
 v212 := Tryd.zeroValue122
 t213 := Tryd.underlying123
 a213 := Tryd.isAgg123
 z213 := Tryd.sizeOf123
 t232 := Tryd.underlying140
 a232 := Tryd.isAgg140
 z232 := Tryd.sizeOf140
 v232 := Tryd.zeroValue140
 t233 := Tryd.underlying141
 a233 := Tryd.isAgg141
 z233 := Tryd.sizeOf141
 v233 := Tryd.zeroValue141
 g17 := by kernel_rfl
 g18 := by kernel_rfl
 g19 := by kernel_rfl
 i0 := by kernel_rfl
 i2 := by kernel_rfl
 i3 := by kernel_rfl
 i4 := by kernel_rfl
 i5 := by kernel_rfl
 i9 := by kernel_rfl
 i20 := by kernel_rfl
 i37 := by kernel_rfl
 i46 := by kernel_rfl
 i51 := by kernel_rfl
 i53 := by kernel_rfl
 i171 := by kernel_rfl
 i173 := by kernel_rfl
 i212 := by kernel_rfl
 i232 := by kernel_rfl
 i233 := by kernel_rfl
 m17 := by kernel_rfl
 m18 := by kernel_rfl
 m19 := by kernel_rfl }
open Go.RowKit Go.Sort Go.Lib in
/-- strconv.Itoa: "Itoa is equivalent to FormatInt(int64(i), 10).": i's DECIMAL NUMERAL ('Lib.itoa': a '-' where i is negative, then the digits), FOR EVERY int. The world behind the call: the world before it, new blocks behind the heap (the library's 'var a [24]byte'), draws. (LAID: no walk: one application.) -/
theorem Tryd.strconv_Itoa (n : Int) (h0 : -9223372036854775808 ≤ n) (h1 : n ≤ 9223372036854775807) (w : World) (htab : Lib.TabIs Tryd.prog w "internal/strconv.uint64pow10" .u64 Lib.pow10Tab) :
  Calls Tryd.prog 21 #[.int .i64 n] w fun e w' => e = .returned (.string ⟨(Lib.itoa n).toArray⟩) ∧ ∃ k os, w' = grow (w.drewN k) os := Any.strconv_Itoa Tryd.laysM171 n h0 h1 w htab
end Go.Proofs
end
section
/-
 strings.Builder at this program's translation (copyCheck ends in a refusal here, so the shelf's own contracts on it do not lay): copyCheck, WriteString, WriteByte. The proofs are the shelf's, turned to this program.
-/
namespace Go.Proofs.YthmbbkbmlnaghaaDoor.P
open Go.RowKit Go.Shelf Go.Proofs.YthmbbkbmlnaghaaDoorW.PrintWords Go.Proofs.YthmbbkbmlnaghaaDoorW.PrintLast Go.Proofs.YthmbbkbmlnaghaaDoorW.PrintMore
set_option linter.unusedVariables false
set_option linter.unusedSimpArgs false

theorem bldX : (Tryd.prog.info? 49).map (·.size) = some 2 := by kernel_rfl
theorem bldLies : liesAt Tryd.prog Tryd.prog.depth 49 (2 / Tryd.prog.cellsOf 49) 0 49 1 = true := by kernel_rfl

set_option maxHeartbeats 1000000 in
set_option maxRecDepth 100000 in
theorem bld_copyCheck_used (b : Nat) (w : World) (h0 : w.cell? ⟨b, 0, none⟩ = some (.pointer (some ⟨b, 0, none⟩))) :
  Calls Tryd.prog 47 #[.pointer (some ⟨b, 0, none⟩)] w fun e w' => e = .returned (.tuple #[]) ∧ w' = w := by
 obtain ⟨j, hj, _⟩ := Option.map_eq_some_iff.1 bldX
 have u86 := run_underlying Tryd.underlying49
 have u84 := run_underlying Tryd.underlying47
 go_enter Tryd.func47, Tryd.ntmps47
 go_wp2
 rw [Lib.run_neq_ptr_same w _ Tryd.underlying47 hj]
 go_wp2
 go_end0
 exact ⟨rfl, rfl⟩

set_option maxHeartbeats 1000000 in
set_option maxRecDepth 100000 in
theorem bld_copyCheck_fresh (b : Nat) (w : World) (h0 : w.cell? ⟨b, 0, none⟩ = some (.pointer none)) (hsh : w.shape? b = some (49, 2)) (hfr : w.frozen? ⟨b, 0, none⟩ = false) :
  Calls Tryd.prog 47 #[.pointer (some ⟨b, 0, none⟩)] w fun e w' => e = .returned (.tuple #[]) ∧ w' = w.setCell ⟨b, 0, none⟩ (.pointer (some ⟨b, 0, none⟩)) := by
 obtain ⟨j, hj, hjs⟩ := Option.map_eq_some_iff.1 bldX
 go_enter Tryd.func47, Tryd.ntmps47
 go_wp2
 rw [Lib.run_to_unsafe w ⟨b, 0, none⟩ Tryd.underlying47 Tryd.underlying93 hj (by rw [hjs]; decide) hsh (Nat.zero_lt_succ 1)]
 simp only [Result.andThen]
 rw [Oper.upon_value]
 go_wp2
 rw [run_callFunc_extern Tryd.func63 (by kernel_rfl) (by kernel_rfl) (by kernel_rfl) (e := Extern.AbiNoEscape.same) (by kernel_rfl)]
 rw [Lib.run_noEscape]
 simp only [Result.andThen]
 rw [Oper.upon_value]
 go_wp2
 rw [Lib.run_from_unsafe w ⟨b, 0, none⟩ Tryd.underlying93 Tryd.underlying47 hj hsh bldLies]
 simp only [Result.andThen]
 rw [Oper.upon_value]
 go_wp2
 go_end0
 exact ⟨rfl, rfl⟩
theorem bldByte : (Tryd.prog.info? 5).map (fun i => (i.zero, i.size, i.bytes)) = some (some (.int .u8 0), 1, 1) := by kernel_rfl

set_option maxHeartbeats 2000000 in
set_option maxRecDepth 100000 in
theorem bld_copyCheck_k (B b : Nat) (bs : List Value) (w : World) (h : Lib.IsBuilderF 49 5 B b bs w) :
  Calls Tryd.prog 47 #[.pointer (some ⟨b, 0, none⟩)] w fun e w' => e = .returned (.tuple #[]) ∧ (Lib.BuilderAtF 49 5 B b (.pointer (some ⟨b, 0, none⟩)) bs w' ∧ Below B w w' ∧ Lib.OthersKept 5 (some b) w w') := by
 rcases h with h | h
 ·refine (bld_copyCheck_fresh b w h.cell0 h.shape h.frozen0).mono ?_
  rintro e w' ⟨rfl, rfl⟩
  exact ⟨rfl, h.used _, (Below.refl B w).setCell (p := ⟨b, 0, none⟩) h.1 _, (Lib.OthersKept.refl _ _ w).setCell ⟨b, 0, none⟩ rfl _⟩
 ·refine (bld_copyCheck_used b w h.cell0).mono ?_
  rintro e w' ⟨rfl, rfl⟩
  exact ⟨rfl, h, Below.refl B _, Lib.OthersKept.refl _ _ _⟩

set_option maxHeartbeats 2000000 in
set_option maxRecDepth 100000 in
theorem bld_WriteString_k (B b : Nat) (bs : List Value) (s : ByteArray) (w : World) (h : Lib.IsBuilderF 49 5 B b bs w) (hlen : bs.length + s.size ≤ 140737488355328) (hBw : B ≤ w.heap.size) :
  Calls Tryd.prog 32 #[.pointer (some ⟨b, 0, none⟩), .string s] w fun e w' => e = .returned (.tuple #[.int .i64 s.size, .nilIface]) ∧ (Lib.BuilderAtF 49 5 B b (.pointer (some ⟨b, 0, none⟩)) (bs ++ Lib.strCells s) w' ∧ Below B w w' ∧ Lib.OthersKept 5 (some b) w w') := by
 obtain ⟨i0, hi, hz0, hz1, hz2⟩ := info_parts bldByte
 go_enter Tryd.func32, Tryd.ntmps32
 go_wp2_with (go_at_call 47; refine (bld_copyCheck_k B b bs _ h).mono ?_)
 rintro e w1 ⟨rfl, h1, hb1, hk1⟩
 obtain ⟨hB, v, hbk, hown, hne⟩ := h1
 have c0 : w1.cell? ⟨b, 0, none⟩ = some (.pointer (some ⟨b, 0, none⟩)) := by rw [Lib.cell_of_heap hbk]; rfl
 have c1 : w1.cell? ⟨b, 1, none⟩ = some v := by rw [Lib.cell_of_heap hbk]; rfl
 go_wp2_with (at_builtin; refine Lib.wpList_append_own_stringF _ rfl _ _ 46 9 rfl B 5 i0 Tryd.underlying46 Tryd.underlying9 hi hz0 hz1 hz2 _ _ _ rfl hown s rfl ?c3 ?c4 ?c5 ?_)
 case c3 => unfold maxLen; omega
 case c4 => omega
 case c5 => have := hb1.size; omega
 intro v' w2 hown' hgrow _
 have hlt : b < w1.heap.size := by
  rcases Nat.lt_or_ge b w1.heap.size with h' | h'
  ·exact h'
  ·simp [Array.getElem?_eq_none h'] at hbk
 have hb2 : w2.heap[b]? = some (.cells #[.pointer (some ⟨b, 0, none⟩), v] 49 (0, 0)) := by
  rw [hgrow.block b hlt (fun e => hne e.symm)]
  exact hbk
 have d0 : w2.cell? ⟨b, 0, none⟩ = some (.pointer (some ⟨b, 0, none⟩)) := by rw [Lib.cell_of_heap hb2]; rfl
 have d1 : w2.cell? ⟨b, 1, none⟩ = some v := by rw [Lib.cell_of_heap hb2]; rfl
 have f1 : w2.frozen? ⟨b, 1, none⟩ = false := Lib.frozen_of_heap hb2 1
 obtain ⟨ao, n', cap, rfl⟩ : ∃ ao n' cap, v' = .slice ao n' cap := by
  rcases hown'.2 with ⟨hv, _⟩ | ⟨g, cap, cur, fz, hv, _⟩
  ·exact ⟨_, _, _, hv⟩
  ·exact ⟨_, _, _, hv⟩
 go_wp2
 go_ret2
 refine ⟨rfl, ?_, ?_, (hk1.grown hgrow (Lib.ownsRowF_kind hown)).setCell ⟨b, 1, none⟩ rfl _⟩
 ·exact Lib.BuilderAtF.put (T := 49) (e := 5) hB hb2 (bs' := bs ++ Lib.strCells s) (by simpa [Lib.strCells_length] using hown') (by decide)
 ·exact (hb1.grown hgrow (by have := hb1.size; omega) (fun k hk => (hown.lt k hk).1)).setCell (p := ⟨b, 1, none⟩) hB _

end Go.Proofs.YthmbbkbmlnaghaaDoor.P
end
section
/-
 charref.replaced, the plain part: what is written, reference by reference.
-/
namespace Go.Proofs.YthmbbkbmlnaghaaDoor.P
open Go.RowKit Go.Shelf Go.Proofs.YthmbbkbmlnaghaaDoorW.PrintWords Go.Proofs.YthmbbkbmlnaghaaDoorW.PrintLast Go.Proofs.YthmbbkbmlnaghaaDoorW.PrintMore
set_option linter.unusedVariables false
set_option linter.unusedSimpArgs false

def repStep (g : ByteArray → ByteArray) (m : List UInt8) (st : Nat × List UInt8) (x : Nat × ByteArray × Nat) : Nat × List UInt8 :=
 (x.1 + 1 + x.2.2, st.2 ++ ((m.drop st.1).take (x.1 - st.1) ++ (g x.2.1).data.toList))
def repSt (g : ByteArray → ByteArray) (m : List UInt8) (l : List (Nat × ByteArray × Nat)) : Nat × List UInt8 := l.foldl (repStep g m) (0, [])
theorem repSt_snoc (g : ByteArray → ByteArray) (m : List UInt8) (l : List (Nat × ByteArray × Nat)) (x : Nat × ByteArray × Nat) : repSt g m (l ++ [x]) = repStep g m (repSt g m l) x := by
 unfold repSt
 rw [List.foldl_append]
 rfl
def repText (g : ByteArray → ByteArray) (m : List UInt8) (refs : List (Nat × ByteArray × Nat)) : List UInt8 := (repSt g m refs).2 ++ m.drop (repSt g m refs).1

/-- the places go up -/
def Asc (n : Nat) : Nat → List (Nat × ByteArray × Nat) → Prop
 | _, [] => True
 | i, x :: t => i ≤ x.1 ∧ x.1 + 1 + x.2.2 ≤ n ∧ Asc n (x.1 + 1 + x.2.2) t
theorem Asc.weak {n : Nat} : ∀ {i j : Nat} {l : List (Nat × ByteArray × Nat)}, j ≤ i → Asc n i l → Asc n j l
 | _, _, [], _, _ => trivial
 | _, _, _ :: _, h, ⟨h1, h2, h3⟩ => ⟨Nat.le_trans h h1, h2, h3⟩
theorem refsGo_asc (attr : Bool) (s : ByteArray) : ∀ (k i : Nat) (l : List (Nat × ByteArray × Nat)), refsGo attr s k i = some l → Asc s.size i l
 | 0, i, l, h => by simp [refsGo] at h
 | k + 1, i, l, h => by
  unfold refsGo at h
  by_cases c1 : i < s.size
  ·rw [if_pos c1] at h
   by_cases c2 : bt s i = 38
   ·rw [if_pos c2] at h
    obtain ⟨n, _, h⟩ := Option.bind_eq_some_iff.1 h
    by_cases c3 : 0 ≤ n.2.1 ∧ i + 1 + n.2.1.toNat ≤ s.size
    ·rw [if_pos c3] at h
     by_cases c4 : n.2.1 = 0
     ·rw [if_pos c4] at h
      exact (refsGo_asc attr s k _ l h).weak (by omega)
     ·rw [if_neg c4] at h
      obtain ⟨t, ht, h⟩ := Option.bind_eq_some_iff.1 h
      have := Option.some.inj h
      subst this
      exact ⟨Nat.le_refl _, c3.2, refsGo_asc attr s k _ t ht⟩
    ·rw [if_neg c3] at h
     cases h
   ·rw [if_neg c2] at h
    exact (refsGo_asc attr s k _ l h).weak (by omega)
  ·rw [if_neg c1] at h
   have := Option.some.inj h
   subst this
   trivial
theorem Asc.mid {n : Nat} (g : ByteArray → ByteArray) (m : List UInt8) : ∀ (pre : List (Nat × ByteArray × Nat)) (st : Nat × List UInt8) (x : Nat × ByteArray × Nat) (post : List (Nat × ByteArray × Nat)), Asc n st.1 (pre ++ x :: post) →
  (pre.foldl (repStep g m) st).1 ≤ x.1 ∧ x.1 + 1 + x.2.2 ≤ n ∧ pre.length + st.1 ≤ (pre.foldl (repStep g m) st).1
 | [], st, x, post, h => ⟨h.1, h.2.1, by simp⟩
 | y :: t, st, x, post, h => by
  have := Asc.mid g m t (repStep g m st y) x post (h.2.2)
  refine ⟨this.1, this.2.1, ?_⟩
  have h3 := this.2.2
  have h1 := h.1
  simp only [List.foldl_cons, List.length_cons]
  have e : (repStep g m st y).1 = y.1 + 1 + y.2.2 := rfl
  omega
theorem Asc.end_ {n : Nat} (g : ByteArray → ByteArray) (m : List UInt8) : ∀ (pre : List (Nat × ByteArray × Nat)) (st : Nat × List UInt8), st.1 ≤ n → Asc n st.1 pre → (pre.foldl (repStep g m) st).1 ≤ n ∧ pre.length + st.1 ≤ (pre.foldl (repStep g m) st).1
 | [], st, h0, h => ⟨h0, by simp⟩
 | y :: t, st, h0, h => by
  have := Asc.end_ g m t (repStep g m st y) h.2.1 h.2.2
  refine ⟨this.1, ?_⟩
  have h3 := this.2
  have h1 := h.1
  simp only [List.foldl_cons, List.length_cons]
  have e : (repStep g m st y).1 = y.1 + 1 + y.2.2 := rfl
  omega
theorem repFold_len (g : ByteArray → ByteArray) (m : List UInt8) : ∀ (l : List (Nat × ByteArray × Nat)) (st : Nat × List UInt8), st.2.length ≤ (l.foldl (repStep g m) st).2.length
 | [], st => Nat.le_refl _
 | y :: t, st => by
  have := repFold_len g m t (repStep g m st y)
  have e : (repStep g m st y).2.length = st.2.length + ((m.drop st.1).take (y.1 - st.1) ++ (g y.2.1).data.toList).length := by simp only [repStep, List.length_append]
  simp only [List.foldl_cons]
  omega
theorem repSt_len (g : ByteArray → ByteArray) (m : List UInt8) (a b : List (Nat × ByteArray × Nat)) : (repSt g m a).2.length ≤ (repSt g m (a ++ b)).2.length := by
 have := repFold_len g m b (repSt g m a)
 unfold repSt at this ⊢
 rw [List.foldl_append]
 exact this

/-- A builder is kept where its own block and the rows of bytes are kept. -/
theorem bld_kept {T e : TypeId} {B b : Nat} {bs : List Value} {w w' : World} (h : Lib.IsBuilderF T e B b bs w)
  (hk : ∀ k o, w.heap[k]? = some o → (k = b ∨ ∃ c fz, o = Obj.cells c e fz) → w'.heap[k]? = some o) : Lib.IsBuilderF T e B b bs w' := by
 have key : ∀ p, Lib.BuilderAtF T e B b p bs w → Lib.BuilderAtF T e B b p bs w' := by
  rintro p ⟨hB, v, hb, hown, hne⟩
  refine ⟨hB, v, hk _ _ hb (.inl rfl), ⟨hown.1, ?_⟩, hne⟩
  rcases hown.2 with hn | ⟨g, cap, cur, fz, hv, hbg, hg, rest⟩
  ·exact .inl hn
  ·exact .inr ⟨g, cap, cur, fz, hv, hbg, hk _ _ hg (.inr ⟨_, _, rfl⟩), rest⟩
 exact h.elim (fun x => .inl (key _ x)) (fun x => .inr (key _ x))
theorem bld_below {T e : TypeId} {B b : Nat} {bs : List Value} {w w' : World} (h : Lib.IsBuilderF T e B b bs w) (hb : Below w.heap.size w w') : Lib.IsBuilderF T e B b bs w' :=
 bld_kept h fun k o ho _ => by
  have hlt : k < w.heap.size := (Array.getElem?_eq_some_iff.1 ho).1
  rw [hb.block k hlt]
  exact ho
theorem blk_kept {w w' : World} {k : Nat} {o : Obj} (hb : Below w.heap.size w w') (h : w.heap[k]? = some o) : w'.heap[k]? = some o := by
 rw [hb.block k (Array.getElem?_eq_some_iff.1 h).1]
 exact h

/-- what stands between two references: the five variables that 'replaced' and its literal share -/
def RepI (BY b0 : Nat) (m : ByteArray) (g : ByteArray → ByteArray) (W0 : World) (pre : List (Nat × ByteArray × Nat)) (W : World) : Prop :=
 Lib.IsBuilderF 49 5 b0 (b0 + 2) (Lib.byteCells (repSt g m.data.toList pre).2) W ∧ W.heap[b0]? = some (.cells #[.string m] 9 (0, 0)) ∧
  W.heap[b0 + 1]? = some (.cells #[.func (.func BY) #[] #[]] 42 (0, 0)) ∧ W.heap[b0 + 3]? = some (.cells #[.int .i64 ((repSt g m.data.toList pre).1 : Nat)] 3 (0, 0)) ∧
  W.heap[b0 + 4]? = some (.cells #[.int .i64 (pre.length : Nat)] 3 (0, 0)) ∧ Below b0 W0 W
theorem RepI.below {BY b0 : Nat} {m : ByteArray} {g : ByteArray → ByteArray} {W0 : World} {pre : List (Nat × ByteArray × Nat)} {W W' : World} (h : RepI BY b0 m g W0 pre W) (hb : Below W.heap.size W W') : RepI BY b0 m g W0 pre W' := by
 obtain ⟨hI, hS, hBy, hF, hN, hB⟩ := h
 have hlt : b0 < W.heap.size := (Array.getElem?_eq_some_iff.1 hS).1
 exact ⟨bld_below hI hb, blk_kept hb hS, blk_kept hb hBy, blk_kept hb hF, blk_kept hb hN, hB.trans (hb.mono (by omega))⟩
end Go.Proofs.YthmbbkbmlnaghaaDoor.P
end
section
/-
 charref.replaced over Decode's literal: the function's own literal, which writes a reference's text, and the whole.
-/
namespace Go.Proofs.YthmbbkbmlnaghaaDoor.P
open Go.RowKit Go.Shelf Go.Proofs.YthmbbkbmlnaghaaDoorW.PrintWords Go.Proofs.YthmbbkbmlnaghaaDoorW.PrintLast Go.Proofs.YthmbbkbmlnaghaaDoorW.PrintMore
set_option linter.unusedVariables false
set_option linter.unusedSimpArgs false

set_option maxRecDepth 100000 in
set_option maxHeartbeats 8000000 in
theorem D_rep1_calls (b0 : Nat) (m : ByteArray) (g : ByteArray → ByteArray) (W0 : World) (pre : List (Nat × ByteArray × Nat)) (x : Nat × ByteArray × Nat) (W : World) (b : Bool)
  (h : RepI 25 b0 m g W0 pre W) (hle : (repSt g m.data.toList pre).1 ≤ x.1) (hx : x.1 + 1 + x.2.2 ≤ m.size) (hm : m.size ≤ 35184372088831) (hp : pre.length ≤ m.size)
  (hlen : (repSt g m.data.toList (pre ++ [x])).2.length ≤ 140737488355328)
  (hby : ∀ (n : Int) (b : Bool) (W : World), Calls Tryd.prog 25 #[.agg #[.string x.2.1, .int .i64 n, .bool b]] W fun e W' => e = .returned (.string (g x.2.1)) ∧ Below W.heap.size W W') :
  Calls Tryd.prog 43 (#[.int .i64 (x.1 : Nat), .agg #[.string x.2.1, .int .i64 (x.2.2 : Nat), .bool b]] ++
    #[.pointer (some ⟨b0 + 2, 0, none⟩), .pointer (some ⟨b0, 0, none⟩), .pointer (some ⟨b0 + 3, 0, none⟩), .pointer (some ⟨b0 + 1, 0, none⟩), .pointer (some ⟨b0 + 4, 0, none⟩)]) W fun e W' =>
   e = .returned (.bool true) ∧ RepI 25 b0 m g W0 (pre ++ [x]) W' ∧ ∀ (j : Nat) (cs : Array Value), W.heap[j]? = some (Obj.cells cs 38 (0, 0)) → W'.heap[j]? = some (Obj.cells cs 38 (0, 0)) := by
 obtain ⟨hI, hS, hBy, hF, hN, hB⟩ := h
 have HI := Aside0.mk hI
 have HS := Aside0.mk hS
 have HBy := Aside0.mk hBy
 have HF := Aside0.mk hF
 have HN := Aside0.mk hN
 have HB := Aside0.mk hB
 have HBY := Aside0.mk hby
 have HLEN := Aside0.mk hlen
 have HN4 := Aside0.mk (show b0 + 4 < W.heap.size from (Array.getElem?_eq_some_iff.1 hN).1)
 clear hI hS hBy hF hN hB hby hlen
 obtain ⟨at_, says, size⟩ := x
 simp only at hle hx HBY
 have hstep := repSt_snoc g m.data.toList pre (at_, says, size)
 generalize hst : repSt g m.data.toList pre = st at hle HI HF hstep
 obtain ⟨fr, acc⟩ := st
 simp only at hle HI HF hstep
 have HST := Aside0.mk hst
 have HSTEP := Aside0.mk hstep
 clear hst hstep
 have hl1 : acc.length + (m.extract fr at_).size ≤ 140737488355328 := by
  have := HLEN.out
  rw [HSTEP.out] at this
  simp [repStep] at this
  have e : (m.extract fr at_).size = at_ - fr := by simp; omega
  omega
 have hl2 : (acc ++ (m.extract fr at_).data.toList).length + (g says).size ≤ 140737488355328 := by
  have := HLEN.out
  rw [HSTEP.out] at this
  simp [repStep] at this
  have e : (m.extract fr at_).size = at_ - fr := by simp; omega
  have e2 : (g says).data.size = (g says).size := rfl
  simp
  omega
 have HL1 := Aside0.mk hl1
 have HL2 := Aside0.mk hl2
 clear hl1 hl2
 have s1 : ((0 : Int) ≤ (fr : Int)) = True := eq_true (by omega)
 have s2 : ((fr : Int) ≤ (at_ : Int)) = True := eq_true (by omega)
 have s3 : ((at_ : Int) ≤ (m.size : Int)) = True := eq_true (by omega)
 have w1 : IntKind.i64.wrap ((at_ : Int) + 1) = (at_ : Int) + 1 := IntWalk.i64_in _ (by omega)
 have w2 : IntKind.i64.wrap ((at_ : Int) + 1 + (size : Int)) = ((at_ + 1 + size : Nat) : Int) := by rw [IntWalk.i64_in _ (by omega)]; omega
 have w3 : IntKind.i64.wrap ((pre.length : Int) + 1) = ((pre.length + 1 : Nat) : Int) := by rw [IntWalk.i64_in _ (by omega)]; omega
 have hu60 := Tryd.underlying38
 have HB0 := Aside0.mk (Below.refl W.heap.size W)
 go_enter Tryd.func43, Tryd.ntmps43
 go_wp2_with (first | ((with_reducible refine gate_dst (N := 8) rfl ?_); refine box_event ?hg (N := 8) ?hd (cs := #[.string says, .int .i64 (size : Nat), .bool b]) (t := 38) ?hr ?_; (case hd => rfl); (case hg => rfl); (case hr => first | (go_simp; done) | (go_simp; rfl)); intro gb hg w5 hbox hb; have HB5 := Aside0.mk (below_step HB0.out hb); have BK5 := Aside0.mk hbox; have NE5 : some gb ≠ some (b0 + 2) := (by intro e; have e := Option.some.inj e; have := HN4.out; rw [hg] at e; omega); clear hb hbox hg; have hcS5 : w5.cell? ⟨b0, 0, none⟩ = some (.string m) := (blk_cell (blk_kept HB5.out HS.out) 0).trans rfl; have hcF5 : w5.cell? ⟨b0 + 3, 0, none⟩ = some (.int .i64 (fr : Nat)) := (blk_cell (blk_kept HB5.out HF.out) 0).trans rfl) | (go_at_call 32; refine (bld_WriteString_k b0 (b0 + 2) (Lib.byteCells (acc ++ (m.extract fr at_).data.toList)) (g says) w7 (by rw [Lib.byteCells_append]; exact bld_below (.inr HI6.out) HBEL7.out) (by rw [Lib.byteCells_length]; exact HL2.out) (by have := HN4.out; have := HB5.out.size; have := HBEL6.out.size; have := HBEL7.out.size; omega)).mono ?_; rintro e w8 ⟨rfl, hb8, hbel8, hok8⟩; have HOK8 := Aside0.mk hok8; have HI8 := Aside0.mk hb8; have HBEL8 := Aside0.mk hbel8; clear hok8 hb8 hbel8; have KP := Aside0.mk (fun (k : Nat) (o : Obj) (h5 : w5.heap[k]? = some o) (hne : some k ≠ some (b0 + 2)) (ho : ∀ c fz, o ≠ Obj.cells c 5 fz) => HOK8.out k o (blk_kept HBEL7.out (HOK6.out k o h5 hne ho)) hne ho); have BK8 := Aside0.mk (KP.out gb _ BK5.out NE5 (fun c fz e => by cases e)); have BF8 := Aside0.mk (KP.out (b0 + 3) _ (blk_kept HB5.out HF.out) (by simp) (fun c fz e => by cases e)); have BN8 := Aside0.mk (KP.out (b0 + 4) _ (blk_kept HB5.out HN.out) (by simp) (fun c fz e => by cases e)); have hch8 : w8.cell? ⟨gb, 1, none⟩ = some (.int .i64 (size : Nat)) := (blk_cell BK8.out 1).trans rfl; have hcF8 : w8.cell? ⟨b0 + 3, 0, none⟩ = some (.int .i64 (fr : Nat)) := (blk_cell BF8.out 0).trans rfl; have hcN8 : w8.cell? ⟨b0 + 4, 0, none⟩ = some (.int .i64 (pre.length : Nat)) := (blk_cell BN8.out 0).trans rfl; have hfF8 := blk_frozen BF8.out 0; have hfN8 := blk_frozen BN8.out 0) | (go_at_call 25; refine (HBY.out (size : Nat) b w6).mono ?_; rintro e w7 ⟨rfl, hbel7⟩; have HBEL7 := Aside0.mk hbel7; clear hbel7) | (go_at_call 32; refine (bld_WriteString_k b0 (b0 + 2) (Lib.byteCells acc) (m.extract fr at_) w5 (bld_below HI.out HB5.out) (by rw [Lib.byteCells_length]; exact HL1.out) (by have := HN4.out; have := HB5.out.size; omega)).mono ?_; rintro e w6 ⟨rfl, hb6, hbel6, hok6⟩; have HOK6 := Aside0.mk hok6; have HI6 := Aside0.mk hb6; have HBEL6 := Aside0.mk hbel6; clear hok6 hb6 hbel6; have BK6 := Aside0.mk (HOK6.out gb _ BK5.out NE5 (fun c fz e => by cases e)); have hcB6 : w6.cell? ⟨b0 + 1, 0, none⟩ = some (.func (.func 25) #[] #[]) := (blk_cell (HOK6.out (b0 + 1) _ (blk_kept HB5.out HBy.out) (by simp) (fun c fz e => by cases e)) 0).trans rfl; have hcg6 : w6.cell? ⟨gb, 0, none⟩ = some (.string says) := (blk_cell BK6.out 0).trans rfl; have hch6 : w6.cell? ⟨gb, 1, none⟩ = some (.int .i64 (size : Nat)) := (blk_cell BK6.out 1).trans rfl; have hci6 : w6.cell? ⟨gb, 2, none⟩ = some (.bool b) := (blk_cell BK6.out 2).trans rfl))
 go_ret
 have hext : (m.extract fr at_).data.toList = (m.data.toList.drop fr).take (at_ - fr) := Lib.extract_data m fr at_
 have kS := KP.out b0 _ (blk_kept HB5.out HS.out) (by intro e; have e := Option.some.inj e; omega) (fun c fz e => by cases e)
 have kBy := KP.out (b0 + 1) _ (blk_kept HB5.out HBy.out) (by intro e; have e := Option.some.inj e; omega) (fun c fz e => by cases e)
 refine ⟨rfl, ⟨?_, ?_, ?_, ?_, ?_, ?_⟩, ?_⟩
 ·rw [HSTEP.out]
  show Lib.IsBuilderF _ _ _ _ (Lib.byteCells (acc ++ ((m.data.toList.drop fr).take (at_ - fr) ++ (g says).data.toList))) _
  rw [← hext, ← List.append_assoc, Lib.byteCells_append]
  refine bld_kept (.inr HI8.out) ?_
  intro k o ho hk
  have n3 : k ≠ b0 + 3 := by
   rintro rfl
   rcases hk with hk | ⟨c, fz, rfl⟩
   ·omega
   ·rw [BF8.out] at ho
    cases ho
  have n4 : k ≠ b0 + 4 := by
   rintro rfl
   rcases hk with hk | ⟨c, fz, rfl⟩
   ·omega
   ·rw [BN8.out] at ho
    cases ho
  rw [Below.heap_setCell _ _ _ _ n4, Below.heap_setCell _ _ _ _ n3]
  exact ho
 ·rw [Below.heap_setCell _ _ _ _ (show b0 ≠ b0 + 4 by omega), Below.heap_setCell _ _ _ _ (show b0 ≠ b0 + 3 by omega)]
  exact kS
 ·rw [Below.heap_setCell _ _ _ _ (show b0 + 1 ≠ b0 + 4 by omega), Below.heap_setCell _ _ _ _ (show b0 + 1 ≠ b0 + 3 by omega)]
  exact kBy
 ·rw [Below.heap_setCell _ _ _ _ (show b0 + 3 ≠ b0 + 4 by omega), HSTEP.out]
  exact blk_put (cs := #[.int .i64 (fr : Nat)]) BF8.out 0 _ rfl
 ·refine blk_put (cs := #[.int .i64 (pre.length : Nat)]) ?_ 0 _ ?_
  ·rw [Below.heap_setCell _ _ _ _ (show b0 + 4 ≠ b0 + 3 by omega)]
   exact BN8.out
  ·simp
 ·have l1 := HN4.out
  have l2 := HBEL6.out.size
  exact (((((HB.out.trans (HB5.out.mono (by omega))).trans HBEL6.out).trans (HBEL7.out.mono (by have := HB5.out.size; omega))).trans HBEL8.out).setCell (p := ⟨b0 + 3, 0, none⟩) (by show b0 ≤ b0 + 3; omega) _).setCell (p := ⟨b0 + 4, 0, none⟩) (by show b0 ≤ b0 + 4; omega) _
 ·intro j cs hj
  have hj5 := blk_kept HB5.out hj
  have n2 : j ≠ b0 + 2 := by
   rintro rfl
   obtain ⟨hB, v, hb, _⟩ := HI8.out
   have hlt : b0 + 2 < W.heap.size := (Array.getElem?_eq_some_iff.1 hj).1
   rcases HI.out with ⟨_, v, hb, _⟩ | ⟨_, v, hb, _⟩ <;> (rw [hj] at hb; cases hb)
  have n3 : j ≠ b0 + 3 := by
   rintro rfl
   rw [HF.out] at hj
   cases hj
  have n4 : j ≠ b0 + 4 := by
   rintro rfl
   rw [HN.out] at hj
   cases hj
  rw [Below.heap_setCell _ _ _ _ n4, Below.heap_setCell _ _ _ _ n3]
  exact KP.out j _ hj5 (fun e => n2 (Option.some.inj e)) (fun c fz e => by cases e)
end Go.Proofs.YthmbbkbmlnaghaaDoor.P
end
section
/-
 charref.replaced over Decode's literal.
-/
namespace Go.Proofs.YthmbbkbmlnaghaaDoor.P
open Go.RowKit Go.Shelf Go.Proofs.YthmbbkbmlnaghaaDoorW.PrintWords Go.Proofs.YthmbbkbmlnaghaaDoorW.PrintLast Go.Proofs.YthmbbkbmlnaghaaDoorW.PrintMore
set_option linter.unusedVariables false
set_option linter.unusedSimpArgs false

theorem D_alloc_get {w : World} {k : Nat} {x : Obj} (o : Obj) (h : w.heap[k]? = some x) : (w.alloc o).heap[k]? = some x :=
 (Lib.alloc_old w o k (Array.getElem?_eq_some_iff.1 h).1).trans h

set_option maxRecDepth 100000 in
set_option maxHeartbeats 2000000 in
theorem D_replaced_calls (k : Nat) (m : ByteArray) (attr : Bool) (g : ByteArray → ByteArray) (refs : List (Nat × ByteArray × Nat)) (w : World) (hm : m.size ≤ 35184372088831) (href : refsGo attr m k 0 = some refs)
  (hlen : (repText g m.data.toList refs).length ≤ 140737488355328)
  (hby : ∀ x ∈ refs, ∀ (n : Int) (b : Bool) (W : World), Calls Tryd.prog 25 #[.agg #[.string x.2.1, .int .i64 n, .bool b]] W fun e W' => e = .returned (.string (g x.2.1)) ∧ Below W.heap.size W W') :
  Calls Tryd.prog 23 #[.string m, .bool attr, .func (.func 25) #[] #[]] w fun e w' =>
   e = .returned (.tuple #[.string ⟨(repText g m.data.toList refs).toArray⟩, .int .i64 (refs.length : Nat)]) ∧ Below w.heap.size w w' := by
 have HBY := Aside0.mk hby
 have HREF := Aside0.mk href
 have HLEN := Aside0.mk hlen
 clear hby href hlen
 have hasc := refsGo_asc attr m k 0 refs HREF.out
 have hend := Asc.end_ g m.data.toList refs (0, []) (Nat.zero_le _) hasc
 have HEND := Aside0.mk hend
 have HASC := Aside0.mk hasc
 clear hasc hend
 -- the world when the references begin
 have hw5 : RepI 25 w.heap.size m g w [] (((((w.alloc (.cells #[.string m] 9)).alloc (.cells #[.func (.func 25) #[] #[]] 42)).alloc (.cells #[.pointer none, .slice none 0 0] 49)).alloc (.cells #[.int .i64 0] 3)).alloc (.cells #[.int .i64 0] 3)) := by
  have z1 : (w.alloc (.cells #[.string m] 9)).heap.size = w.heap.size + 1 := by simp
  have z2 : ((w.alloc (.cells #[.string m] 9)).alloc (.cells #[.func (.func 25) #[] #[]] 42)).heap.size = w.heap.size + 2 := by simp
  have z3 : (((w.alloc (.cells #[.string m] 9)).alloc (.cells #[.func (.func 25) #[] #[]] 42)).alloc (.cells #[.pointer none, .slice none 0 0] 49)).heap.size = w.heap.size + 3 := by simp
  have z4 : ((((w.alloc (.cells #[.string m] 9)).alloc (.cells #[.func (.func 25) #[] #[]] 42)).alloc (.cells #[.pointer none, .slice none 0 0] 49)).alloc (.cells #[.int .i64 0] 3)).heap.size = w.heap.size + 4 := by simp
  refine ⟨.inl ⟨by omega, .slice none 0 0, ?_, ⟨rfl, .inl ⟨rfl, rfl⟩⟩, by simp [Value.ownBlock]⟩, ?_, ?_, ?_, ?_, ?_⟩
  ·have := heap_alloc_new ((w.alloc (.cells #[.string m] 9)).alloc (.cells #[.func (.func 25) #[] #[]] 42)) (.cells #[.pointer none, .slice none 0 0] 49)
   rw [z2] at this
   exact D_alloc_get _ (D_alloc_get _ this)
  ·exact D_alloc_get _ (D_alloc_get _ (D_alloc_get _ (D_alloc_get _ (heap_alloc_new w _))))
  ·have := heap_alloc_new (w.alloc (.cells #[.string m] 9)) (.cells #[.func (.func 25) #[] #[]] 42)
   rw [z1] at this
   exact D_alloc_get _ (D_alloc_get _ (D_alloc_get _ this))
  ·have := heap_alloc_new (((w.alloc (.cells #[.string m] 9)).alloc (.cells #[.func (.func 25) #[] #[]] 42)).alloc (.cells #[.pointer none, .slice none 0 0] 49)) (.cells #[.int .i64 0] 3)
   rw [z3] at this
   exact D_alloc_get _ this
  ·have := heap_alloc_new ((((w.alloc (.cells #[.string m] 9)).alloc (.cells #[.func (.func 25) #[] #[]] 42)).alloc (.cells #[.pointer none, .slice none 0 0] 49)).alloc (.cells #[.int .i64 0] 3)) (.cells #[.int .i64 0] 3)
   rw [z4] at this
   exact this
  ·exact (((((Below.refl _ w).alloc (Nat.le_refl _) _).alloc (by omega) _).alloc (by omega) _).alloc (by omega) _).alloc (by omega) _
 have HW5 := Aside0.mk hw5
 clear hw5
 have heach := fun W5 (h5 : RepI 25 w.heap.size m g w [] W5) => charref_each_calls k m attr #[.pointer (some ⟨w.heap.size + 1 + 1, 0, none⟩), .pointer (some ⟨w.heap.size, 0, none⟩), .pointer (some ⟨w.heap.size + 1 + 1 + 1, 0, none⟩), .pointer (some ⟨w.heap.size + 1, 0, none⟩), .pointer (some ⟨w.heap.size + 1 + 1 + 1 + 1, 0, none⟩)]
  refs (RepI 25 w.heap.size m g w) W5 hm HREF.out (fun pre W W' h hb => h.below hb) (by
   rintro pre x W b hinv ⟨post, hpost⟩
   have hmid := Asc.mid (n := m.size) g m.data.toList pre (0, []) x post (by rw [← List.append_cons] at hpost; rw [hpost]; exact HASC.out)
   refine D_rep1_calls w.heap.size m g w pre x W b hinv hmid.1 hmid.2.1 hm ?_ ?_ (HBY.out x (by rw [← hpost]; simp))
   ·have h1 := hmid.2.2
    have h2 := hmid.1
    have h3 := hmid.2.1
    simp only [Nat.add_zero] at h1
    omega
   ·have h1 := repSt_len g m.data.toList (pre ++ [x]) post
    rw [hpost] at h1
    have h2 := HLEN.out
    unfold repText at h2
    rw [List.length_append] at h2
    omega) h5
 have HEACH := Aside0.mk heach
 clear heach
 have hend := HEND.out
 have hlen := HLEN.out
 unfold repText at hlen
 have htx : repText g m.data.toList refs = (repSt g m.data.toList refs).2 ++ m.data.toList.drop (repSt g m.data.toList refs).1 := rfl
 have HTX := Aside0.mk htx
 clear htx
 change (repSt g m.data.toList refs).1 ≤ m.size ∧ refs.length + 0 ≤ (repSt g m.data.toList refs).1 at hend
 obtain ⟨fr, acc, hst⟩ : ∃ fr acc, repSt g m.data.toList refs = (fr, acc) := ⟨_, _, rfl⟩
 have hri : ∀ W, RepI 25 w.heap.size m g w refs W → Lib.IsBuilderF 49 5 w.heap.size (w.heap.size + 1 + 1) (Lib.byteCells acc) W ∧ W.heap[w.heap.size]? = some (.cells #[.string m] 9 (0, 0)) ∧
   W.heap[w.heap.size + 1 + 1 + 1]? = some (.cells #[.int .i64 (fr : Nat)] 3 (0, 0)) ∧ W.heap[w.heap.size + 1 + 1 + 1 + 1]? = some (.cells #[.int .i64 (refs.length : Nat)] 3 (0, 0)) ∧ Below w.heap.size w W := by
  rintro W ⟨h1, h2, _, h3, h4, h5⟩
  rw [hst] at h1 h3
  exact ⟨h1, h2, h3, h4, h5⟩
 have HRI := Aside0.mk hri
 clear hri
 rw [hst] at hend hlen HTX
 simp only at hend hlen HTX
 clear hst
 rw [List.length_append, List.length_drop] at hlen
 have hml : m.data.toList.length = m.size := by simp
 have HL := Aside0.mk (show acc.length + (m.extract fr m.size).size ≤ 140737488355328 by
  have e : (m.extract fr m.size).size = m.size - fr := by simp
  omega)
 clear hlen hml
 have s1 : ((0 : Int) ≤ (fr : Int)) = True := eq_true (by omega)
 have s2 : ((fr : Int) ≤ (m.size : Int)) = True := eq_true (by omega)
 go_enter Tryd.func23, Tryd.ntmps23
 go_wp2_with (first | (go_at_call 42; refine (HEACH.out _ HW5.out).mono ?_; rintro e w6 ⟨rfl, hr6⟩; have hr6' := HRI.out w6 hr6; clear hr6; obtain ⟨hI6, hS6, hF6, hN6, hB6⟩ := hr6'; have HI6 := Aside0.mk hI6; have HS6 := Aside0.mk hS6; have HF6 := Aside0.mk hF6; have HN6 := Aside0.mk hN6; have HB6 := Aside0.mk hB6; clear hI6 hS6 hF6 hN6 hB6; have hcS6 : w6.cell? ⟨w.heap.size, 0, none⟩ = some (.string m) := (blk_cell HS6.out 0).trans rfl; have hcF6 : w6.cell? ⟨w.heap.size + 1 + 1 + 1, 0, none⟩ = some (.int .i64 (fr : Nat)) := (blk_cell HF6.out 0).trans rfl) | (go_at_call 32; refine (bld_WriteString_k w.heap.size (w.heap.size + 1 + 1) (Lib.byteCells acc) (m.extract fr m.size) w6 HI6.out (by rw [Lib.byteCells_length]; exact HL.out) HB6.out.size).mono ?_; rintro e w7 ⟨rfl, hb7, hbel7, hok7⟩; have HI7 := Aside0.mk hb7; have HBEL7 := Aside0.mk hbel7; have HN7 := Aside0.mk (hok7 (w.heap.size + 1 + 1 + 1 + 1) _ HN6.out (by intro e; have e := Option.some.inj e; omega) (fun c fz e => by cases e)); clear hb7 hbel7 hok7; have hcN7 : w7.cell? ⟨w.heap.size + 1 + 1 + 1 + 1, 0, none⟩ = some (.int .i64 (refs.length : Nat)) := (blk_cell HN7.out 0).trans rfl))
 have hb7 : Lib.IsBuilderF 49 5 w.heap.size (w.heap.size + 1 + 1) (Lib.byteCells (acc ++ m.data.toList.drop fr)) w7 := by
  have e : (m.extract fr m.size).data.toList = m.data.toList.drop fr := by
   rw [Lib.extract_data, List.take_of_length_le (by simp)]
  rw [Lib.byteCells_append, ← e]
  exact .inr HI7.out
 have HSTR := Aside0.mk (Tryd.Builder_String_any_k w.heap.size (w.heap.size + 1 + 1) (acc ++ m.data.toList.drop fr) w7.drew hb7 (Nat.le_trans HB6.out.size HBEL7.out.size))
 clear hb7
 go_region_with (go_at_call 35; refine HSTR.out.mono ?_; rintro e w8 ⟨rfl, _, hbel8, hok8⟩; have HBEL8 := Aside0.mk hbel8; have HN8 := Aside0.mk (hok8 (w.heap.size + 1 + 1 + 1 + 1) _ HN7.out (by intro e; have e := Option.some.inj e; omega) (fun c fz e => by cases e)); clear hbel8 hok8; have hcN8 : w8.cell? ⟨w.heap.size + 1 + 1 + 1 + 1, 0, none⟩ = some (.int .i64 (refs.length : Nat)) := (blk_cell HN8.out 0).trans rfl)
 all_goals (try go_wp2)
 all_goals go_ret2
 all_goals exact ⟨by rw [HTX.out]; rfl, (below_drew (HB6.out.trans HBEL7.out)).trans HBEL8.out⟩
end Go.Proofs.YthmbbkbmlnaghaaDoor.P
end
section
/-
 utf.All: what it hands back, over a copy of the bytes; what its function does at a loop's rounds: the contract of the iterator.
-/
namespace Go.Proofs.YthmbbkbmlnaghaaDoor.P
open Go.RowKit Go.Shelf Go.Proofs.YthmbbkbmlnaghaaDoorW.PrintWords Go.Proofs.YthmbbkbmlnaghaaDoorW.PrintLast Go.Proofs.YthmbbkbmlnaghaaDoorW.PrintMore
set_option linter.unusedVariables false
set_option linter.unusedSimpArgs false

set_option maxHeartbeats 1000000 in
theorem utf_All_calls (A : Option Addr) (c0 : Nat) (l0 : List Int) (w : World) (hr : Kd.C (Kd.int .u8) w A l0.length l0) (hb : l0.length ≤ 140737488355328) :
  Calls Tryd.prog 60 #[.slice A l0.length c0] w fun e w' => e = .returned (.func (.func 77) #[] #[.pointer (some ⟨w.heap.size, 0, none⟩)]) ∧
   (∃ v, w'.heap[w.heap.size]? = some (.cells #[v] 46 (0, 0)) ∧ Kd.R (Kd.int .u8) 5 w' w.heap.size (fun k => k ≠ w.heap.size) v l0) ∧ Below w.heap.size w w' := by
 have HR := Aside0.mk hr
 clear hr
 go_enter Tryd.func60, Tryd.ntmps60
 go_wp2_with (at_builtin; refine Kd.R_append_row (Value.int .u8) (0 : Int) (w0 := w) (h1 := fun _ => rfl) w.heap.size rfl (.const (.slice none 0 0)) (.tmp 3) 46 5 (.int .u8 0) 1 rfl Tryd.underlying46 info5 rfl (by omega) (.slice none 0 0) [] l0 A l0.length c0 (fun k => k ≠ w.heap.size) rfl rfl ?aF ?aO ?aC ?aB ?aS ?aL ?_)
 case aF => intro k hk; simp at hk; omega
 case aO => exact Kd.R_nil _ _ _ _ _
 case aC => exact Kd.C_alloc HR.out _
 case aB => exact (Below.refl _ _).alloc (Nat.le_refl _) _
 case aS => simp
 case aL => simpa using hb
 intro v1 w1 ho hbw hg hat
 obtain ⟨Ao, co, rfl⟩ := Kd.R_slice ho
 have hblk : w1.heap[w.heap.size]? = some (.cells #[.slice A l0.length c0] 46 (0, 0)) := (hg.block w.heap.size (by simp) (by simp [Value.ownBlock])).trans (heap_alloc_new w _)
 have HO := Aside0.mk ho
 have HB := Aside0.mk hbw
 have HBK := Aside0.mk hblk
 have hc : w1.cell? ⟨w.heap.size, 0, none⟩ = some (.slice A l0.length c0) := (blk_cell hblk 0).trans rfl
 have hf := blk_frozen hblk 0
 clear ho hbw hg hat hblk
 go_wp2
 go_ret
 refine ⟨rfl, ⟨.slice Ao l0.length co, ?_, ?_⟩, ?_⟩
 ·exact blk_put (cs := #[.slice A l0.length c0]) HBK.out 0 _ rfl
 ·exact Kd.R_far (p := ⟨w.heap.size, 0, none⟩) HO.out (fun _ hk => hk) _
 ·exact below_set HB.out (Nat.le_refl _)

/-! ### bytes that lie in blocks m0 .. n0, and are read -/
def Mid (m0 n0 : Nat) (W W' : World) : Prop := ∀ k, m0 ≤ k → k < n0 → W'.heap[k]? = W.heap[k]?
theorem Mid.refl (m0 n0 : Nat) (W : World) : Mid m0 n0 W W := fun _ _ _ => rfl
theorem Mid.trans {m0 n0 : Nat} {A B C : World} (h : Mid m0 n0 A B) (k : Mid m0 n0 B C) : Mid m0 n0 A C := fun i h1 h2 => (k i h1 h2).trans (h i h1 h2)
theorem Mid.drewN {m0 n0 : Nat} {A B : World} (h : Mid m0 n0 A B) (m : Nat) : Mid m0 n0 A (B.drewN m) := h
theorem Mid.below {m0 n0 : Nat} {A B : World} (h : Below n0 A B) : Mid m0 n0 A B := fun k _ hk => h.block k hk
theorem Mid.grown {m0 n0 : Nat} {A B : World} {row : Option Nat} (h : A.grownBy B row) (hs : n0 ≤ A.heap.size) (hr : ∀ r, row = some r → r < m0 ∨ n0 ≤ r) : Mid m0 n0 A B :=
 fun k h1 h2 => h.block k (by omega) (fun e => by have := hr k e.symm; omega)
theorem Mid.cell {m0 n0 : Nat} {A B : World} (h : Mid m0 n0 A B) {p : Addr} (h1 : m0 ≤ p.block) (h2 : p.block < n0) : B.cell? p = A.cell? p := World.cell?_of_block (h _ h1 h2)
theorem Mid.putObj {m0 n0 : Nat} {W : World} {l : Nat} {o o' : Obj} (hl : n0 ≤ l) (h : W.heap[l]? = some o) : Mid m0 n0 W (W.putObj l o') :=
 Mid.grown (grownBy_putObj' W l o') (by have := (Array.getElem?_eq_some_iff.1 h).1; omega) (fun r e => by cases e; exact .inr hl)
def BytesAt (m0 n0 : Nat) (W : World) (A : Option Addr) (zs : List Int) : Prop :=
 zs.length ≤ 9223372036854775807 ∧ (0 < zs.length → ∃ ad, A = some ad ∧ (m0 ≤ ad.block ∧ ad.block < n0) ∧ ∀ j, j < zs.length → W.cell? (ad.add j) = some (.int .u8 (zs.getD j 0)))
theorem block_add (a : Addr) (n : Nat) : (a.add n).block = a.block := by unfold Addr.add; split <;> rfl
theorem BytesAt.mid {m0 n0 : Nat} {W W' : World} {A : Option Addr} {zs : List Int} (h : BytesAt m0 n0 W A zs) (hb : Mid m0 n0 W W') : BytesAt m0 n0 W' A zs :=
 ⟨h.1, fun hn => by
  obtain ⟨ad, e, hlt, hc⟩ := h.2 hn
  exact ⟨ad, e, hlt, fun j hj => (hb.cell (p := ad.add j) (by rw [block_add]; exact hlt.1) (by rw [block_add]; exact hlt.2)).trans (hc j hj)⟩⟩
theorem BytesAt.C {m0 n0 : Nat} {W : World} {A : Option Addr} {zs : List Int} (h : BytesAt m0 n0 W A zs) : Kd.C (Kd.int .u8) W A zs.length zs :=
 Kd.C_of_reads (enc := Value.int .u8) (d := (0 : Int)) (h1 := fun _ => rfl) ⟨rfl, h.1, fun hn => by
  obtain ⟨ad, e, _, hc⟩ := h.2 hn
  exact ⟨ad, e, hc⟩⟩
theorem BytesAt.of_R {base : Nat} {ok : Nat → Prop} {W : World} {A : Option Addr} {c : Nat} {zs : List Int} (h : Kd.R (Kd.int .u8) 5 W base ok (.slice A zs.length c) zs) : BytesAt base W.heap.size W A zs ∧ zs.length ≤ c := by
 obtain ⟨h1, h2, h3⟩ := Kd.R_reads' h
 have hr := Kd.reads_of_C (enc := Value.int .u8) (d := (0 : Int)) (h1 := fun _ => rfl) h3
 have hb := Kd.R_base h
 refine ⟨⟨hr.2.1, fun hn => ?_⟩, h2⟩
 obtain ⟨ad, e, hc⟩ := hr.2.2 hn
 subst e
 refine ⟨ad, rfl, ⟨?_, ?_⟩, hc⟩
 ·have := own_base (Kd.own_of_R h) ad.block rfl
  exact this
 ·have := World.block_lt_of_cell? _ _ (hc 0 hn)
  rwa [block_add] at this

/-! ### the pieces of bytes: where each begins, and its rune -/
def pcsGo : Nat → Nat → List UInt8 → List (Nat × Int)
 | 0, _, _ => []
 | n + 1, p, l => if l = [] then [] else (p, ((rdL l).1 : Int)) :: pcsGo n (p + (rdL l).2.1) (l.drop (rdL l).2.1)
def pcs (p : Nat) (l : List UInt8) : List (Nat × Int) := pcsGo l.length p l
theorem pcsGo_fuel : ∀ (n m p : Nat) (l : List UInt8), l.length ≤ n → l.length ≤ m → pcsGo n p l = pcsGo m p l
 | 0, m, p, l, hn, _ => by
  obtain rfl : l = [] := List.eq_nil_of_length_eq_zero (by omega)
  cases m <;> simp [pcsGo]
 | n + 1, 0, p, l, _, hm => by
  obtain rfl : l = [] := List.eq_nil_of_length_eq_zero (by omega)
  simp [pcsGo]
 | n + 1, m + 1, p, l, hn, hm => by
  unfold pcsGo
  by_cases hne : l = []
  ·simp [hne]
  ·have hw := (rdL_facts l hne).1
   have hl : 0 < l.length := List.length_pos_iff.2 hne
   rw [if_neg hne, if_neg hne, pcsGo_fuel n m _ (l.drop (rdL l).2.1) (by rw [List.length_drop]; omega) (by rw [List.length_drop]; omega)]
theorem pcs_nil (p : Nat) : pcs p [] = [] := rfl
theorem pcs_step (p : Nat) (l : List UInt8) (hne : l ≠ []) : pcs p l = (p, ((rdL l).1 : Int)) :: pcs (p + (rdL l).2.1) (l.drop (rdL l).2.1) := by
 have hl : 0 < l.length := List.length_pos_iff.2 hne
 have hw := (rdL_facts l hne).1
 obtain ⟨n, hn⟩ : ∃ n, l.length = n + 1 := ⟨l.length - 1, by omega⟩
 unfold pcs
 rw [hn]
 show (if l = [] then [] else _) = _
 rw [if_neg hne, pcsGo_fuel n (l.drop (rdL l).2.1).length _ _ (by rw [List.length_drop]; omega) (Nat.le_refl _)]
theorem pcs_runes : ∀ (n : Nat) (l : List UInt8) (p : Nat), l.length ≤ n → (pcs p l).map (·.2) = runes l
 | 0, l, p, h => by
  obtain rfl : l = [] := List.eq_nil_of_length_eq_zero (by omega)
  rfl
 | n + 1, l, p, h => by
  by_cases hne : l = []
  ·subst hne; rfl
  ·have hw := (rdL_facts l hne).1
   have hl : 0 < l.length := List.length_pos_iff.2 hne
   rw [pcs_step p l hne, runes_step l hne, List.map_cons, pcs_runes n _ _ (by rw [List.length_drop]; omega)]


def zs (l : List UInt8) : List Int := l.map fun b => (b.toNat : Int)
theorem zs_length (l : List UInt8) : (zs l).length = l.length := by simp [zs]
theorem zs_drop (l : List UInt8) (k : Nat) : (zs l).drop k = zs (l.drop k) := by simp [zs]

/-- what 'utf.read' tells at the head of bytes: a premise here, paid in plain Lean elsewhere -/
def ReadTells : Prop := ∀ l : List UInt8, l ≠ [] → ∃ k, utf_read.f k (zs l) = some (((rdL l).1 : Int), ((rdL l).2.1 : Int), ((rdL l).2.2 : Int))

attribute [local go_sem] Oper.semAt_some

set_option maxHeartbeats 4000000 in
set_option maxRecDepth 100000 in
theorem all1_in (hrd : ReadTells) (n : Nat) (hn : 1 ≤ n) (l Bb m0 n0 : Nat) (A : Option Addr) (cap : Nat) (bs : List UInt8) (hlen : bs.length ≤ 140737488355328) (hcap : bs.length ≤ cap) (J Jx : List (Nat × Int) → World → Prop)
  (hJd : ∀ s W W', J s W → Below W.heap.size W W' → J s W')
  (hY : ∀ pre x W, J pre W → pre.length < (pcs 0 bs).length → YieldAt Fence.wide (n - 1) Tryd.prog l #[.int .i64 (x.1 : Nat), .int .i32 x.2] W fun e W' =>
   (e = .returned (.bool true) ∧ J (pre ++ [x]) W' ∧ Mid m0 n0 W W') ∨ (e = .returned (.bool false) ∧ Jx (pre ++ [x]) W'))
  (W : World) (hBb : m0 ≤ Bb ∧ Bb < n0) (hbox : W.cell? ⟨Bb, 0, none⟩ = some (.slice A bs.length cap)) (hby : BytesAt m0 n0 W A (zs bs)) (h0 : J [] W) :
  CallsIn Fence.wide n Tryd.prog 77 #[.func (.yield l) #[] #[], .pointer (some ⟨Bb, 0, none⟩)] W fun e W' => (∃ v, e = .returned v) ∧
   ((∃ ys, ys = pcs 0 bs ∧ J ys W') ∨ (∃ pre, pre <+: pcs 0 bs ∧ Jx pre W')) := by
 have HY := Aside0.mk hY
 have HJd := Aside0.mk hJd
 have HBY := Aside0.mk hby
 have HRD := Aside0.mk hrd
 clear hY hJd hby hrd
 obtain ⟨i07, hi07, _, hsz7, _⟩ := info_parts info5
 refine callsIn_of_wp Tryd.func77 rfl trivial ?_ rfl
 simp only [Tryd.ntmps77, List.size_toArray, List.length_cons, List.length_nil, Nat.reduceAdd, Nat.reduceSub, Array.replicate_succ, Array.replicate_zero, List.push_toArray, List.append_toArray, List.nil_append, List.cons_append]
 gi_wp2
 gi_loopw [3] (fun at_ wr => ∃ (k : Nat) (pre : List (Nat × Int)), k ≤ bs.length ∧ at_ = .int .i64 k ∧ Aside0 (J pre wr) ∧ Aside0 (pre ++ pcs k (bs.drop k) = pcs 0 bs) ∧ Aside0 (Mid m0 n0 W wr))
  (fun at_ _ => bs.length - (intOf at_).toNat)
 case atStart => exact ⟨0, [], Nat.zero_le _, rfl, ⟨h0⟩, ⟨by simp⟩, ⟨Mid.refl _ _ _⟩⟩
 case round =>
  obtain ⟨k, pre, hk, rfl, hJ, hpre, hbl⟩ := hrel
  have hc : wr.cell? ⟨Bb, 0, none⟩ = some (.slice A bs.length cap) := (hbl.out.cell (p := ⟨Bb, 0, none⟩) hBb.1 hBb.2).trans hbox
  by_cases hlt : k < bs.length
  ·have hne : bs.drop k ≠ [] := by
    intro e
    have := congrArg List.length e
    simp at this
    omega
   have hstep := pcs_step k (bs.drop k) hne
   have hfacts := rdL_facts (bs.drop k) hne
   obtain ⟨kr, hread⟩ := HRD.out (bs.drop k) hne
   have hbyt := HBY.out.mid hbl.out
   obtain ⟨A7, hcut7, hA7, hC7⟩ := print_drop_of (P := Tryd.prog) (Value.int .u8) 0 46 5 .i64 Tryd.underlying46 hi07 hsz7 A cap (zs bs) (k : Int) (by omega) (by rw [zs_length]; omega) (by rw [zs_length]; exact hcap)
   have hC := Aside0.mk (Kd.C_of_reads (h1 := fun _ => rfl) (hA7 wr (Kd.reads_of_C (d := (0 : Int)) hbyt.C)))
   clear hA7 hbyt
   simp only [Int.toNat_natCast, zs_drop] at hcut7 hC hC7
   generalize zs (bs.drop k) = Z at hcut7 hC hC7 hread
   rw [zs_length] at hcut7
   have hmk : k + (rdL (bs.drop k)).2.1 ≤ bs.length := by
    have := hfacts.2.1
    rw [List.length_drop] at this
    omega
   have hm1 := hfacts.1
   clear hfacts hne
   have hpl : pre.length < (pcs 0 bs).length := by
    rw [← hpre.out, hstep]
    simp
   have hpre2 : (pre ++ [(k, ((rdL (bs.drop k)).1 : Int))]) ++ pcs (k + (rdL (bs.drop k)).2.1) (bs.drop (k + (rdL (bs.drop k)).2.1)) = pcs 0 bs := by
    rw [← hpre.out, hstep, List.append_assoc, List.drop_drop]
    rfl
   have HP2 := Aside0.mk hpre2
   have HPL := Aside0.mk hpl
   clear hstep hpre2 hpl hpre
   generalize rdL (bs.drop k) = q at hread hmk hm1 HP2
   obtain ⟨q1, q2, q3⟩ := q
   dsimp only at hread hmk hm1 HP2
   have HREAD := Aside0.mk hread
   have HC7 := Aside0.mk hC7
   clear hread hC7
   have hw3 : IntKind.i64.wrap ((k : Int) + (q2 : Int)) = (k : Int) + (q2 : Int) := IntWalk.i64_in _ (by omega)
   gi_wp2_with (refine ⟨trivial, ?_⟩; gi_at_call 78; refine (callsIn_wide.2 (utf_read.calls kr _ _ Z _ _ _ _ hC.out HC7.out HREAD.out)).mono ?_; rintro e w' ⟨rfl, hdr⟩; obtain ⟨md, rfl⟩ := hdr.out; obtain ⟨fn, tmps, assign, body, hy, hR⟩ := HY.out pre (k, (q1 : Int)) _ (HJd.out _ _ _ hJ.out (pw_below_drewN (Below.refl _ _) md)) HPL.out; dsimp only at hy)
   refine hR.mono ?_
   rintro e W3 (⟨rfl, hJ3, hk3⟩ | ⟨rfl, hJx3⟩)
   ·have HJ3 := Aside0.mk hJ3
    have HK3 := Aside0.mk hk3
    clear hJ3 hk3
    gi_wp2
    go_roundw
    case rel => exact ⟨k + q2, pre ++ [(k, (q1 : Int))], hmk, by go_num, HJ3, HP2, ⟨(hbl.out.drewN md).trans HK3.out⟩⟩
    case measure => simp [intOf]; omega
   ·have HJx3 := Aside0.mk hJx3
    clear hJx3
    gi_wp2
    refine bodyPost_ret (results_none rfl _ _ _) rfl ?_
    exact ⟨⟨_, rfl⟩, .inr ⟨pre ++ [(k, (q1 : Int))], ⟨_, HP2.out⟩, HJx3.out⟩⟩
  ·obtain rfl : k = bs.length := by omega
   gi_wp2
   go_end0
   exact ⟨⟨_, rfl⟩, .inl ⟨pre, by have := hpre.out; simpa [pcs_nil] using this, hJ.out⟩⟩

theorem all_stops (hrd : ReadTells) (n : Nat) (hn : 1 ≤ n) (Bb m0 n0 : Nat) (A : Option Addr) (cap : Nat) (bs : List UInt8) (hlen : bs.length ≤ 140737488355328) (hcap : bs.length ≤ cap) (w : World)
  (hBb : m0 ≤ Bb ∧ Bb < n0) (hn0 : n0 ≤ w.heap.size) (hbox : w.cell? ⟨Bb, 0, none⟩ = some (.slice A bs.length cap)) (hby : BytesAt m0 n0 w A (zs bs)) :
  SeqStopsK Fence.wide n Tryd.prog 77 #[.pointer (some ⟨Bb, 0, none⟩)] (fun x : Nat × Int => #[Value.int .i64 (x.1 : Nat), Value.int .i32 x.2]) (Mid m0 n0) (fun ys => ys = pcs 0 bs) (fun pre => pre <+: pcs 0 bs) (pcs 0 bs).length w :=
 fun l J Jx W hW hJ _ hY h0 => all1_in hrd n hn l Bb m0 n0 A cap bs hlen hcap J Jx (fun s W1 W2 hs hb => hJ s W1 W2 none hs (grown_of_below hb none) (fun r e => by cases e)) hY W hBb
  ((hW.cell (p := ⟨Bb, 0, none⟩) (by show Bb < _; omega)).trans hbox) (hby.mid (Mid.below (hW.mono hn0))) h0
end Go.Proofs.YthmbbkbmlnaghaaDoor.P
end
section
/-
 utf.read, in plain Lean: what the printed function tells is 'rdL'.
-/
namespace Go.Proofs.YthmbbkbmlnaghaaDoor.P
open Go.RowKit Go.Proofs.YthmbbkbmlnaghaaDoorW.PrintWords Go.Proofs.YthmbbkbmlnaghaaDoorW.PrintLast Go.Proofs.YthmbbkbmlnaghaaDoorW.PrintMore
set_option linter.unusedVariables false
set_option linter.unusedSimpArgs false

def bdN (b : Nat) : Int × Int × Int :=
 if b < 128 then (0, 0, 0) else if b < 194 then (-1, 0, 0) else if b < 224 then (1, 128, 191) else if b = 224 then (2, 160, 191)
 else if b = 237 then (2, 128, 159) else if b < 240 then (2, 128, 191) else if b = 240 then (3, 144, 191) else if b < 244 then (3, 128, 191)
 else if b = 244 then (3, 128, 143) else (-1, 0, 0)
theorem bd_all : ∀ b : Fin 256, utf_bounds.f 9 ((b.val : Nat) : Int) = some (bdN b.val) := by decide +kernel
theorem and_all : ∀ b : Fin 256, Go.bits .and .u8 ((b.val : Nat) : Int) 63 = ((b.val % 64 : Nat) : Int) := by decide +kernel
theorem and_1 : ∀ b : Fin 256, Go.bits .and .i32 (wrap32 ((b.val : Nat) : Int)) (shr .i32 63 1) = ((b.val % 32 : Nat) : Int) := by decide +kernel
theorem and_2 : ∀ b : Fin 256, Go.bits .and .i32 (wrap32 ((b.val : Nat) : Int)) (shr .i32 63 2) = ((b.val % 16 : Nat) : Int) := by decide +kernel
theorem and_3 : ∀ b : Fin 256, Go.bits .and .i32 (wrap32 ((b.val : Nat) : Int)) (shr .i32 63 3) = ((b.val % 8 : Nat) : Int) := by decide +kernel

theorem i32_or_nat (a b : Nat) (ha : a < 2147483648) (hb : b < 2147483648) : Go.bits .or .i32 (a : Int) (b : Int) = ((a ||| b : Nat) : Int) := by
 have hab : a ||| b < 2147483648 := Nat.or_lt_two_pow (n := 31) ha hb
 have e : (BitVec.ofInt 32 (a : Int) ||| BitVec.ofInt 32 (b : Int)).toNat = a ||| b := by
  rw [BitVec.toNat_or, Go.ofInt_u32 a (by omega), Go.ofInt_u32 b (by omega)]
 have e0 : Go.bits .or .i32 (a : Int) (b : Int) = IntKind.i32.wrap (((BitVec.ofInt 32 (a : Int) ||| BitVec.ofInt 32 (b : Int)).toNat : Nat) : Int) := rfl
 rw [e0, e, i32_w]
 unfold wrap32
 omega
theorem or_add (x y : Nat) (hy : y < 64) : (x * 64) ||| y = x * 64 + y := nat_join 6 _ _ (by omega) (by simpa using hy)
theorem orL (x b : Nat) (hx : x < 33554432) (hb : b < 256) :
  Go.bits .or .i32 (wrap32 ((x : Int) * 64)) (wrap32 (Go.bits .and .u8 (b : Int) 63)) = ((x * 64 + b % 64 : Nat) : Int) := by
 have h1 := and_all ⟨b, hb⟩
 simp only at h1
 rw [h1]
 have e1 : wrap32 ((x : Int) * 64) = ((x * 64 : Nat) : Int) := by unfold wrap32; omega
 have e2 : wrap32 ((b % 64 : Nat) : Int) = ((b % 64 : Nat) : Int) := by unfold wrap32; omega
 rw [e1, e2, i32_or_nat _ _ (by omega) (by omega), or_add _ _ (by omega)]
theorem rd_zs (l : List UInt8) (i : Nat) : rd (zs l) (i : Int) = ((l.getD i 0).toNat : Int) := by
 unfold rd zs
 simp only [Int.toNat_natCast, List.getD_eq_getElem?_getD, List.getElem?_map]
 cases l[i]? <;> simp

theorem l0_go (k : Nat) (l : List UInt8) (m lo hi x i : Nat) (hi' : i ≤ l.length) (hi4 : i ≤ 4) (hm : m ≤ 4) (hx : x < 33554432) :
  utf_read.l0 (k + 1) (zs l) m lo hi x i = if m < i then some ((x : Int), ((m + 1 : Nat) : Int), 0) else if i = l.length then some (65533, (i : Int), 2)
   else if (l.getD i 0).toNat < lo then some (65533, (i : Int), 1) else if hi < (l.getD i 0).toNat then some (65533, (i : Int), 1)
   else utf_read.l0 k (zs l) m (128 : Nat) (191 : Nat) ((x * 64 + (l.getD i 0).toNat % 64 : Nat) : Int) ((i + 1 : Nat) : Int) := by
 rw [utf_read.l0, rd_zs, zs_length, orL x _ hx (UInt8.toNat_lt _)]
 have e1 : wrap64 ((i : Int) + 1) = ((i + 1 : Nat) : Int) := by unfold wrap64; omega
 have e2 : wrap64 ((m : Int) + 1) = ((m + 1 : Nat) : Int) := by unfold wrap64; omega
 rw [e1, e2]
 by_cases c1 : m < i
 ·rw [if_neg (by omega), if_pos c1]
 rw [if_pos (by omega), if_neg c1]
 by_cases c2 : i = l.length
 ·rw [if_pos (by omega), if_pos c2]
 rw [if_neg (by omega), if_neg c2, if_pos (by omega), if_pos (by omega)]
 by_cases c3 : (l.getD i 0).toNat < lo
 ·rw [if_pos (by omega), if_pos c3]
 rw [if_neg (by omega), if_neg c3]
 by_cases c4 : hi < (l.getD i 0).toNat
 ·rw [if_pos (by omega), if_pos c4]
 rw [if_neg (by omega), if_neg c4]
 rfl

theorem read_tells : ReadTells := by
 intro l hne
 refine ⟨9, ?_⟩
 have hl : 0 < l.length := List.length_pos_iff.2 hne
 have q0 := (l.getD 0 0).toNat_lt
 have q1 := (l.getD 1 0).toNat_lt
 have q2 := (l.getD 2 0).toNat_lt
 have q3 := (l.getD 3 0).toNat_lt
 have hb := bd_all ⟨_, q0⟩
 have h1 := and_1 ⟨_, q0⟩
 have h2 := and_2 ⟨_, q0⟩
 have h3 := and_3 ⟨_, q0⟩
 simp only at hb h1 h2 h3
 have e0 : rd (zs l) 0 = ((l.getD 0 0).toNat : Int) := rd_zs l 0
 unfold utf_read.f
 rw [zs_length, if_pos (by omega), e0, hb]
 show (if (bdN _).1 < 0 then _ else _) = _
 unfold rdL rdN
 by_cases c0 : (l.getD 0 0).toNat < 128
 ·have eb : bdN (l.getD 0 0).toNat = (0, 0, 0) := by unfold bdN; rw [if_pos c0]
  rw [eb, if_pos c0, if_neg (by decide), if_pos rfl]
  have : wrap32 (((l.getD 0 0).toNat : Nat) : Int) = ((l.getD 0 0).toNat : Int) := by unfold wrap32; omega
  rw [this]
  rfl
 rw [if_neg c0]
 by_cases c1 : (l.getD 0 0).toNat < 194
 ·have eb : bdN (l.getD 0 0).toNat = (-1, 0, 0) := by unfold bdN; rw [if_neg c0, if_pos c1]
  rw [eb, if_pos c1, if_pos (by decide)]
  rfl
 rw [if_neg c1]
 by_cases c2 : (l.getD 0 0).toNat < 224
 ·have eb : bdN (l.getD 0 0).toNat = (1, 128, 191) := by unfold bdN; rw [if_neg c0, if_neg c1, if_pos c2]
  rw [eb, if_pos c2, if_neg (by decide), if_neg (by decide), if_pos (by decide), h1]
  have g := l0_go 8 l 1 128 191 ((l.getD 0 0).toNat % 32) 1 (by omega) (by omega) (by omega) (by omega)
  refine Eq.trans g ?_
  rw [if_neg (by omega)]
  by_cases d1 : l.length ≤ 1
  ·rw [if_pos (by omega), if_pos d1]; rfl
  rw [if_neg (by omega), if_neg d1]
  by_cases d2 : (l.getD 1 0).toNat < 128
  ·rw [if_pos d2, if_pos (by omega)]; rfl
  rw [if_neg d2]
  by_cases d3 : 191 < (l.getD 1 0).toNat
  ·rw [if_pos d3, if_pos (by omega)]; rfl
  rw [if_neg d3, if_neg (by omega), l0_go 7 l 1 128 191 _ 2 (by omega) (by omega) (by omega) (by omega), if_pos (by omega)]
  rfl
 rw [if_neg c2]
 by_cases c3 : (l.getD 0 0).toNat < 240
 ·obtain ⟨lo, hi, eb, hlh⟩ : ∃ lo hi : Nat, bdN (l.getD 0 0).toNat = (2, (lo : Int), (hi : Int)) ∧
    (((l.getD 1 0).toNat < lo ∨ hi < (l.getD 1 0).toNat) ↔ ((l.getD 1 0).toNat < 128 ∨ 191 < (l.getD 1 0).toNat ∨ ((l.getD 0 0).toNat = 224 ∧ (l.getD 1 0).toNat < 160) ∨ ((l.getD 0 0).toNat = 237 ∧ 159 < (l.getD 1 0).toNat))) := by
   unfold bdN
   rw [if_neg c0, if_neg c1, if_neg c2]
   by_cases f1 : (l.getD 0 0).toNat = 224
   ·exact ⟨160, 191, by rw [if_pos f1]; rfl, by omega⟩
   by_cases f2 : (l.getD 0 0).toNat = 237
   ·exact ⟨128, 159, by rw [if_neg f1, if_pos f2]; rfl, by omega⟩
   exact ⟨128, 191, by rw [if_neg f1, if_neg f2, if_pos c3]; rfl, by omega⟩
  rw [eb, if_pos c3, if_neg (show ¬ ((2 : Int) < 0) by decide), if_neg (show ¬ ((2 : Int) = 0) by decide), if_pos (show (0 : Int) ≤ 2 by decide), h2]
  have g := l0_go 8 l 2 lo hi ((l.getD 0 0).toNat % 16) 1 (by omega) (by omega) (by omega) (by omega)
  refine Eq.trans g ?_
  rw [if_neg (by omega)]
  by_cases d1 : l.length ≤ 1
  ·rw [if_pos (by omega), if_pos d1]; rfl
  rw [if_neg (by omega), if_neg d1]
  by_cases d2 : (l.getD 1 0).toNat < lo
  ·rw [if_pos d2, if_pos (hlh.1 (.inl d2))]; rfl
  rw [if_neg d2]
  by_cases d3 : hi < (l.getD 1 0).toNat
  ·rw [if_pos d3, if_pos (hlh.1 (.inr d3))]; rfl
  rw [if_neg d3, if_neg (fun h => (hlh.2 h).elim d2 d3), l0_go 7 l 2 128 191 _ 2 (by omega) (by omega) (by omega) (by omega), if_neg (by omega)]
  by_cases d4 : l.length ≤ 2
  ·rw [if_pos (by omega), if_pos d4]; rfl
  rw [if_neg (by omega), if_neg d4]
  by_cases d5 : (l.getD 2 0).toNat < 128
  ·rw [if_pos d5, if_pos (by omega)]; rfl
  rw [if_neg d5]
  by_cases d6 : 191 < (l.getD 2 0).toNat
  ·rw [if_pos d6, if_pos (by omega)]; rfl
  rw [if_neg d6, if_neg (by omega), l0_go 6 l 2 128 191 _ 3 (by omega) (by omega) (by omega) (by omega), if_pos (by omega)]
  refine congrArg some (Prod.ext ?_ rfl)
  show (_ : Int) = ((_ : Nat) : Int)
  omega
 rw [if_neg c3]
 by_cases c4 : (l.getD 0 0).toNat < 245
 ·obtain ⟨lo, hi, eb, hlh⟩ : ∃ lo hi : Nat, bdN (l.getD 0 0).toNat = (3, (lo : Int), (hi : Int)) ∧
    (((l.getD 1 0).toNat < lo ∨ hi < (l.getD 1 0).toNat) ↔ ((l.getD 1 0).toNat < 128 ∨ 191 < (l.getD 1 0).toNat ∨ ((l.getD 0 0).toNat = 240 ∧ (l.getD 1 0).toNat < 144) ∨ ((l.getD 0 0).toNat = 244 ∧ 143 < (l.getD 1 0).toNat))) := by
   unfold bdN
   rw [if_neg c0, if_neg c1, if_neg c2, if_neg (by omega : ¬ (l.getD 0 0).toNat = 224), if_neg (by omega : ¬ (l.getD 0 0).toNat = 237), if_neg c3]
   by_cases f1 : (l.getD 0 0).toNat = 240
   ·exact ⟨144, 191, by rw [if_pos f1]; rfl, by omega⟩
   by_cases f2 : (l.getD 0 0).toNat < 244
   ·exact ⟨128, 191, by rw [if_neg f1, if_pos f2]; rfl, by omega⟩
   exact ⟨128, 143, by rw [if_neg f1, if_neg f2, if_pos (by omega)]; rfl, by omega⟩
  rw [eb, if_pos c4, if_neg (show ¬ ((3 : Int) < 0) by decide), if_neg (show ¬ ((3 : Int) = 0) by decide), if_pos (show (0 : Int) ≤ 3 by decide), h3]
  have g := l0_go 8 l 3 lo hi ((l.getD 0 0).toNat % 8) 1 (by omega) (by omega) (by omega) (by omega)
  refine Eq.trans g ?_
  rw [if_neg (by omega)]
  by_cases d1 : l.length ≤ 1
  ·rw [if_pos (by omega), if_pos d1]; rfl
  rw [if_neg (by omega), if_neg d1]
  by_cases d2 : (l.getD 1 0).toNat < lo
  ·rw [if_pos d2, if_pos (hlh.1 (.inl d2))]; rfl
  rw [if_neg d2]
  by_cases d3 : hi < (l.getD 1 0).toNat
  ·rw [if_pos d3, if_pos (hlh.1 (.inr d3))]; rfl
  rw [if_neg d3, if_neg (fun h => (hlh.2 h).elim d2 d3), l0_go 7 l 3 128 191 _ 2 (by omega) (by omega) (by omega) (by omega), if_neg (by omega)]
  by_cases d4 : l.length ≤ 2
  ·rw [if_pos (by omega), if_pos d4]; rfl
  rw [if_neg (by omega), if_neg d4]
  by_cases d5 : (l.getD 2 0).toNat < 128
  ·rw [if_pos d5, if_pos (by omega)]; rfl
  rw [if_neg d5]
  by_cases d6 : 191 < (l.getD 2 0).toNat
  ·rw [if_pos d6, if_pos (by omega)]; rfl
  rw [if_neg d6, if_neg (by omega), l0_go 6 l 3 128 191 _ 3 (by omega) (by omega) (by omega) (by omega), if_neg (by omega)]
  by_cases d7 : l.length ≤ 3
  ·rw [if_pos (by omega), if_pos d7]; rfl
  rw [if_neg (by omega), if_neg d7]
  by_cases d8 : (l.getD 3 0).toNat < 128
  ·rw [if_pos d8, if_pos (by omega)]; rfl
  rw [if_neg d8]
  by_cases d9 : 191 < (l.getD 3 0).toNat
  ·rw [if_pos d9, if_pos (by omega)]; rfl
  rw [if_neg d9, if_neg (by omega), l0_go 5 l 3 128 191 _ 4 (by omega) (by omega) (by omega) (by omega), if_pos (by omega)]
  refine congrArg some (Prod.ext ?_ rfl)
  show (_ : Int) = ((_ : Nat) : Int)
  omega
 ·have eb : bdN (l.getD 0 0).toNat = (-1, 0, 0) := by
   unfold bdN
   rw [if_neg c0, if_neg c1, if_neg c2, if_neg (by omega), if_neg (by omega), if_neg c3, if_neg (by omega), if_neg (by omega), if_neg (by omega)]
  rw [eb, if_neg c4, if_pos (by decide)]
  rfl
end Go.Proofs.YthmbbkbmlnaghaaDoor.P
end
section
/-
 utf.Runes: the runes of bytes: a loop over the iterator that collects.
-/
namespace Go.Proofs.YthmbbkbmlnaghaaDoor.P
open Go.RowKit Go.Shelf Go.Proofs.YthmbbkbmlnaghaaDoorW.PrintWords Go.Proofs.YthmbbkbmlnaghaaDoorW.PrintLast Go.Proofs.YthmbbkbmlnaghaaDoorW.PrintMore
set_option linter.unusedVariables false
set_option linter.unusedSimpArgs false
attribute [local go_sem] Oper.semAt_some

theorem mid_append {m0 n0 B : Nat} {W w1 : World} {e : TypeId} {v v' : Value} {k : Nat} {xs : List Value} {tmp : Obj} (hB : B < m0) (hn0 : n0 ≤ W.heap.size) (hrow : W.ownsRow n0 e 1 v k xs)
  (hgrow : (W.alloc tmp).grownBy w1 v.ownBlock) : Mid m0 n0 W (w1.setCell ⟨B, 0, none⟩ v') := by
 refine ((Mid.below ((Below.refl n0 W).alloc hn0 tmp)).trans (Mid.grown hgrow (by simp; omega) (fun r hr => .inr (own_base hrow r hr)))).trans ?_
 intro i h1 h2
 exact Below.heap_setCell _ _ _ i (by show i ≠ B; omega)

set_option maxRecDepth 100000 in
set_option maxHeartbeats 4000000 in
theorem utf_Runes_calls (hrd : ReadTells) (A : Option Addr) (c0 : Nat) (bs : List UInt8) (w : World) (hr : Kd.C (Kd.int .u8) w A (zs bs).length (zs bs)) (hlen : bs.length ≤ 35184372088831) :
  Calls Tryd.prog 44 #[.slice A (zs bs).length c0] w fun e w' => ∃ v : Value, e = .returned v ∧ w'.ownsRow w.heap.size 21 1 v (runes bs).length (nums .i32 (runes bs)) ∧ Below w.heap.size w w' := by
 have HR := Aside0.mk hr
 have HRD := Aside0.mk hrd
 have hzl : (zs bs).length = bs.length := zs_length bs
 have HZL := Aside0.mk hzl
 have hpl : ∀ n (l : List UInt8) p, l.length ≤ n → (pcs p l).length ≤ l.length := by
  intro n
  induction n with
  | zero =>
   intro l p h
   obtain rfl : l = [] := List.eq_nil_of_length_eq_zero (by omega)
   simp [pcs_nil]
  | succ n ih =>
   intro l p h
   by_cases hne : l = []
   ·subst hne; simp [pcs_nil]
   ·have hw := (rdL_facts l hne).1
    have hl : 0 < l.length := List.length_pos_iff.2 hne
    rw [pcs_step p l hne]
    have := ih (l.drop (rdL l).2.1) (p + (rdL l).2.1) (by rw [List.length_drop]; omega)
    rw [List.length_drop] at this
    simp only [List.length_cons]
    omega
 have HPL := Aside0.mk (hpl _ bs 0 (Nat.le_refl _))
 clear hr hrd hzl hpl
 obtain ⟨i0, hi, hz0, hz1, hz2⟩ := info_parts info21
 refine (callsIn_wide (n := 4)).1 ?_
 refine callsIn_of_wp_marks Tryd.func44 rfl trivial ?_ rfl
 simp only [Tryd.ntmps44, List.size_toArray, List.length_cons, List.length_nil, Nat.reduceAdd, Nat.reduceSub, Array.replicate_succ, Array.replicate_zero, List.push_toArray, List.append_toArray, List.nil_append, List.cons_append]
 generalize hL : zs bs = L at HR HZL ⊢
 have HL := Aside0.mk hL
 clear hL
 gi_wp2_with (refine ⟨trivial, ?_⟩; gi_at_call 60; refine (callsIn_wide.2 (utf_All_calls A c0 L _ (Kd.C_alloc HR.out _) (by have := HZL.out; omega))).mono ?_; rintro e w1 ⟨rfl, ⟨v, hbox, hR⟩, hB⟩)
 simp only [World.size_alloc] at hbox hR hB ⊢
 obtain ⟨A', cap', rfl⟩ := Kd.R_slice hR
 have hR' := BytesAt.of_R hR
 have hbO : Boxed w1 w.heap.size 44 (.slice none 0 0) := (hB.block w.heap.size (by omega)).trans (heap_alloc_new w _)
 have hB0 : Below w.heap.size w w1 := ((Below.refl _ w).alloc (Nat.le_refl _) _).trans (hB.mono (by omega))
 have hbN : w1.cell? ⟨w.heap.size + 1, 0, none⟩ = some (.slice A' L.length cap') := (blk_cell hbox 0).trans rfl
 have hsz : w.heap.size + 1 < w1.heap.size := (Array.getElem?_eq_some_iff.1 hbox).1
 rw [HZL.out] at hbN hR'
 clear hR hbox
 have hBY : BytesAt (w.heap.size + 1) w1.heap.size w1 A' (zs bs) := by rw [HL.out]; exact hR'.1
 have hcap' := hR'.2
 clear hR'
 generalize hn0 : w1.heap.size = n0 at hsz hBY
 have HN0 := Aside0.mk hn0
 clear hn0
 refine wpIn_rangeFunc_ownG rfl (by omega) (gf := 77) (lb := #[.pointer (some ⟨w.heap.size + 1, 0, none⟩)]) rfl trivial (enters_of Tryd.func77 (by kernel_rfl) rfl)
  (all_stops HRD.out _ (by omega) (w.heap.size + 1) (w.heap.size + 1) n0 A' cap' bs (by omega) hcap' w1 ⟨Nat.le_refl _, hsz⟩ (by rw [HN0.out]; exact Nat.le_refl _) hbN hBY) Mid.trans
  (fun W l o o' hl h _ _ => Mid.putObj (by rw [← HN0.out]; exact hl) h) (Below.refl _ _) (fun _ => rfl)
  (fun pre W => (∃ v, Boxed W w.heap.size 44 v ∧ W.ownsRow n0 21 1 v pre.length (pre.map fun p => Value.int .i32 p.2) ∧ True) ∧ (Below w.heap.size w W ∧ n0 ≤ W.heap.size))
  (fun _ _ _ => False)
  (OwnFrom.and (Own.from (holdsRow_own n0 w.heap.size 44 21 1 (fun pre : List (Nat × Int) => pre.length) (fun pre => pre.map fun p => Value.int .i32 p.2) (fun _ _ => True)) _) (OwnFrom.and (ownFrom_below (Nat.le_refl _) (by rw [HN0.out]; omega)) (fun _ _ _ _ hs hg _ => Nat.le_trans hs hg.size)))
  (fun _ _ _ _ _ hs _ _ => hs)
  ⟨⟨_, hbO, World.ownsRow_nil _ _ _ _, trivial⟩, hB0, by rw [HN0.out]; exact Nat.le_refl _⟩
  (fun x => { tmps := #[.slice A L.length c0, undef, .slice none 0 0, .pointer (some ⟨w.heap.size, 0, none⟩), undef, .int .i32 x.2, .slice A L.length c0, .func (.func 77) #[] #[.pointer (some ⟨w.heap.size + 1, 0, none⟩)], .int .i64 (x.1 : Nat), .int .i32 x.2, undef, undef, undef, undef, undef], defers := [] }) ?assign ?body ?done ?stop
 case assign =>
  intro l x W K hK
  gi_wp2
  exact hK
 case body =>
  rintro l pre x W ⟨⟨v, hv, hrow, _⟩, hB, hn0W⟩ hlt
  have hplm := HPL.out
  have hc := hv.cell
  have hrow' := own_less hrow (show w.heap.size ≤ n0 by omega)
  gi_wp2_with (gi_at_builtin; refine wpListIn_append_own _ rfl _ _ 44 rfl n0 21 i0 (.int .i32 0) 1 4 Tryd.underlying44 hi hz0 hz1 hz2 rfl (by decide) _ _ _ rfl (hrow.alloc _) ⟨W.heap.size, 0, none⟩ 1 1 [.int .i32 x.2] rfl rfl (cell_one_new _ _ _) (by simp [Value.oneCell']) (by simp only [maxLen]; omega) (by omega) (by simp; omega) ?_; intro v' w2 hown' hgrow _; obtain ⟨g', cap2, rfl⟩ := ownsRow_succ hown'; obtain ⟨hv1, hv2, hr2, hk2, hb2⟩ := hv.appended (by decide) hrow' (by have := hB.size; omega) (Nat.le_refl _) (own_less hown' (show w.heap.size ≤ n0 by omega)) hgrow; have hc1 := hv1.cell; have hf1 := hv1.frozen)
  have hmid := mid_append (m0 := w.heap.size + 1) (B := w.heap.size) (e := 21) (v' := .slice (some ⟨g', 0, none⟩) (pre.length + 1) cap2) (by omega) hn0W hrow hgrow
  have hr3 := hown'.kept (grownBy_setCell' w2 w.heap.size (.slice (some ⟨g', 0, none⟩) (pre.length + 1) cap2)) (.inr (hv1.not_row (by decide) hown').symm)
  exact ⟨hk2.from _, hmid, ⟨_, hv2, by simpa using hr3, trivial⟩, hB.trans hb2, Nat.le_trans hn0W hb2.size⟩
 case done =>
  rintro D ys W hD rfl ⟨⟨v, hv, hrow, _⟩, hB, _⟩ hK
  have hc := hv.cell
  gi_wp2
  refine ⟨by simp, .inl ⟨_, _, rfl, run_takeDeferred hK, ?_⟩⟩
  refine ⟨_, results_tmp rfl _ _ _, v, rfl, ?_, hB.trans (belowK_b (w := w) (Nat.le_refl _) W D _ _ (by rw [HN0.out] at hD; omega) hK rfl rfl)⟩
  have := ownsRow_putObj (own_less hrow (show w.heap.size ≤ n0 by omega)) (.deferred none) hK rfl
  have e1 := pcs_runes _ bs 0 (Nat.le_refl _)
  rw [← e1]
  simpa [nums, List.map_map, Function.comp_def] using this
 case stop =>
  rintro D c pre W _ _ h _
  exact h.elim
end Go.Proofs.YthmbbkbmlnaghaaDoor.P
end
section
/-
 utf.Mend: a text of valid bytes alone.
-/
namespace Go.Proofs.YthmbbkbmlnaghaaDoor.P
open Go.RowKit Go.Proofs.YthmbbkbmlnaghaaDoorW.PrintWords Go.Proofs.YthmbbkbmlnaghaaDoorW.PrintLast Go.Proofs.YthmbbkbmlnaghaaDoorW.PrintMore
set_option linter.unusedVariables false
set_option linter.unusedSimpArgs false

/-! ### plain -/
/-- what the loop of utf.Mend asks at the head of bytes, by the model's own decode -/
def badL (l : List UInt8) : Bool := decide ((Lib.decodeL l).1 = 65533) && (decide (l.length < 3) || decide (l.take 3 ≠ [239, 191, 189]))
theorem enc_fffd : Lib.encodeRune ((65533 : Nat) : Int) = [239, 191, 189] := by decide +kernel
theorem badL_of (l : List UInt8) (hne : l ≠ []) : badL l = decide ((rdL l).2.2 ≠ 0) := by
 have hd := rdL_decode l hne
 have hf := rdL_facts l hne
 unfold badL
 by_cases h : (rdL l).2.2 = 0
 ·rw [if_pos h] at hd
  rw [hd]
  have hw := rdL_whole l h hne
  by_cases h1 : (rdL l).1 = 65533
  ·rw [h1, enc_fffd] at hw
   have e3 : l.take 3 = [239, 191, 189] := by rw [hw]; simp
   have el : ¬ l.length < 3 := by rw [hw]; simp
   simp [h, h1, e3, el]
  ·simp [h, h1]
 ·rw [if_neg h] at hd
  rw [hd]
  have : ¬ (3 ≤ l.length ∧ l.take 3 = [239, 191, 189]) := by
   rintro ⟨h3, ht⟩
   apply h
   have e : l = [239, 191, 189] ++ l.drop 3 := by rw [← ht, List.take_append_drop]
   rw [e]
   unfold rdL
   simp only [List.cons_append, List.nil_append, List.getD_cons_zero, List.getD_cons_succ]
   unfold rdN
   rw [List.length_cons, List.length_cons, List.length_cons]
   simp
  by_cases h3 : l.length < 3
  ·simp [h, h3]
  ·have : l.take 3 ≠ [239, 191, 189] := fun e => this ⟨by omega, e⟩
   simp [h, this]
theorem valid_dec (l : List UInt8) (hne : l ≠ []) : valid l = if badL l = true then false else valid (l.drop (Lib.decodeL l).2) := by
 rw [valid_step l hne, badL_of l hne, rdL_decode l hne]
 by_cases h : (rdL l).2.2 = 0
 ·simp [h]
 ·simp [h]

def mendS (s : ByteArray) : ByteArray := if valid s.data.toList = true then s else Hc_text (runes s.data.toList)

def utf_Mend.f (s : ByteArray) : Option ByteArray := if s.size ≤ 35184372088831 then some (mendS s) else none

theorem take3_extract (s : ByteArray) (pos : Nat) : (s.extract pos (pos + 3)).toList = (s.data.toList.drop pos).take 3 := by
 rw [Lib.extract_toList]
 congr 1
 omega

set_option maxRecDepth 100000 in
set_option maxHeartbeats 4000000 in
theorem utf_Mend.calls (s : ByteArray) (r : ByteArray) (w : World) (h : utf_Mend.f s = some r) :
  Calls Tryd.prog 24 #[.string s] w fun e w' => e = .returned (.string r) ∧ Below w.heap.size w w' := by
 unfold utf_Mend.f at h
 by_cases hsz : s.size ≤ 35184372088831
 case neg => rw [if_neg hsz] at h; cases h
 rw [if_pos hsz] at h
 have hr := Option.some.inj h
 clear h
 have HR := Aside0.mk hr
 clear hr
 go_enter Tryd.func24, Tryd.ntmps24
 go_wp2
 go_loopw [3] (fun v wr => ∃ (pos : Nat) (b : Bool), v = .bool b ∧ pos ≤ s.size ∧ Aside0 ((b && valid (s.data.toList.drop pos)) = valid s.data.toList) ∧ wr.heap[w.heap.size]? = some (.stringIter s pos) ∧ Below w.heap.size w wr) (fun _ wr => s.size - wr.iterPos w.heap.size)
 case atStart =>
  refine ⟨0, true, rfl, Nat.zero_le _, ⟨by simp⟩, ?_, ?_⟩
  ·have := World.iter_heap w s 0
   simpa using this
  ·exact (Below.refl _ w).alloc (Nat.le_refl _) _
 case round =>
  obtain ⟨pos, b, rfl, hpl, hv, hit, hbw⟩ := hrel
  have hlt0 : w.heap.size < wr.heap.size := (Array.getElem?_eq_some_iff.1 hit).1
  by_cases hp : pos < s.size
  ·have hnx : ∀ ty, (Instr.next (.pointer (some ⟨w.heap.size, 0, none⟩)) true ty).run Tryd.prog wr = _ := fun ty => Lib.run_next_any_at wr w.heap.size s pos ty hit hp
   have hd1 := decode_le s pos
   have hwd : 1 ≤ (Utf8.decode s pos).2 := by
    by_cases ha : (s[pos]'hp).toNat < 128
    ·rw [decode_ascii s pos hp ha]
     exact Nat.le_refl _
    ·exact (decode_high s pos hp (by omega)).2
   have hne : s.data.toList.drop pos ≠ [] := by
    intro e
    have := congrArg List.length e
    simp at this
    have h2 : s.data.size = s.size := rfl
    omega
   have hlen : (s.data.toList.drop pos).length = s.size - pos := by simp
   have hvd := valid_dec _ hne
   rw [Lib.decodeL_drop, List.drop_drop] at hvd
   have hbd : badL (s.data.toList.drop pos) = (decide ((Utf8.decode s pos).1 = 65533) && (decide (s.size - pos < 3) || decide ((s.extract pos (pos + 3)).toList ≠ [239, 191, 189]))) := by
    unfold badL
    rw [Lib.decodeL_drop, hlen, take3_extract]
   have hit2 := Lib.iterAt_heap wr w.heap.size s pos (pos + (Utf8.decode s pos).2) hit
   have hbw2 := Lib.below_iterAt hbw (k := w.heap.size) (by omega) s (pos + (Utf8.decode s pos).2)
   have hps : pos + (Utf8.decode s pos).2 ≤ s.size := by
    have h1 := rdL_decode _ hne
    rw [Lib.decodeL_drop] at h1
    have h2 := rdL_facts _ hne
    have h3 := h2.2.1
    rw [hlen] at h3
    rw [h1]
    split <;> simp only <;> omega
   rw [hbd] at hvd
   have HVD := Aside0.mk hvd
   clear hvd hbd hlen hne
   have hme : s.size - (wr.iterAt w.heap.size s (pos + (Utf8.decode s pos).2)).iterPos w.heap.size < s.size - wr.iterPos w.heap.size := by
    simp only [World.iterPos, hit2, hit]
    omega
   have HME := Aside0.mk hme
   clear hme hwd
   by_cases h1 : (Utf8.decode s pos).1 = 65533
   ·by_cases h2 : s.size - pos < 3
    ·have hw : IntKind.i64.wrap ((s.size : Int) - (pos : Int)) = (s.size : Int) - (pos : Int) := IntWalk.i64_in _ (by omega)
     have hlt3 : decide ((s.size : Int) - (pos : Int) < 3) = true := decide_eq_true (by omega)
     have hvf : valid (s.data.toList.drop pos) = false := by rw [HVD.out]; simp [h1, h2]
     have HVF := Aside0.mk hvf
     clear hvf
     go_wp2
     refine ⟨⟨_, false, rfl, hps, ⟨?_⟩, hit2, hbw2⟩, HME.out⟩
     rw [← hv.out, HVF.out]
     simp
    ·have hw : IntKind.i64.wrap ((s.size : Int) - (pos : Int)) = (s.size : Int) - (pos : Int) := IntWalk.i64_in _ (by omega)
     have hlt3 : decide ((s.size : Int) - (pos : Int) < 3) = false := decide_eq_false (by omega)
     have hw3 : IntKind.i64.wrap ((pos : Int) + 3) = (pos : Int) + 3 := IntWalk.i64_in _ (by omega)
     have k1 : ((0 : Int) ≤ (pos : Int)) = True := eq_true (by omega)
     have k2 : ((pos : Int) ≤ (pos : Int) + 3) = True := eq_true (by omega)
     have k3 : ((pos : Int) + 3 ≤ (s.size : Int)) = True := eq_true (by omega)
     have k4 : ((pos : Int) + 3).toNat = pos + 3 := by omega
     by_cases h3 : (s.extract pos (pos + 3)).toList = [239, 191, 189]
     ·have hvf : valid (s.data.toList.drop pos) = valid (s.data.toList.drop (pos + (Utf8.decode s pos).2)) := by rw [HVD.out]; simp [h1, h2, h3]
      have HVF := Aside0.mk hvf
      clear hvf
      go_wp2
      refine ⟨⟨_, b, rfl, hps, ⟨?_⟩, hit2, hbw2⟩, HME.out⟩
      rw [← hv.out, HVF.out]
     ·have hvf : valid (s.data.toList.drop pos) = false := by rw [HVD.out]; simp [h1, h2, h3]
      have HVF := Aside0.mk hvf
      clear hvf
      have h3b : ((s.extract pos (pos + 3)).toList == [239, 191, 189]) = false := beq_eq_false_iff_ne.2 h3
      go_wp2
      refine ⟨⟨_, false, rfl, hps, ⟨?_⟩, hit2, hbw2⟩, HME.out⟩
      rw [← hv.out, HVF.out]
      simp
   ·have hvf : valid (s.data.toList.drop pos) = valid (s.data.toList.drop (pos + (Utf8.decode s pos).2)) := by rw [HVD.out]; simp [h1]
    have HVF := Aside0.mk hvf
    clear hvf
    go_wp2
    refine ⟨⟨_, b, rfl, hps, ⟨?_⟩, hit2, hbw2⟩, HME.out⟩
    rw [← hv.out, HVF.out]
  ·obtain rfl : pos = s.size := by omega
   have hnx : ∀ ty, (Instr.next (.pointer (some ⟨w.heap.size, 0, none⟩)) true ty).run Tryd.prog wr = _ := fun ty => Lib.run_next_end_at wr w.heap.size s s.size ty hit hp
   have hvb : b = valid s.data.toList := by
    have := hv.out
    rw [List.drop_eq_nil_of_le (by simp), valid_nil, Bool.and_true] at this
    exact this
   have HVB := Aside0.mk hvb
   clear hvb hv
   cases b with
   | true =>
    have hm := HR.out
    unfold mendS at hm
    rw [if_pos HVB.out.symm] at hm
    subst hm
    go_wp2
    go_ret
    exact ⟨rfl, hbw⟩
   | false =>
    have hnv : ¬ valid s.data.toList = true := by rw [← HVB.out]; simp
    have HM := HR.out
    unfold mendS at HM
    rw [if_neg hnv] at HM
    have HMR := Aside0.mk HM
    clear HM hnv
    have hcv := Lib.run_convert_string_bytes (P := Tryd.prog) wr 9 46 5 s Tryd.underlying9 Tryd.underlying46 Tryd.underlying5
    have hbb := Lib.bytesWorld_below wr 5 s
    have hbs := Lib.bytesWorld_size wr 5 s
    have hrd : Kd.C (Kd.int .u8) (Lib.bytesWorld wr 5 s) (some ⟨wr.heap.size, 0, none⟩) s.size (zs s.data.toList) :=
     Kd.C_of_reads (enc := Value.int .u8) (d := (0 : Int)) (h1 := fun _ => rfl) ⟨by simp [zs], by omega, fun _ => ⟨_, rfl, fun j hj => by
      rw [add_plain, Lib.bytesWorld_cell wr 5 s j hj]
      have := rd_zs s.data.toList j
      unfold rd at this
      rw [Int.toNat_natCast] at this
      rw [this]⟩⟩
    have hz : (zs s.data.toList).length = s.size := by simp [zs]
    rw [← hz] at hrd
    have hcall := utf_Runes_calls read_tells (some ⟨wr.heap.size, 0, none⟩) (Go.grownCap wr s.size 0 5) s.data.toList _ hrd (by simp; omega)
    rw [hz] at hcall
    have HC := Aside0.mk hcall
    have HBB := Aside0.mk hbb
    clear hcall hrd hz hbb
    go_wp2_with (go_at_call 44; refine HC.out.mono ?_; rintro e w2 ⟨v, rfl, hown, hb2⟩; have hcv2 := Hc_own_runes (P := Tryd.prog) (src := 44) (dst := 9) (e := 21) Tryd.underlying44 Tryd.underlying21 Tryd.underlying9 hown)
    go_ret
    have hm := HMR.out
    subst hm
    exact ⟨rfl, hbw.trans ((HBB.out.trans (hb2.mono (by omega))).mono (by omega))⟩
end Go.Proofs.YthmbbkbmlnaghaaDoor.P
end
section
/-
 charref.Decode: every reference replaced.
-/
namespace Go.Proofs.YthmbbkbmlnaghaaDoor.P
open Go.RowKit Go.Shelf Go.Proofs.YthmbbkbmlnaghaaDoorW.PrintWords Go.Proofs.YthmbbkbmlnaghaaDoorW.PrintLast Go.Proofs.YthmbbkbmlnaghaaDoorW.PrintMore
set_option linter.unusedVariables false
set_option linter.unusedSimpArgs false

def charref_Decode.f (k : Nat) (s : ByteArray) (attr : Bool) : Option ByteArray :=
 (utf_Mend.f s).bind fun m => (refsGo attr m k 0).bind fun refs =>
  if m.size ≤ 35184372088831 ∧ (repText id m.data.toList refs).length ≤ 140737488355328 then some ⟨(repText id m.data.toList refs).toArray⟩ else none
theorem Decode1_calls (a : ByteArray) (n : Int) (b : Bool) (w : World) :
  Calls Tryd.prog 25 #[.agg #[.string a, .int .i64 n, .bool b]] w fun e w' => e = .returned (.string (id a)) ∧ Below w.heap.size w w' := by
 have hu60 := Tryd.underlying38
 have HB0 := Aside0.mk (Below.refl w.heap.size w)
 go_enter Tryd.func25, Tryd.ntmps25
 go_wp2_with (first | ((with_reducible refine gate_dst (N := 1) rfl ?_); refine box_event ?hg (N := 1) ?hd (cs := #[.string a, .int .i64 n, .bool b]) (t := 38) ?hr ?_; (case hd => rfl); (case hg => rfl); (case hr => first | (go_simp; done) | (go_simp; rfl)); intro gb hg w5 hbox hb; have HB5 := Aside0.mk (below_step HB0.out hb); have BK5 := Aside0.mk hbox; clear hb hbox hg; have hcg5 : w5.cell? ⟨gb, 0, none⟩ = some (.string a) := (blk_cell BK5.out 0).trans rfl))
 go_ret
 exact ⟨rfl, HB5.out⟩

set_option maxRecDepth 100000 in
set_option maxHeartbeats 2000000 in
theorem charref_Decode.calls (k : Nat) (s : ByteArray) (attr : Bool) (r : ByteArray) (w : World) (h : charref_Decode.f k s attr = some r) :
  Calls Tryd.prog 13 #[.string s, .bool attr] w fun e w' => e = .returned (.string r) ∧ Below w.heap.size w w' := by
 obtain ⟨m, hm, h⟩ := Option.bind_eq_some_iff.1 h
 obtain ⟨refs, hrefs, h⟩ := Option.bind_eq_some_iff.1 h
 by_cases hlen : m.size ≤ 35184372088831 ∧ (repText id m.data.toList refs).length ≤ 140737488355328
 case neg => rw [if_neg hlen] at h; cases h
 rw [if_pos hlen] at h
 have hr := Option.some.inj h
 clear h
 obtain ⟨hms, hlen⟩ := hlen
 have HM := Aside0.mk (utf_Mend.calls s m w hm)
 have HREP := Aside0.mk (fun W => D_replaced_calls k m attr id refs W hms hrefs hlen (fun x _ n b W => Decode1_calls x.2.1 n b W))
 have HR := Aside0.mk hr
 clear hm hrefs hlen hms hr
 go_enter Tryd.func13, Tryd.ntmps13
 go_wp2_with (first | (go_at_call 24; refine HM.out.mono ?_; rintro e w1 ⟨rfl, hb1⟩) | (go_at_call 23; refine (HREP.out w1).mono ?_; rintro e w2 ⟨rfl, hb2⟩))
 go_ret
 exact ⟨by rw [HR.out]; rfl, hb1.trans (hb2.mono hb1.size)⟩
end Go.Proofs.YthmbbkbmlnaghaaDoor.P
end
section
/-
  Decoding in plain Lean: a text decoded, and what is sure of a beginning.
-/
namespace Go.Proofs.YthmbbkbmlnaghaaDoor.P
open Go.RowKit Go.Proofs.YthmbbkbmlnaghaaDoorW.PrintWords Go.Proofs.YthmbbkbmlnaghaaDoorW.PrintLast Go.Proofs.YthmbbkbmlnaghaaDoorW.PrintMore
set_option linter.unusedVariables false
set_option linter.unusedSimpArgs false

/-! ### the whole -/
def dgGo (g : ByteArray → ByteArray) (attr : Bool) : Nat → List UInt8 → List UInt8
  | 0, l => l
  | _ + 1, [] => []
  | n + 1, b :: t => if b = 38 then (if (nextL t attr true).2.1 = 0 then 38 :: dgGo g attr n t else (g (nextL t attr true).1).data.toList ++ dgGo g attr n (t.drop (nextL t attr true).2.1.toNat)) else b :: dgGo g attr n t
def dgL (g : ByteArray → ByteArray) (attr : Bool) (l : List UInt8) : List UInt8 := dgGo g attr l.length l
theorem dgGo_fuel (g : ByteArray → ByteArray) (attr : Bool) : ∀ (n m : Nat) (l : List UInt8), l.length ≤ n → l.length ≤ m → dgGo g attr n l = dgGo g attr m l
  | 0, m, l, hn, _ => by
    obtain rfl : l = [] := List.eq_nil_of_length_eq_zero (by omega)
    cases m <;> rfl
  | n + 1, 0, l, _, hm => by
    obtain rfl : l = [] := List.eq_nil_of_length_eq_zero (by omega)
    rfl
  | n + 1, m + 1, [], _, _ => rfl
  | n + 1, m + 1, b :: t, hn, hm => by
    rw [List.length_cons] at hn hm
    unfold dgGo
    rw [dgGo_fuel g attr n m t (by omega) (by omega), dgGo_fuel g attr n m (t.drop (nextL t attr true).2.1.toNat) (by rw [List.length_drop]; omega) (by rw [List.length_drop]; omega)]
theorem dgL_nil (g : ByteArray → ByteArray) (attr : Bool) : dgL g attr [] = [] := rfl
theorem dgL_cons (g : ByteArray → ByteArray) (attr : Bool) (b : UInt8) (t : List UInt8) :
    dgL g attr (b :: t) = if b = 38 then (if (nextL t attr true).2.1 = 0 then 38 :: dgL g attr t else (g (nextL t attr true).1).data.toList ++ dgL g attr (t.drop (nextL t attr true).2.1.toNat)) else b :: dgL g attr t := by
  unfold dgL
  rw [List.length_cons, dgGo, dgGo_fuel g attr t.length (t.drop (nextL t attr true).2.1.toNat).length (t.drop (nextL t attr true).2.1.toNat) (by rw [List.length_drop]; omega) (Nat.le_refl _)]

theorem drop_cons_at (m : List UInt8) (i : Nat) (h : i < m.length) : m.drop i = m.getD i 0 :: m.drop (i + 1) := lenS i h
theorem take_grow (m : List UInt8) (a i : Nat) (ha : a ≤ i) (hi : i < m.length) : (m.drop a).take (i + 1 - a) = (m.drop a).take (i - a) ++ [m.getD i 0] := by
  have e : i + 1 - a = (i - a) + 1 := by omega
  have hl : i - a < (m.drop a).length := by rw [List.length_drop]; omega
  rw [e, List.take_succ_eq_append_getElem hl]
  congr 2
  rw [List.getElem_drop, List.getD_eq_getElem?_getD, List.getElem?_eq_getElem hi]
  simp only [Option.getD_some]
  congr 1
  omega
theorem rep_dg (g : ByteArray → ByteArray) (attr : Bool) (s : ByteArray) (hs : s.size ≤ 35184372088831) : ∀ (k i : Nat) (refs : List (Nat × ByteArray × Nat)), refsGo attr s k i = some refs → i ≤ s.size → ∀ (a : Nat) (acc : List UInt8), a ≤ i →
    (refs.foldl (repStep g s.data.toList) (a, acc)).2 ++ s.data.toList.drop (refs.foldl (repStep g s.data.toList) (a, acc)).1 = acc ++ ((s.data.toList.drop a).take (i - a) ++ dgL g attr (s.data.toList.drop i))
  | 0, i, refs, h, _, _, _, _ => by simp [refsGo] at h
  | k + 1, i, refs, h, hi, a, acc, ha => by
    have hl : s.data.toList.length = s.size := by simp
    unfold refsGo at h
    by_cases c1 : i < s.size
    · rw [if_pos c1] at h
      rw [drop_cons_at _ i (by omega), dgL_cons]
      have hb := bt_l s i c1
      have hq : ((s.data.toList.getD i 0).toNat : Int) = 38 ↔ s.data.toList.getD i 0 = 38 := u8_eq _ 38 (by decide)
      have hx : (s.extract (i + 1) s.size).data.toList = s.data.toList.drop (i + 1) := by
        rw [extract_list]
        refine List.take_of_length_le ?_
        rw [List.length_drop]
        omega
      by_cases c2 : s.data.toList.getD i 0 = 38
      · rw [if_pos (by rw [hb]; exact hq.2 c2)] at h
        rw [if_pos c2]
        obtain ⟨n, hn, h⟩ := Option.bind_eq_some_iff.1 h
        have hz : (s.extract (i + 1) s.size).size ≤ s.size := by simp
        have hn2 : n = nextL (s.data.toList.drop (i + 1)) attr true := by
          have h1 := next_f (k + s.size + 610) (s.extract (i + 1) s.size) attr true (by omega) (by omega)
          have h2 := at_rounds (charref_next.mono (s.extract (i + 1) s.size) attr true) (show k ≤ k + s.size + 610 by omega) hn
          rw [h1] at h2
          rw [← Option.some.inj h2, nextP_eq, hx]
        by_cases c3 : 0 ≤ n.2.1 ∧ i + 1 + n.2.1.toNat ≤ s.size
        · rw [if_pos c3] at h
          rw [← hn2]
          by_cases c4 : n.2.1 = 0
          · rw [if_pos c4] at h
            rw [if_pos c4, rep_dg g attr s hs k (i + 1) refs h (by omega) a acc (by omega), take_grow _ a i ha (by omega), c2, List.append_assoc]
            rfl
          · rw [if_neg c4] at h
            obtain ⟨t, ht, h⟩ := Option.bind_eq_some_iff.1 h
            have := Option.some.inj h
            subst this
            rw [if_neg c4, List.foldl_cons]
            have e : repStep g s.data.toList (a, acc) (i, n.1, n.2.1.toNat) = (i + 1 + n.2.1.toNat, acc ++ ((s.data.toList.drop a).take (i - a) ++ (g n.1).data.toList)) := rfl
            rw [e, rep_dg g attr s hs k _ t ht c3.2 _ _ (Nat.le_refl _), Nat.sub_self, List.take_zero, List.nil_append, List.drop_drop, List.append_assoc, List.append_assoc]
        · rw [if_neg c3] at h
          cases h
      · rw [if_neg (by rw [hb]; exact fun e => c2 (hq.1 e))] at h
        rw [if_neg c2, rep_dg g attr s hs k (i + 1) refs h (by omega) a acc (by omega), take_grow _ a i ha (by omega), List.append_assoc]
        rfl
    · rw [if_neg c1] at h
      have := Option.some.inj h
      subst this
      obtain rfl : i = s.size := by omega
      rw [List.foldl_nil, List.drop_eq_nil_of_le (Nat.le_of_eq hl), dgL_nil, List.append_nil, List.take_of_length_le (by rw [List.length_drop]; omega)]
theorem rep_text (g : ByteArray → ByteArray) (attr : Bool) (s : ByteArray) (hs : s.size ≤ 35184372088831) (k : Nat) (refs : List (Nat × ByteArray × Nat)) (h : refsGo attr s k 0 = some refs) : repText g s.data.toList refs = dgL g attr s.data.toList := by
  have := rep_dg g attr s hs k 0 refs h (Nat.zero_le _) 0 [] (Nat.le_refl _)
  unfold repText repSt
  rw [this]
  simp
theorem refs_some (attr : Bool) (s : ByteArray) (hs : s.size ≤ 35184372088831) : ∀ (d i k : Nat), s.size - i ≤ d → d + s.size + 612 ≤ k → ∃ refs, refsGo attr s k i = some refs
  | 0, i, k, hd, hk => by
    obtain ⟨k, rfl⟩ : ∃ j, k = j + 1 := ⟨k - 1, by omega⟩
    unfold refsGo
    rw [if_neg (by omega)]
    exact ⟨_, rfl⟩
  | d + 1, i, k, hd, hk => by
    obtain ⟨k, rfl⟩ : ∃ j, k = j + 1 := ⟨k - 1, by omega⟩
    have hz : (s.extract (i + 1) s.size).size ≤ s.size := by simp
    unfold refsGo
    by_cases c1 : i < s.size
    · rw [if_pos c1]
      have ih := fun (j : Nat) (hj : i < j) => refs_some attr s hs d j k (by omega) (by omega)
      by_cases c2 : bt s i = 38
      · have hl : (s.extract (i + 1) s.size).data.toList.length = s.size - (i + 1) := by simp
        have hsz := nextL_size (s.extract (i + 1) s.size).data.toList attr true
        rw [hl] at hsz
        rw [if_pos c2, next_f k (s.extract (i + 1) s.size) attr true (by omega) (by omega), Option.bind_some, nextP_eq, if_pos (by omega)]
        by_cases c4 : (nextL (s.extract (i + 1) s.size).data.toList attr true).2.1 = 0
        · rw [if_pos c4]
          exact ih _ (by omega)
        · rw [if_neg c4]
          obtain ⟨t, ht⟩ := ih (i + 1 + (nextL (s.extract (i + 1) s.size).data.toList attr true).2.1.toNat) (by omega)
          rw [ht]
          exact ⟨_, rfl⟩
      · rw [if_neg c2]
        exact ih _ (by omega)
    · rw [if_neg c1]
      exact ⟨_, rfl⟩

/-! ### what is said is short -/
theorem saysE_len (x : Ent) : (saysE x).length ≤ 2 := by unfold saysE; split <;> simp
theorem stepL_two (l : List UInt8) (acc : Nat × List Int) (x : Ent) (h : acc.2.length ≤ 2) : (stepL l acc x).2.length ≤ 2 := by
  unfold stepL
  have hs := saysE_len x
  repeat' split
  all_goals first | exact hs | exact h
theorem foldL_two (l : List UInt8) : ∀ (es : List Ent) (acc : Nat × List Int), acc.2.length ≤ 2 → (es.foldl (stepL l) acc).2.length ≤ 2
  | [], _, h => h
  | x :: t, acc, h => foldL_two l t _ (stepL_two l acc x h)
theorem nextL_short (l : List UInt8) (attr e : Bool) : (nextL l attr e).1.size ≤ 8 := by
  have h2 : (Hc_text (longL l).2).size ≤ 8 := by
    have h1 := foldL_two l ents (0, []) (by simp)
    have h3 := runesBytes_size_le (longL l).2
    unfold Hc_text
    have h4 : (longL l).2.length ≤ 2 := h1
    omega
  have h0 : emp.size ≤ 8 := by decide
  unfold nextL numericL namedL
  repeat' split
  all_goals first | exact h0 | exact h2 | (simp only; have := encode_size_le (numL (hexL l) (List.drop (fromL l) (List.take (atL l) l))).fst; omega)
theorem dgL_len (attr : Bool) : ∀ (n : Nat) (l : List UInt8), l.length ≤ n → (dgL id attr l).length ≤ 8 * l.length
  | 0, l, h => by
    obtain rfl : l = [] := List.eq_nil_of_length_eq_zero (by omega)
    exact Nat.le_refl _
  | n + 1, [], h => Nat.le_refl _
  | n + 1, b :: t, h => by
    rw [List.length_cons] at h
    rw [dgL_cons, List.length_cons]
    have h1 := dgL_len attr n t (by omega)
    split
    · split
      · rw [List.length_cons]
        omega
      · have h2 := dgL_len attr n (t.drop (nextL t attr true).2.1.toNat) (by rw [List.length_drop]; omega)
        have h3 := nextL_short t attr true
        rw [List.length_drop] at h2
        rw [List.length_append]
        have h4 : (id (nextL t attr true).1).data.toList.length = (nextL t attr true).1.size := by simp
        omega
    · rw [List.length_cons]
      omega
theorem mendS_list (s : ByteArray) : (mendS s).data.toList = mendL s.data.toList := by
  unfold mendS
  by_cases h : valid s.data.toList = true
  · rw [if_pos h, mendL_of_valid _ h]
  · rw [if_neg h]
    exact runesBytes_list _
theorem mendL_len4 (l : List UInt8) : (mendL l).length ≤ 4 * l.length := by
  unfold mendL
  have h1 : ∀ xs : List Int, (text xs).length ≤ 4 * xs.length := by
    intro xs
    induction xs with
    | nil => exact Nat.le_refl _
    | cons x t ih =>
      rw [text_cons, List.length_append, List.length_cons]
      have : (Lib.encodeRune x).length ≤ 4 := by
        unfold Lib.encodeRune
        rw [List.length_map]
        exact (Lib.encodeRuneZ_length x).2
      omega
  have h2 : ∀ (n : Nat) (l : List UInt8), l.length ≤ n → (runes l).length ≤ l.length := by
    intro n
    induction n with
    | zero =>
      intro l h
      obtain rfl : l = [] := List.eq_nil_of_length_eq_zero (by omega)
      exact Nat.le_refl _
    | succ n ih =>
      intro l h
      by_cases hne : l = []
      · subst hne
        exact Nat.le_refl _
      · have hw := (rdL_facts l hne).1
        have hl : 0 < l.length := List.length_pos_iff.2 hne
        rw [runes_step l hne, List.length_cons]
        have := ih (l.drop (rdL l).2.1) (by rw [List.length_drop]; omega)
        rw [List.length_drop] at this
        omega
  have h3 := h1 (runes l)
  have h4 := h2 _ l (Nat.le_refl _)
  omega
/-- charref.Decode, of every text that is not too long -/
theorem Decode_f (s : ByteArray) (attr : Bool) (hs : s.size ≤ 1099511627776) (k : Nat) (hk : 8 * s.size + 620 ≤ k) : charref_Decode.f k s attr = some ⟨(dgL id attr (mendL s.data.toList)).toArray⟩ := by
  have hl : s.data.toList.length = s.size := by simp
  have hml := mendS_list s
  have hmz : (mendS s).size = (mendL s.data.toList).length := by rw [← hml]; simp
  have hm4 := mendL_len4 s.data.toList
  unfold charref_Decode.f utf_Mend.f
  rw [if_pos (by omega), Option.bind_some]
  obtain ⟨refs, hr⟩ := refs_some attr (mendS s) (by omega) (mendS s).size 0 k (by omega) (by omega)
  have ht := rep_text id attr (mendS s) (by omega) k refs hr
  have h8 := dgL_len attr _ (mendL s.data.toList) (Nat.le_refl _)
  rw [hr, Option.bind_some, ht, hml, if_pos (by omega)]

end Go.Proofs.YthmbbkbmlnaghaaDoor.P
end
section
/-
 More of the decoded text, and runes of a valid text.
-/
namespace Go.Proofs.YthmbbkbmlnaghaaDoor.P
open Go.RowKit Go.Shelf Go.Proofs.YthmbbkbmlnaghaaDoorW.PrintWords Go.Proofs.YthmbbkbmlnaghaaDoorW.PrintLast Go.Proofs.YthmbbkbmlnaghaaDoorW.PrintMore
set_option linter.unusedVariables false
set_option linter.unusedSimpArgs false

end Go.Proofs.YthmbbkbmlnaghaaDoor.P
end
section
/-
 CharrefLess, the plain part: where something is said in an attribute it is said in text; a text without an & is left; the decimal reference of a rune says it.
-/
namespace Go.Proofs.YthmbbkbmlnaghaaDoor.P
open Go.RowKit Go.Proofs.YthmbbkbmlnaghaaDoorW.PrintWords Go.Proofs.YthmbbkbmlnaghaaDoorW.PrintLast Go.Proofs.YthmbbkbmlnaghaaDoorW.PrintMore
set_option linter.unusedVariables false
set_option linter.unusedSimpArgs false

theorem next_less (l : List UInt8) (h : 0 < (nextL l true true).2.1) : nextL l false true = nextL l true true := by
 unfold nextL at *
 split
 ·rfl
 ·rename_i c
  rw [if_neg c] at h
  unfold namedL at *
  have hf : ¬ (true = false ∧ begL l = true) := by simp
  rw [if_neg hf] at h
  rw [if_neg hf, if_neg hf]
  by_cases c1 : (longL l).1 = 0
  ·rw [if_pos c1, if_pos c1]
  ·rw [if_neg c1] at h ⊢
   rw [if_neg c1, if_neg (by simp)]
   by_cases c2 : true = true ∧ l.getD ((longL l).1 - 1) 0 ≠ 59
   ·rw [if_pos c2] at h ⊢
    by_cases c3 : (longL l).1 = l.length
    ·rw [if_pos c3, if_pos rfl]
    ·rw [if_neg c3] at h ⊢
     by_cases c4 : wordB (l.getD (longL l).1 0).toNat = true
     ·rw [if_pos c4] at h
      exact absurd h (by decide)
     ·rw [if_neg c4] at h ⊢
      by_cases c5 : l.getD (longL l).1 0 = 61
      ·rw [if_pos c5] at h
       exact absurd h (by decide)
      ·rw [if_neg c5]
   ·rw [if_neg c2]
theorem dgL_noamp (g : ByteArray → ByteArray) (attr : Bool) : ∀ l : List UInt8, (∀ b ∈ l, b ≠ 38) → dgL g attr l = l
 | [], _ => rfl
 | b :: t, h => by
  rw [dgL_cons, if_neg (h b List.mem_cons_self), dgL_noamp g attr t fun x hx => h x (List.mem_cons_of_mem _ hx)]
theorem mendL_asciiL : ∀ l : List UInt8, asciiL l → mendL l = l
 | [], _ => rfl
 | b :: t, h => by rw [mendL_ascii b t (h b List.mem_cons_self), mendL_asciiL t (asciiL_tail h)]
theorem encode_noamp (r : Int) (hg : goodR r) (h : r ≠ 38) : ∀ b ∈ Lib.encodeRune r, b ≠ 38 := by
 intro b hb e
 subst e
 obtain ⟨n, rfl⟩ : ∃ n : Nat, r = n := ⟨r.toNat, by unfold goodR at hg; omega⟩
 by_cases h1 : n < 128
 ·have hh := encode_ascii (UInt8.ofNat n) (by simp; omega)
  have e2 : ((UInt8.ofNat n).toNat : Int) = (n : Int) := by simp; omega
  rw [e2] at hh
  rw [hh] at hb
  have := List.mem_singleton.1 hb
  have e3 := congrArg UInt8.toNat this
  simp at e3
  omega
 ·obtain ⟨i, hi, hib⟩ := List.getElem_of_mem hb
  by_cases h0 : i = 0
  ·subst h0
   obtain ⟨c, t, hc, hcc⟩ := encode_high n (by omega)
   have : (Lib.encodeRune ((n : Nat) : Int))[0] = c := by simp [hc]
   rw [hib] at this
   subst this
   exact absurd hcc (by decide)
  ·have := encode_tail_high (n : Int) i (by omega) hi
   rw [List.getD_eq_getElem?_getD, List.getElem?_eq_getElem hi] at this
   simp only [Option.getD_some] at this
   rw [hib] at this
   exact absurd this (by decide)

/-! ### the digits of a number -/
theorem digit_facts : ∀ d : Fin 10, isDig false (UInt8.ofNat (48 + d.val)) = true ∧ (digV (UInt8.ofNat (48 + d.val)).toNat).toNat = d.val ∧ (UInt8.ofNat (48 + d.val)).toNat = 48 + d.val := by decide +kernel
theorem decDigits_mem : ∀ (n : Nat), ∀ b ∈ Lib.decDigits n, ∃ d, d < 10 ∧ b = UInt8.ofNat (48 + d) := by
 intro n
 induction n using Nat.strongRecOn with
 | _ n ih =>
  intro b hb
  rw [Lib.decDigits] at hb
  by_cases h : n < 10
  ·rw [dif_pos h] at hb
   exact ⟨n, h, List.mem_singleton.1 hb⟩
  ·rw [dif_neg h] at hb
   rcases List.mem_append.1 hb with hb | hb
   ·exact ih (n / 10) (by omega) b hb
   ·exact ⟨n % 10, by omega, List.mem_singleton.1 hb⟩
theorem decDigits_ne (n : Nat) : Lib.decDigits n ≠ [] := by
 rw [Lib.decDigits]
 split <;> simp
theorem decDigits_fold : ∀ (n : Nat), n ≤ 1114111 → (Lib.decDigits n).foldl (numStep 10) 0 = n := by
 intro n
 induction n using Nat.strongRecOn with
 | _ n ih =>
  intro hn
  rw [Lib.decDigits]
  by_cases h : n < 10
  ·rw [dif_pos h]
   show numStep 10 0 _ = n
   unfold numStep
   have := (digit_facts ⟨n, h⟩).2.1
   simp only at this
   rw [this]
   omega
  ·rw [dif_neg h, List.foldl_append, ih (n / 10) (by omega) (by omega)]
   show numStep 10 (n / 10) _ = n
   unfold numStep
   have := (digit_facts ⟨n % 10, by omega⟩).2.1
   simp only at this
   rw [this]
   omega
theorem all_digits (ds : List UInt8) (h : ∀ b ∈ ds, ∃ d, d < 10 ∧ b = UInt8.ofNat (48 + d)) : ds.all (isDig false) = true := by
 rw [List.all_eq_true]
 intro b hb
 obtain ⟨d, hd, rfl⟩ := h b hb
 exact (digit_facts ⟨d, hd⟩).1
theorem nDig_run : ∀ (ds t : List UInt8), (∀ b ∈ ds, ∃ d, d < 10 ∧ b = UInt8.ofNat (48 + d)) → nDig false (ds ++ 59 :: t) = ds.length
 | [], t, _ => by
  show nDig false (59 :: t) = 0
  unfold nDig
  rw [if_neg (by decide)]
 | b :: ds, t, h => by
  obtain ⟨d, hd, rfl⟩ := h b List.mem_cons_self
  show nDig false (_ :: (ds ++ 59 :: t)) = _
  unfold nDig
  have h1 := (digit_facts ⟨d, hd⟩).1
  simp only at h1
  rw [if_pos h1, nDig_run ds t fun x hx => h x (List.mem_cons_of_mem _ hx), List.length_cons]
theorem nextL_digits (ds : List UInt8) (h : ∀ b ∈ ds, ∃ d, d < 10 ∧ b = UInt8.ofNat (48 + d)) (hne : ds ≠ []) (attr : Bool) :
  nextL (35 :: (ds ++ [59])) attr true = (Utf8.encode (numL false ds).1, ((ds.length + 2 : Nat) : Int), true) := by
 have hl : 0 < ds.length := List.length_pos_iff.2 hne
 have hx : hexL (35 :: (ds ++ [59])) = false := by
  unfold hexL
  have e1 : (35 :: (ds ++ [59])).getD 1 0 = ds.getD 0 0 := by
   rw [List.getD_cons_succ, List.getD_eq_getElem?_getD, List.getElem?_append_left hl, ← List.getD_eq_getElem?_getD]
  obtain ⟨d, hd, e⟩ := h (ds.getD 0 0) (by rw [List.getD_eq_getElem?_getD, List.getElem?_eq_getElem hl]; exact List.getElem_mem hl)
  have h3 := (digit_facts ⟨d, hd⟩).2.2
  simp only at h3
  rw [e1, e]
  have a1 : UInt8.ofNat (48 + d) ≠ 120 := fun e => by
   have := congrArg UInt8.toNat e
   rw [h3] at this
   have h5 : (120 : UInt8).toNat = 120 := rfl
   omega
  have a2 : UInt8.ofNat (48 + d) ≠ 88 := fun e => by
   have := congrArg UInt8.toNat e
   rw [h3] at this
   have h5 : (88 : UInt8).toNat = 88 := rfl
   omega
  rw [decide_eq_false a1, decide_eq_false a2]
  rfl
 have hf : fromL (35 :: (ds ++ [59])) = 1 := by unfold fromL; rw [hx]; rfl
 have ha : atL (35 :: (ds ++ [59])) = ds.length + 1 := by
  unfold atL
  rw [hf, hx, List.drop_one, List.tail_cons, nDig_run ds [] h]
  omega
 have hlen : (35 :: (ds ++ [59])).length = ds.length + 2 := by simp
 have hgd : (35 :: (ds ++ [59])).getD (ds.length + 1) 0 = 59 := by
  rw [List.getD_cons_succ, List.getD_eq_getElem?_getD, List.getElem?_append_right (Nat.le_refl _)]
  simp
 have htk : ((35 :: (ds ++ [59])).take (ds.length + 1)).drop 1 = ds := by
  rw [List.take_succ_cons, List.drop_one, List.tail_cons, List.take_left']
  rfl
 unfold nextL
 rw [if_pos ⟨by simp, rfl⟩]
 unfold numericL
 rw [hx, hf, ha, hlen, htk, hgd, if_neg (by omega), if_neg (by simp), if_neg (by omega), if_pos ⟨by omega, rfl⟩]
theorem ref_says (n : Nat) (hn : n ≤ 1114111) (attr : Bool) (hs : (saysF (n : Int)).1 = n) : dgL id attr ([38, 35] ++ Lib.decDigits n ++ [59]) = Lib.encodeRune n := by
 have e : ([38, 35] ++ Lib.decDigits n ++ [59] : List UInt8) = 38 :: (35 :: (Lib.decDigits n ++ [59])) := by simp
 rw [e, dgL_cons, if_pos rfl, nextL_digits _ (decDigits_mem n) (decDigits_ne n) attr]
 have hnum : (numL false (Lib.decDigits n)).1 = n := by
  unfold numL
  rw [if_pos (all_digits _ (decDigits_mem n)), if_neg (decDigits_ne n)]
  show (saysF (((Lib.decDigits n).foldl (numStep 10) 0 : Nat) : Int)).1 = n
  rw [decDigits_fold n hn, hs]
 dsimp only
 rw [hnum, if_neg (by omega), Int.toNat_natCast, List.drop_eq_nil_of_le (by simp), dgL_nil, List.append_nil, id, encode_list]
theorem ref_ascii (n : Nat) : asciiL ([38, 35] ++ Lib.decDigits n ++ [59]) := by
 intro b hb
 rcases List.mem_append.1 hb with hb | hb
 ·rcases List.mem_append.1 hb with hb | hb
  ·simp only [List.mem_cons, List.mem_nil_iff, or_false] at hb
   rcases hb with rfl | rfl <;> decide
  ·obtain ⟨d, hd, rfl⟩ := decDigits_mem n b hb
   have := (digit_facts ⟨d, hd⟩).2.2
   simp only at this
   omega
 ·rw [List.mem_singleton.1 hb]
  decide
/-- what a number says that no window changes -/
def okR (r : Int) : Prop := ¬ (r < 1 ∨ r > 1114111 ∨ (55296 ≤ r ∧ r ≤ 57343) ∨ (128 ≤ r ∧ r ≤ 159 ∧ r ≠ 129 ∧ r ≠ 141 ∧ r ≠ 143 ∧ r ≠ 144 ∧ r ≠ 157))
theorem okR_says (r : Int) (h : okR r) : (saysF r).1 = r := by
 unfold okR at h
 unfold saysF
 rw [if_neg (by omega)]
 by_cases c : r ≥ 128 ∧ r ≤ 159
 ·rw [if_pos c]
  have : r = 129 ∨ r = 141 ∨ r = 143 ∨ r = 144 ∨ r = 157 := by omega
  rcases this with rfl | rfl | rfl | rfl | rfl <;> rfl
 ·rw [if_neg c]
end Go.Proofs.YthmbbkbmlnaghaaDoor.P
end
section
namespace Go.Proofs.YthmbbkbmlnaghaaDoor.P
open Go.RowKit Go.Proofs.YthmbbkbmlnaghaaDoorW.PrintWords Go.Proofs.YthmbbkbmlnaghaaDoorW.PrintLast Go.Proofs.YthmbbkbmlnaghaaDoorW.PrintMore
attribute [local go_sem] max2_int min2_int max_two min_two max_three min_three max_four min_four   -- for this text's walks alone
set_option linter.unusedVariables false
set_option linter.unusedSimpArgs false

/-! ### sieveref01_Char: function 79 -/
def sieveref01_Char.f (a0 : Int) : Option (Bool) := if a0 ≥ 0 then (if a0 ≤ 1114111 then (if a0 < 55296 then (some true) else (some (decide (a0 > 57343)))) else (some false)) else (some false)
set_option maxHeartbeats 8000000 in
set_option maxRecDepth 100000 in
theorem sieveref01_Char.calls (a0 : Int) (r : Bool) (w : World) (h : sieveref01_Char.f a0 = some r) :
  Calls Tryd.prog 79 #[.int .i32 a0] w fun e w' => e = .returned (.bool r) ∧ Drawn0 w w' := by
 have H : (if a0 ≥ 0 then (if a0 ≤ 1114111 then (if a0 < 55296 then (some true) else (some (decide (a0 > 57343)))) else (some false)) else (some false)) = some r := h
 clear h
 by_cases c2 : a0 ≥ 0
 ·rw [if_pos c2] at H
  have c2b0 : decide (0 ≤ a0) = true := decide_eq_true c2
  clear c2
  by_cases c3 : a0 ≤ 1114111
  ·rw [if_pos c3] at H
   have c3b0 : decide (a0 ≤ 1114111) = true := decide_eq_true c3
   clear c3
   by_cases c4 : a0 < 55296
   ·rw [if_pos c4] at H
    have c4b0 : decide (a0 < 55296) = true := decide_eq_true c4
    clear c4
    obtain rfl := Option.some.inj H
    go_enter Tryd.func79, Tryd.ntmps79
    go_wp2
    go_ret
    exact ⟨by first | rfl | (simp; done) | (simp [*]; done), by repeat (first | exact Drawn0.refl _ | apply Drawn0.step)⟩
   ·rw [if_neg c4] at H
    have c4b0 : decide (a0 < 55296) = false := decide_eq_false c4
    clear c4
    obtain rfl := Option.some.inj H
    go_enter Tryd.func79, Tryd.ntmps79
    go_wp2
    go_ret
    exact ⟨by first | rfl | (simp; done) | (simp [*]; done), by repeat (first | exact Drawn0.refl _ | apply Drawn0.step)⟩
  ·rw [if_neg c3] at H
   have c3b0 : decide (a0 ≤ 1114111) = false := decide_eq_false c3
   clear c3
   obtain rfl := Option.some.inj H
   go_enter Tryd.func79, Tryd.ntmps79
   go_wp2
   go_ret
   exact ⟨by first | rfl | (simp; done) | (simp [*]; done), by repeat (first | exact Drawn0.refl _ | apply Drawn0.step)⟩
 ·rw [if_neg c2] at H
  have c2b0 : decide (0 ≤ a0) = false := decide_eq_false c2
  clear c2
  obtain rfl := Option.some.inj H
  go_enter Tryd.func79, Tryd.ntmps79
  go_wp2
  go_ret
  exact ⟨by first | rfl | (simp; done) | (simp [*]; done), by repeat (first | exact Drawn0.refl _ | apply Drawn0.step)⟩

/-! ### sieveref01_Width: function 80 -/
def sieveref01_Width.f (a0 : Int) : Option (Int) := (sieveref01_Char.f a0).bind fun t148 => (if t148 = true then (if a0 < 128 then (some 1) else (if a0 < 2048 then (some 2) else (if a0 < 65536 then (some 3) else (some 4)))) else (some 3))
set_option maxHeartbeats 8000000 in
set_option maxRecDepth 100000 in
theorem sieveref01_Width.calls (a0 : Int) (r : Int) (w : World) (h : sieveref01_Width.f a0 = some r) :
  Calls Tryd.prog 80 #[.int .i32 a0] w fun e w' => e = .returned (.int .i64 r) ∧ Drawn0 w w' := by
 have H : ((sieveref01_Char.f a0).bind fun t148 => (if t148 = true then (if a0 < 128 then (some 1) else (if a0 < 2048 then (some 2) else (if a0 < 65536 then (some 3) else (some 4)))) else (some 3))) = some r := h
 clear h
 replace H := Option.bind_eq_some_iff.mp H
 obtain ⟨t148, A20, H⟩ := H
 replace H : (if t148 = true then (if a0 < 128 then (some 1) else (if a0 < 2048 then (some 2) else (if a0 < 65536 then (some 3) else (some 4)))) else (some 3)) = some r := H
 have A2 := Aside0.mk A20
 clear A20
 by_cases c3 : t148 = true
 ·subst c3
  have H1 : (if a0 < 128 then (some 1) else (if a0 < 2048 then (some 2) else (if a0 < 65536 then (some 3) else (some 4)))) = some r := by rw [if_pos rfl] at H; exact H
  clear H
  have H := H1
  clear H1
  by_cases c4 : a0 < 128
  ·rw [if_pos c4] at H
   have c4b0 : decide (a0 < 128) = true := decide_eq_true c4
   clear c4
   obtain rfl := Option.some.inj H
   go_enter Tryd.func80, Tryd.ntmps80
   go_wp2_with (first | ((with_reducible refine gate_callee (f := 79) rfl ?_); refine goesL_ (some 5) rfl rfl Tryd.func79 (by kernel_rfl) rfl #[.int .i32 a0] rfl (by (try simp only [List.map_toArray, List.map_cons, List.map_nil]); first | done | rfl | (simp only [List.length_drop, List.length_take]; rfl) | (simp [*] <;> rfl)) ?_; (with_reducible refine (sieveref01_Char.calls a0 true _ A2.out).mono ?_); rintro e w' ⟨rfl, ⟨nd, rfl⟩⟩; refine ⟨_, rfl, ?_⟩))
   go_ret
   exact ⟨by first | rfl | (simp; done) | (simp [*]; done), by repeat (first | exact Drawn0.refl _ | apply Drawn0.step)⟩
  ·rw [if_neg c4] at H
   have c4b0 : decide (a0 < 128) = false := decide_eq_false c4
   clear c4
   by_cases c5 : a0 < 2048
   ·rw [if_pos c5] at H
    have c5b0 : decide (a0 < 2048) = true := decide_eq_true c5
    clear c5
    obtain rfl := Option.some.inj H
    go_enter Tryd.func80, Tryd.ntmps80
    go_wp2_with (first | ((with_reducible refine gate_callee (f := 79) rfl ?_); refine goesL_ (some 5) rfl rfl Tryd.func79 (by kernel_rfl) rfl #[.int .i32 a0] rfl (by (try simp only [List.map_toArray, List.map_cons, List.map_nil]); first | done | rfl | (simp only [List.length_drop, List.length_take]; rfl) | (simp [*] <;> rfl)) ?_; (with_reducible refine (sieveref01_Char.calls a0 true _ A2.out).mono ?_); rintro e w' ⟨rfl, ⟨nd, rfl⟩⟩; refine ⟨_, rfl, ?_⟩))
    go_ret
    exact ⟨by first | rfl | (simp; done) | (simp [*]; done), by repeat (first | exact Drawn0.refl _ | apply Drawn0.step)⟩
   ·rw [if_neg c5] at H
    have c5b0 : decide (a0 < 2048) = false := decide_eq_false c5
    clear c5
    by_cases c6 : a0 < 65536
    ·rw [if_pos c6] at H
     have c6b0 : decide (a0 < 65536) = true := decide_eq_true c6
     clear c6
     obtain rfl := Option.some.inj H
     go_enter Tryd.func80, Tryd.ntmps80
     go_wp2_with (first | ((with_reducible refine gate_callee (f := 79) rfl ?_); refine goesL_ (some 5) rfl rfl Tryd.func79 (by kernel_rfl) rfl #[.int .i32 a0] rfl (by (try simp only [List.map_toArray, List.map_cons, List.map_nil]); first | done | rfl | (simp only [List.length_drop, List.length_take]; rfl) | (simp [*] <;> rfl)) ?_; (with_reducible refine (sieveref01_Char.calls a0 true _ A2.out).mono ?_); rintro e w' ⟨rfl, ⟨nd, rfl⟩⟩; refine ⟨_, rfl, ?_⟩))
     go_ret
     exact ⟨by first | rfl | (simp; done) | (simp [*]; done), by repeat (first | exact Drawn0.refl _ | apply Drawn0.step)⟩
    ·rw [if_neg c6] at H
     have c6b0 : decide (a0 < 65536) = false := decide_eq_false c6
     clear c6
     obtain rfl := Option.some.inj H
     go_enter Tryd.func80, Tryd.ntmps80
     go_wp2_with (first | ((with_reducible refine gate_callee (f := 79) rfl ?_); refine goesL_ (some 5) rfl rfl Tryd.func79 (by kernel_rfl) rfl #[.int .i32 a0] rfl (by (try simp only [List.map_toArray, List.map_cons, List.map_nil]); first | done | rfl | (simp only [List.length_drop, List.length_take]; rfl) | (simp [*] <;> rfl)) ?_; (with_reducible refine (sieveref01_Char.calls a0 true _ A2.out).mono ?_); rintro e w' ⟨rfl, ⟨nd, rfl⟩⟩; refine ⟨_, rfl, ?_⟩))
     go_ret
     exact ⟨by first | rfl | (simp; done) | (simp [*]; done), by repeat (first | exact Drawn0.refl _ | apply Drawn0.step)⟩
 ·replace c3 := Bool.eq_false_iff.mpr c3
  subst c3
  have H1 : (some 3) = some r := by rw [if_neg (show ¬ (false = true) by decide)] at H; exact H
  clear H
  have H := H1
  clear H1
  obtain rfl := Option.some.inj H
  go_enter Tryd.func80, Tryd.ntmps80
  go_wp2_with (first | ((with_reducible refine gate_callee (f := 79) rfl ?_); refine goesL_ (some 5) rfl rfl Tryd.func79 (by kernel_rfl) rfl #[.int .i32 a0] rfl (by (try simp only [List.map_toArray, List.map_cons, List.map_nil]); first | done | rfl | (simp only [List.length_drop, List.length_take]; rfl) | (simp [*] <;> rfl)) ?_; (with_reducible refine (sieveref01_Char.calls a0 false _ A2.out).mono ?_); rintro e w' ⟨rfl, ⟨nd, rfl⟩⟩; refine ⟨_, rfl, ?_⟩))
  go_ret
  exact ⟨by first | rfl | (simp; done) | (simp [*]; done), by repeat (first | exact Drawn0.refl _ | apply Drawn0.step)⟩

/-! ### sieveref01_bytesOf: function 61 -/
def sieveref01_bytesOf.j0 : Nat → Int → Option (List Int)
 | 0, _ => none
 | k + 1, x0 => (sieveref01_Width.f x0).bind fun t150 => (if t150 = 1 then (some (([(x0) % 256] : List Int))) else (if t150 = 2 then (some (([(wrap32 (192 + (wrap32 (Int.tdiv x0 64)))) % 256, (wrap32 (128 + (Int.tmod x0 64))) % 256] : List Int))) else (if t150 = 3 then (some (([(wrap32 (224 + (wrap32 (Int.tdiv x0 4096)))) % 256, (wrap32 (128 + (Int.tmod (wrap32 (Int.tdiv x0 64)) 64))) % 256, (wrap32 (128 + (Int.tmod x0 64))) % 256] : List Int))) else (some (([(wrap32 (240 + (wrap32 (Int.tdiv x0 262144)))) % 256, (wrap32 (128 + (Int.tmod (wrap32 (Int.tdiv x0 4096)) 64))) % 256, (wrap32 (128 + (Int.tmod (wrap32 (Int.tdiv x0 64)) 64))) % 256, (wrap32 (128 + (Int.tmod x0 64))) % 256] : List Int))))))
def sieveref01_bytesOf.f (k : Nat) (a0 : Int) : Option (List Int) := (sieveref01_Char.f a0).bind fun t149 => (if t149 = true then (sieveref01_bytesOf.j0 k a0) else (sieveref01_bytesOf.j0 k 65533))
set_option maxHeartbeats 8000000 in
set_option maxRecDepth 100000 in
theorem sieveref01_bytesOf.calls (k : Nat) (a0 : Int) (r : List Int) (w : World) (h : sieveref01_bytesOf.f k a0 = some r) :
  Calls Tryd.prog 61 #[.int .i32 a0] w fun e w' => ∃ v0_ : Value, e = .returned (v0_) ∧ Kd.R (Kd.int .u8) 5 w' w.heap.size (fun _ => True) v0_ r ∧ Below w.heap.size w w' := by
 have HB := Aside0.mk (Below.refl w.heap.size w)
 have H : ((sieveref01_Char.f a0).bind fun t149 => (if t149 = true then (sieveref01_bytesOf.j0 k a0) else (sieveref01_bytesOf.j0 k 65533))) = some r := h
 clear h
 replace H := Option.bind_eq_some_iff.mp H
 obtain ⟨t149, A20, H⟩ := H
 replace H : (if t149 = true then (sieveref01_bytesOf.j0 k a0) else (sieveref01_bytesOf.j0 k 65533)) = some r := H
 have A2 := Aside0.mk A20
 clear A20
 have HC3 := Aside0.mk H
 clear H
 go_enter Tryd.func61, Tryd.ntmps61
 go_upto_if 5 with (first | ((with_reducible refine gate_callee (f := 79) rfl ?_); refine goesL_ (some 4) rfl rfl Tryd.func79 (by kernel_rfl) rfl #[.int .i32 a0] rfl (by (try simp only [List.map_toArray, List.map_cons, List.map_nil]); first | done | rfl | (simp only [List.length_drop, List.length_take]; rfl) | (simp [*] <;> rfl)) ?_; (with_reducible refine (sieveref01_Char.calls a0 t149 _ A2.out).mono ?_); rintro e w' ⟨rfl, ⟨nd, rfl⟩⟩; refine ⟨_, rfl, ?_⟩))
 (try simp only [Act.put, List.setIfInBounds_toArray, List.set_cons_zero, List.set_cons_succ])
 go_cut [0] (fun v0 wc => ∃ (kq : Nat) (x0_2 : Int), v0 = .int .i32 x0_2 ∧ Aside0 (sieveref01_bytesOf.j0 kq x0_2 = some r) ∧ Aside0 (kq ≤ k) ∧ Aside0 (Below w.heap.size w wc))
 case first =>
  have H := HC3.out
  clear HC3
  by_cases c4 : t149 = true
  ·subst c4
   have H1 : (sieveref01_bytesOf.j0 k a0) = some r := by rw [if_pos rfl] at H; exact H
   clear H
   have H := H1
   clear H1
   have H' := Aside0.mk H
   clear H
   go_wp2
   go_meet
   case rel => exact ⟨_, (a0), (by first | rfl | (simp; done) | (simp [*]; done) | (unfold bt; split <;> first | rfl | (exfalso; simp_all; done) | (exfalso; simp_all; omega))), H', ⟨by first | omega | exact Nat.le_refl _⟩, ⟨by repeat (first | (with_reducible first | exact HB.out | apply below_alloc | apply pw_below_drewN | apply below_drew1) | exact HB.out)⟩⟩
  ·replace c4 := Bool.eq_false_iff.mpr c4
   subst c4
   have H1 : (sieveref01_bytesOf.j0 k 65533) = some r := by rw [if_neg (show ¬ (false = true) by decide)] at H; exact H
   clear H
   have H := H1
   clear H1
   have H' := Aside0.mk H
   clear H
   go_wp2
   go_meet
   case rel => exact ⟨_, (65533), (by first | rfl | (simp; done) | (simp [*]; done) | (unfold bt; split <;> first | rfl | (exfalso; simp_all; done) | (exfalso; simp_all; omega))), H', ⟨by first | omega | exact Nat.le_refl _⟩, ⟨by repeat (first | (with_reducible first | exact HB.out | apply below_alloc | apply pw_below_drewN | apply below_drew1) | exact HB.out)⟩⟩
 case rest =>
  clear HC3
  try clear p2
  try clear c4
  obtain ⟨kq, x0_2, rfl, HA, HJ2, HB⟩ := hcut
  cases kq with
  | zero => exact absurd HA.out (by simp [sieveref01_bytesOf.j0])
  | succ kj2 =>
   have H := HA.out
   clear HA
   simp only [sieveref01_bytesOf.j0] at H
   replace H := Option.bind_eq_some_iff.mp H
   obtain ⟨t150, A50, H⟩ := H
   replace H : (if t150 = 1 then (some (([(x0_2) % 256] : List Int))) else (if t150 = 2 then (some (([(wrap32 (192 + (wrap32 (Int.tdiv x0_2 64)))) % 256, (wrap32 (128 + (Int.tmod x0_2 64))) % 256] : List Int))) else (if t150 = 3 then (some (([(wrap32 (224 + (wrap32 (Int.tdiv x0_2 4096)))) % 256, (wrap32 (128 + (Int.tmod (wrap32 (Int.tdiv x0_2 64)) 64))) % 256, (wrap32 (128 + (Int.tmod x0_2 64))) % 256] : List Int))) else (some (([(wrap32 (240 + (wrap32 (Int.tdiv x0_2 262144)))) % 256, (wrap32 (128 + (Int.tmod (wrap32 (Int.tdiv x0_2 4096)) 64))) % 256, (wrap32 (128 + (Int.tmod (wrap32 (Int.tdiv x0_2 64)) 64))) % 256, (wrap32 (128 + (Int.tmod x0_2 64))) % 256] : List Int)))))) = some r := H
   have A5 := Aside0.mk A50
   clear A50
   by_cases c6 : t150 = 1
   ·rw [if_pos c6] at H
    have c6b0 : (t150 == 1) = true := beq_iff_eq.mpr c6
    have c6b1 : (t150 != 1) = false := bne_eq_false_iff_eq.mpr c6
    clear c6
    obtain ⟨y151, hy151⟩ : ∃ y_ : List Int, y_ = (([(x0_2) % 256] : List Int)) := ⟨_, rfl⟩
    replace H : (some y151) = some r := by first | (rw [hy151]; with_reducible exact H) | (have H2_ := (Option.bind_some _ _).symm.trans H; rw [hy151]; with_reducible exact H2_) | (have H2_ := (Option.bind_some _ _).symm.trans H; with_reducible exact H2_) | with_reducible exact H | (rw [hy151]; exact H) | exact H
    have Ny151 := Aside0.mk hy151
    clear hy151
    obtain rfl := Option.some.inj H
    go_wp2_with (first | ((with_reducible refine gate_callee (f := 80) rfl ?_); refine goesL_ (some 7) rfl rfl Tryd.func80 (by kernel_rfl) rfl #[.int .i32 x0_2] rfl (by (try simp only [List.map_toArray, List.map_cons, List.map_nil]); first | done | rfl | (simp only [List.length_drop, List.length_take]; rfl) | (simp [*] <;> rfl)) ?_; (with_reducible refine (sieveref01_Width.calls x0_2 t150 _ A5.out).mono ?_); rintro e w' ⟨rfl, ⟨nd, rfl⟩⟩; refine ⟨_, rfl, ?_⟩) | ((with_reducible refine gate_dst (N := 12) rfl ?_); refine Kd.R_lit (Kd.int .u8) _ 5 ?hg (N := 12) ?hd (xs := ([(x0_2) % 256] : List Int)) (inner := [.int .u8 ((x0_2) % 256)]) (ok := fun _ => True) (okp := fun _ => True) ?hr ?hp (fun _ hk => hk) trivial (Below.refl _ _) (Nat.le_refl _) (by simp) ?_; (case hd => rfl); (case hg => rfl); (case hr => first | (go_simp; done) | (go_simp; rfl)); (case hp => exact (Reps.one (show Kd.M (Kd.int .u8) _ _ _ ((x0_2) % 256) [.int .u8 ((x0_2) % 256)] from rfl) (Reps.none _ _))); intro v152 w7 ho8 hb hg_ hnew_; clear hg_ hnew_; (first | rw [← Ny151.out] at ho8 | (simp only [Int.reduceToNat] at ho8; rw [← Ny151.out] at ho8)); have n0_ := Aside0.mk (Kd.R_lower ho8 (below_size (by repeat (first | (with_reducible first | exact HB.out | apply below_alloc | apply pw_below_drewN | apply below_drew1) | exact HB.out)))); have n1_ := Aside0.mk (below_step (by repeat (first | (with_reducible first | exact HB.out | apply below_alloc | apply pw_below_drewN | apply below_drew1) | exact HB.out)) hb); clear HB; have HO153 := n0_; have HB := n1_; clear n0_ n1_; clear hb ho8))
    go_ret
    exact ⟨_, by first | rfl | (simp [errW_none, errW_some] <;> rfl) | (simp [*, errW_none, errW_some] <;> rfl), by (with_reducible repeat (first | apply Kd.R_alloc | apply Kd.R_drewN | apply Kd.R_drew)); exact HO153.out, by repeat (first | (with_reducible first | exact HB.out | apply below_alloc | apply pw_below_drewN | apply below_drew1) | exact HB.out)⟩
   ·rw [if_neg c6] at H
    have c6b0 : (t150 == 1) = false := beq_eq_false_iff_ne.mpr c6
    have c6b1 : (t150 != 1) = true := bne_iff_ne.mpr c6
    by_cases c9 : t150 = 2
    ·rw [if_pos c9] at H
     have c9b0 : (t150 == 2) = true := beq_iff_eq.mpr c9
     have c9b1 : (t150 != 2) = false := bne_eq_false_iff_eq.mpr c9
     clear c9
     obtain ⟨y154, hy154⟩ : ∃ y_ : List Int, y_ = (([(wrap32 (192 + (wrap32 (Int.tdiv x0_2 64)))) % 256, (wrap32 (128 + (Int.tmod x0_2 64))) % 256] : List Int)) := ⟨_, rfl⟩
     replace H : (some y154) = some r := by first | (rw [hy154]; with_reducible exact H) | (have H2_ := (Option.bind_some _ _).symm.trans H; rw [hy154]; with_reducible exact H2_) | (have H2_ := (Option.bind_some _ _).symm.trans H; with_reducible exact H2_) | with_reducible exact H | (rw [hy154]; exact H) | exact H
     have Ny154 := Aside0.mk hy154
     clear hy154
     obtain rfl := Option.some.inj H
     go_wp2_with (first | ((with_reducible refine gate_callee (f := 80) rfl ?_); refine goesL_ (some 7) rfl rfl Tryd.func80 (by kernel_rfl) rfl #[.int .i32 x0_2] rfl (by (try simp only [List.map_toArray, List.map_cons, List.map_nil]); first | done | rfl | (simp only [List.length_drop, List.length_take]; rfl) | (simp [*] <;> rfl)) ?_; (with_reducible refine (sieveref01_Width.calls x0_2 t150 _ A5.out).mono ?_); rintro e w' ⟨rfl, ⟨nd, rfl⟩⟩; refine ⟨_, rfl, ?_⟩) | ((with_reducible refine gate_dst (N := 23) rfl ?_); refine Kd.R_lit (Kd.int .u8) _ 5 ?hg (N := 23) ?hd (xs := ([(wrap32 (192 + (wrap32 (Int.tdiv x0_2 64)))) % 256, (wrap32 (128 + (Int.tmod x0_2 64))) % 256] : List Int)) (inner := [.int .u8 ((wrap32 (192 + (wrap32 (Int.tdiv x0_2 64)))) % 256), .int .u8 ((wrap32 (128 + (Int.tmod x0_2 64))) % 256)]) (ok := fun _ => True) (okp := fun _ => True) ?hr ?hp (fun _ hk => hk) trivial (Below.refl _ _) (Nat.le_refl _) (by simp) ?_; (case hd => rfl); (case hg => rfl); (case hr => first | (go_simp; done) | (go_simp; rfl)); (case hp => exact (Reps.one (show Kd.M (Kd.int .u8) _ _ _ ((wrap32 (192 + (wrap32 (Int.tdiv x0_2 64)))) % 256) [.int .u8 ((wrap32 (192 + (wrap32 (Int.tdiv x0_2 64)))) % 256)] from rfl) (Reps.one (show Kd.M (Kd.int .u8) _ _ _ ((wrap32 (128 + (Int.tmod x0_2 64))) % 256) [.int .u8 ((wrap32 (128 + (Int.tmod x0_2 64))) % 256)] from rfl) (Reps.none _ _)))); intro v155 w10 ho11 hb hg_ hnew_; clear hg_ hnew_; (first | rw [← Ny154.out] at ho11 | (simp only [Int.reduceToNat] at ho11; rw [← Ny154.out] at ho11)); have n0_ := Aside0.mk (Kd.R_lower ho11 (below_size (by repeat (first | (with_reducible first | exact HB.out | apply below_alloc | apply pw_below_drewN | apply below_drew1) | exact HB.out)))); have n1_ := Aside0.mk (below_step (by repeat (first | (with_reducible first | exact HB.out | apply below_alloc | apply pw_below_drewN | apply below_drew1) | exact HB.out)) hb); clear HB; have HO156 := n0_; have HB := n1_; clear n0_ n1_; clear hb ho11))
     go_ret
     exact ⟨_, by first | rfl | (simp [errW_none, errW_some] <;> rfl) | (simp [*, errW_none, errW_some] <;> rfl), by (with_reducible repeat (first | apply Kd.R_alloc | apply Kd.R_drewN | apply Kd.R_drew)); exact HO156.out, by repeat (first | (with_reducible first | exact HB.out | apply below_alloc | apply pw_below_drewN | apply below_drew1) | exact HB.out)⟩
    ·rw [if_neg c9] at H
     have c9b0 : (t150 == 2) = false := beq_eq_false_iff_ne.mpr c9
     have c9b1 : (t150 != 2) = true := bne_iff_ne.mpr c9
     by_cases c12 : t150 = 3
     ·rw [if_pos c12] at H
      have c12b0 : (t150 == 3) = true := beq_iff_eq.mpr c12
      have c12b1 : (t150 != 3) = false := bne_eq_false_iff_eq.mpr c12
      clear c12
      obtain ⟨y157, hy157⟩ : ∃ y_ : List Int, y_ = (([(wrap32 (224 + (wrap32 (Int.tdiv x0_2 4096)))) % 256, (wrap32 (128 + (Int.tmod (wrap32 (Int.tdiv x0_2 64)) 64))) % 256, (wrap32 (128 + (Int.tmod x0_2 64))) % 256] : List Int)) := ⟨_, rfl⟩
      replace H : (some y157) = some r := by first | (rw [hy157]; with_reducible exact H) | (have H2_ := (Option.bind_some _ _).symm.trans H; rw [hy157]; with_reducible exact H2_) | (have H2_ := (Option.bind_some _ _).symm.trans H; with_reducible exact H2_) | with_reducible exact H | (rw [hy157]; exact H) | exact H
      have Ny157 := Aside0.mk hy157
      clear hy157
      obtain rfl := Option.some.inj H
      go_wp2_with (first | ((with_reducible refine gate_callee (f := 80) rfl ?_); refine goesL_ (some 7) rfl rfl Tryd.func80 (by kernel_rfl) rfl #[.int .i32 x0_2] rfl (by (try simp only [List.map_toArray, List.map_cons, List.map_nil]); first | done | rfl | (simp only [List.length_drop, List.length_take]; rfl) | (simp [*] <;> rfl)) ?_; (with_reducible refine (sieveref01_Width.calls x0_2 t150 _ A5.out).mono ?_); rintro e w' ⟨rfl, ⟨nd, rfl⟩⟩; refine ⟨_, rfl, ?_⟩) | ((with_reducible refine gate_dst (N := 39) rfl ?_); refine Kd.R_lit (Kd.int .u8) _ 5 ?hg (N := 39) ?hd (xs := ([(wrap32 (224 + (wrap32 (Int.tdiv x0_2 4096)))) % 256, (wrap32 (128 + (Int.tmod (wrap32 (Int.tdiv x0_2 64)) 64))) % 256, (wrap32 (128 + (Int.tmod x0_2 64))) % 256] : List Int)) (inner := [.int .u8 ((wrap32 (224 + (wrap32 (Int.tdiv x0_2 4096)))) % 256), .int .u8 ((wrap32 (128 + (Int.tmod (wrap32 (Int.tdiv x0_2 64)) 64))) % 256), .int .u8 ((wrap32 (128 + (Int.tmod x0_2 64))) % 256)]) (ok := fun _ => True) (okp := fun _ => True) ?hr ?hp (fun _ hk => hk) trivial (Below.refl _ _) (Nat.le_refl _) (by simp) ?_; (case hd => rfl); (case hg => rfl); (case hr => first | (go_simp; done) | (go_simp; rfl)); (case hp => exact (Reps.one (show Kd.M (Kd.int .u8) _ _ _ ((wrap32 (224 + (wrap32 (Int.tdiv x0_2 4096)))) % 256) [.int .u8 ((wrap32 (224 + (wrap32 (Int.tdiv x0_2 4096)))) % 256)] from rfl) (Reps.one (show Kd.M (Kd.int .u8) _ _ _ ((wrap32 (128 + (Int.tmod (wrap32 (Int.tdiv x0_2 64)) 64))) % 256) [.int .u8 ((wrap32 (128 + (Int.tmod (wrap32 (Int.tdiv x0_2 64)) 64))) % 256)] from rfl) (Reps.one (show Kd.M (Kd.int .u8) _ _ _ ((wrap32 (128 + (Int.tmod x0_2 64))) % 256) [.int .u8 ((wrap32 (128 + (Int.tmod x0_2 64))) % 256)] from rfl) (Reps.none _ _))))); intro v158 w13 ho14 hb hg_ hnew_; clear hg_ hnew_; (first | rw [← Ny157.out] at ho14 | (simp only [Int.reduceToNat] at ho14; rw [← Ny157.out] at ho14)); have n0_ := Aside0.mk (Kd.R_lower ho14 (below_size (by repeat (first | (with_reducible first | exact HB.out | apply below_alloc | apply pw_below_drewN | apply below_drew1) | exact HB.out)))); have n1_ := Aside0.mk (below_step (by repeat (first | (with_reducible first | exact HB.out | apply below_alloc | apply pw_below_drewN | apply below_drew1) | exact HB.out)) hb); clear HB; have HO159 := n0_; have HB := n1_; clear n0_ n1_; clear hb ho14))
      go_ret
      exact ⟨_, by first | rfl | (simp [errW_none, errW_some] <;> rfl) | (simp [*, errW_none, errW_some] <;> rfl), by (with_reducible repeat (first | apply Kd.R_alloc | apply Kd.R_drewN | apply Kd.R_drew)); exact HO159.out, by repeat (first | (with_reducible first | exact HB.out | apply below_alloc | apply pw_below_drewN | apply below_drew1) | exact HB.out)⟩
     ·rw [if_neg c12] at H
      have c12b0 : (t150 == 3) = false := beq_eq_false_iff_ne.mpr c12
      have c12b1 : (t150 != 3) = true := bne_iff_ne.mpr c12
      obtain ⟨y160, hy160⟩ : ∃ y_ : List Int, y_ = (([(wrap32 (240 + (wrap32 (Int.tdiv x0_2 262144)))) % 256, (wrap32 (128 + (Int.tmod (wrap32 (Int.tdiv x0_2 4096)) 64))) % 256, (wrap32 (128 + (Int.tmod (wrap32 (Int.tdiv x0_2 64)) 64))) % 256, (wrap32 (128 + (Int.tmod x0_2 64))) % 256] : List Int)) := ⟨_, rfl⟩
      replace H : (some y160) = some r := by first | (rw [hy160]; with_reducible exact H) | (have H2_ := (Option.bind_some _ _).symm.trans H; rw [hy160]; with_reducible exact H2_) | (have H2_ := (Option.bind_some _ _).symm.trans H; with_reducible exact H2_) | with_reducible exact H | (rw [hy160]; exact H) | exact H
      have Ny160 := Aside0.mk hy160
      clear hy160
      obtain rfl := Option.some.inj H
      go_wp2_with (first | ((with_reducible refine gate_callee (f := 80) rfl ?_); refine goesL_ (some 7) rfl rfl Tryd.func80 (by kernel_rfl) rfl #[.int .i32 x0_2] rfl (by (try simp only [List.map_toArray, List.map_cons, List.map_nil]); first | done | rfl | (simp only [List.length_drop, List.length_take]; rfl) | (simp [*] <;> rfl)) ?_; (with_reducible refine (sieveref01_Width.calls x0_2 t150 _ A5.out).mono ?_); rintro e w' ⟨rfl, ⟨nd, rfl⟩⟩; refine ⟨_, rfl, ?_⟩) | ((with_reducible refine gate_dst (N := 58) rfl ?_); refine Kd.R_lit (Kd.int .u8) _ 5 ?hg (N := 58) ?hd (xs := ([(wrap32 (240 + (wrap32 (Int.tdiv x0_2 262144)))) % 256, (wrap32 (128 + (Int.tmod (wrap32 (Int.tdiv x0_2 4096)) 64))) % 256, (wrap32 (128 + (Int.tmod (wrap32 (Int.tdiv x0_2 64)) 64))) % 256, (wrap32 (128 + (Int.tmod x0_2 64))) % 256] : List Int)) (inner := [.int .u8 ((wrap32 (240 + (wrap32 (Int.tdiv x0_2 262144)))) % 256), .int .u8 ((wrap32 (128 + (Int.tmod (wrap32 (Int.tdiv x0_2 4096)) 64))) % 256), .int .u8 ((wrap32 (128 + (Int.tmod (wrap32 (Int.tdiv x0_2 64)) 64))) % 256), .int .u8 ((wrap32 (128 + (Int.tmod x0_2 64))) % 256)]) (ok := fun _ => True) (okp := fun _ => True) ?hr ?hp (fun _ hk => hk) trivial (Below.refl _ _) (Nat.le_refl _) (by simp) ?_; (case hd => rfl); (case hg => rfl); (case hr => first | (go_simp; done) | (go_simp; rfl)); (case hp => exact (Reps.one (show Kd.M (Kd.int .u8) _ _ _ ((wrap32 (240 + (wrap32 (Int.tdiv x0_2 262144)))) % 256) [.int .u8 ((wrap32 (240 + (wrap32 (Int.tdiv x0_2 262144)))) % 256)] from rfl) (Reps.one (show Kd.M (Kd.int .u8) _ _ _ ((wrap32 (128 + (Int.tmod (wrap32 (Int.tdiv x0_2 4096)) 64))) % 256) [.int .u8 ((wrap32 (128 + (Int.tmod (wrap32 (Int.tdiv x0_2 4096)) 64))) % 256)] from rfl) (Reps.one (show Kd.M (Kd.int .u8) _ _ _ ((wrap32 (128 + (Int.tmod (wrap32 (Int.tdiv x0_2 64)) 64))) % 256) [.int .u8 ((wrap32 (128 + (Int.tmod (wrap32 (Int.tdiv x0_2 64)) 64))) % 256)] from rfl) (Reps.one (show Kd.M (Kd.int .u8) _ _ _ ((wrap32 (128 + (Int.tmod x0_2 64))) % 256) [.int .u8 ((wrap32 (128 + (Int.tmod x0_2 64))) % 256)] from rfl) (Reps.none _ _)))))); intro v161 w15 ho16 hb hg_ hnew_; clear hg_ hnew_; (first | rw [← Ny160.out] at ho16 | (simp only [Int.reduceToNat] at ho16; rw [← Ny160.out] at ho16)); have n0_ := Aside0.mk (Kd.R_lower ho16 (below_size (by repeat (first | (with_reducible first | exact HB.out | apply below_alloc | apply pw_below_drewN | apply below_drew1) | exact HB.out)))); have n1_ := Aside0.mk (below_step (by repeat (first | (with_reducible first | exact HB.out | apply below_alloc | apply pw_below_drewN | apply below_drew1) | exact HB.out)) hb); clear HB; have HO162 := n0_; have HB := n1_; clear n0_ n1_; clear hb ho16))
      go_ret
      exact ⟨_, by first | rfl | (simp [errW_none, errW_some] <;> rfl) | (simp [*, errW_none, errW_some] <;> rfl), by (with_reducible repeat (first | apply Kd.R_alloc | apply Kd.R_drewN | apply Kd.R_drew)); exact HO162.out, by repeat (first | (with_reducible first | exact HB.out | apply below_alloc | apply pw_below_drewN | apply below_drew1) | exact HB.out)⟩

/-! ### sieveref01_Bytes: function 45 -/
def sieveref01_Bytes.l0 : Nat → List Int → List Int → Int → Int → Option (List Int)
 | 0, _, _, _, _ => none
 | k + 1, x3, x6, x7, x8 => if x8 < x7 then (if 0 ≤ x8 then (if x8 < (x6.length : Int) then ((sieveref01_bytesOf.f k (rd x6 x8)).bind fun t164 => (if x3.length + t164.length < 140737488355328 then (sieveref01_Bytes.l0 k (x3 ++ t164) x6 x7 (wrap64 (x8 + 1))) else (none))) else (none)) else (none)) else (some x3)
def sieveref01_Bytes.f (k : Nat) (l0 : List Int) : Option (List Int) := sieveref01_Bytes.l0 k ([] : List Int) l0 (l0.length : Int) 0
set_option maxHeartbeats 8000000 in
set_option maxRecDepth 100000 in
theorem sieveref01_Bytes.calls (k : Nat) (A0 : Option Addr) (c0 : Nat) (l0 : List Int) (r : List Int) (w : World) (hr0 : Kd.C (Kd.int .i32) w A0 l0.length l0) (hc0 : l0.length ≤ c0) (h : sieveref01_Bytes.f k l0 = some r) :
  Calls Tryd.prog 45 #[.slice A0 l0.length c0] w fun e w' => ∃ v0_ : Value, e = .returned (v0_) ∧ Kd.R (Kd.int .u8) 5 w' w.heap.size (fun _ => True) v0_ r ∧ Below w.heap.size w w' := by
 have HR0 := Aside0.mk hr0
 have HC0 := Aside0.mk hc0
 clear hr0 hc0
 have HB := Aside0.mk (Below.refl w.heap.size w)
 have H : (sieveref01_Bytes.l0 k ([] : List Int) l0 (l0.length : Int) 0) = some r := h
 clear h
 have H' := Aside0.mk H
 clear H
 go_enter Tryd.func45, Tryd.ntmps45
 go_wp2
 go_loopg [3, 8] k (fun kq v3 v8 w' => ∃ (x3_1 : List Int) (x8_1 : Int), v8 = .int .i64 x8_1 ∧ Aside0 (sieveref01_Bytes.l0 kq x3_1 l0 (l0.length : Int) x8_1 = some r) ∧ Aside0 (kq ≤ k) ∧ Aside0 (Kd.R (Kd.int .u8) 5 w' w.heap.size (fun _ => True) v3 x3_1) ∧ Aside0 (Below w.heap.size w w'))
 case atStart => exact ⟨(([] : List Int)), (0), (by first | rfl | (simp; done) | (simp [*]; done) | (unfold bt; split <;> first | rfl | (exfalso; simp_all; done) | (exfalso; simp_all; omega))), H', ⟨Nat.le_refl _⟩, ⟨by first | exact Kd.R_nil _ _ _ _ _ | exact Kd.N_nil _ _ _ _ _ | exact Kd.V_nil _ _ _ _ _ | exact Kd.Q_nil _ _ _ _ _ | exact Kd.S_nil _ _ _ _ _⟩, ⟨by repeat (first | (with_reducible first | exact HB.out | apply below_alloc | apply pw_below_drewN | apply below_drew1) | exact HB.out)⟩⟩
 case round =>
  clear H'
  obtain ⟨x3_1, x8_1, rfl, HA, HK1, HO_3, HB⟩ := hrel
  cases gk with
  | zero => exact absurd HA.out (by simp [sieveref01_Bytes.l0])
  | succ k1 =>
   have H := HA.out
   clear HA
   simp only [sieveref01_Bytes.l0] at H
   by_cases c2 : x8_1 < (l0.length : Int)
   ·rw [if_pos c2] at H
    have c2b0 : decide (x8_1 < (l0.length : Int)) = true := decide_eq_true c2
    clear c2
    by_cases c3 : 0 ≤ x8_1
    ·rw [if_pos c3] at H
     have c3b0 : decide (0 ≤ x8_1) = true := decide_eq_true c3
     clear c3
     by_cases c4 : x8_1 < (l0.length : Int)
     ·rw [if_pos c4] at H
      have c4b0 : decide (x8_1 < (l0.length : Int)) = true := decide_eq_true c4
      clear c4
      replace H := Option.bind_eq_some_iff.mp H
      obtain ⟨t164, A50, H⟩ := H
      replace H : (if x3_1.length + t164.length < 140737488355328 then (sieveref01_Bytes.l0 k1 (x3_1 ++ t164) l0 (l0.length : Int) (wrap64 (x8_1 + 1))) else (none)) = some r := H
      have A5 := Aside0.mk A50
      clear A50
      by_cases c6 : x3_1.length + t164.length < 140737488355328
      ·rw [if_pos c6] at H
       have LMc6 := Aside0.mk c6
       clear c6
       obtain ⟨y167, hy167⟩ : ∃ y_ : List Int, y_ = (x3_1 ++ t164) := ⟨_, rfl⟩
       replace H : (sieveref01_Bytes.l0 k1 y167 l0 (l0.length : Int) (wrap64 (x8_1 + 1))) = some r := by first | (rw [hy167]; with_reducible exact H) | (have H2_ := (Option.bind_some _ _).symm.trans H; rw [hy167]; with_reducible exact H2_) | (have H2_ := (Option.bind_some _ _).symm.trans H; with_reducible exact H2_) | with_reducible exact H | (rw [hy167]; exact H) | exact H
       have Ny167 := Aside0.mk hy167
       clear hy167
       have H' := Aside0.mk H
       clear H
       have p163 : 0 ≤ (x8_1 : Int) := of_decide_eq_true (by first | (with_reducible assumption) | assumption)
       have q163 : x8_1 < (l0.length : Int) := of_decide_eq_true (by first | (with_reducible assumption) | assumption)
       obtain ⟨ad163, e163, hx163_0⟩ := Kd.at_int HR0.out x8_1 p163 q163
       cases e163
       replace hx163_0 := (HB.out.cell (World.block_lt_of_cell? w _ hx163_0)).trans hx163_0
       replace p163 := eq_true p163
       replace q163 := eq_true q163
       go_wp2_with (first | ((with_reducible refine gate_callee (f := 61) rfl ?_); refine goesL_ (some 14) rfl rfl Tryd.func61 (by kernel_rfl) rfl #[.int .i32 (rd l0 x8_1)] rfl (by (try simp only [List.map_toArray, List.map_cons, List.map_nil]); first | done | rfl | (simp only [List.length_drop, List.length_take]; rfl) | (simp [*] <;> rfl)) ?_; (with_reducible refine (sieveref01_bytesOf.calls k1 (rd l0 x8_1) t164 _ A5.out).mono ?_); rintro e w7 ⟨v165, rfl, ho0, hb⟩; refine ⟨_, rfl, ?_⟩; have n0_ := Aside0.mk (Kd.R_elder' (by (with_reducible repeat (first | apply Kd.R_alloc | apply Kd.R_drewN | apply Kd.R_drew)); exact HO_3.out) (Kd.R_base ho0) hb); have n1_ := Aside0.mk (Kd.R_lower (Kd.R_new' ho0 (Kd.R_lt (by (with_reducible repeat (first | apply Kd.R_alloc | apply Kd.R_drewN | apply Kd.R_drew)); exact HO_3.out))) (below_size (by repeat (first | (with_reducible first | exact HB.out | apply below_alloc | apply pw_below_drewN | apply below_drew1) | exact HB.out)))); have n2_ := Aside0.mk (below_step (by repeat (first | (with_reducible first | exact HB.out | apply below_alloc | apply pw_below_drewN | apply below_drew1) | exact HB.out)) hb); clear HO_3; clear HB; have HO_3 := n0_; have HO166 := n1_; have HB := n2_; clear n0_ n1_ n2_; (try clear hb); (try clear hb2); (try clear hk); (try clear hi); (try clear ho0); obtain ⟨Ao9, co9, eo9⟩ := Kd.R_slice HO166.out; subst eo9) | ((with_reducible refine gate_builtin (b := .append) (xs := #[.tmp 12, .tmp 14]) rfl ?_); at_builtin; refine Kd.R_append_rows (Kd.int .u8) (w0 := w) w.heap.size rfl (.tmp 12) (.tmp 14) 46 5 (.int .u8 0) 1 rfl Tryd.underlying46 info5 rfl (by decide) (by omega) u3 x3_1 t164 _ _ _ (fun k_ => some k_ ≠ (.slice Ao9 t164.length co9 : Value).ownBlock) (fun _ => False) rfl rfl ?aO ?aR (fun _ _ h => h) (fun _ h => h.elim) ?aF ?aB ?aS ?aL ?_; (case aR => repeat (first | exact (Kd.R_reads' HO166.out).2.2 | (with_reducible refine Kd.C_alloc ?_ _) | (with_reducible refine Kd.C_drewN ?_ _) | (with_reducible refine Kd.C_drew ?_))); (case aB => exact (by repeat (first | (with_reducible first | exact HB.out | apply below_alloc | apply pw_below_drewN | apply below_drew1) | exact HB.out))); (case aF => exact (fun k_ hk => Kd.fresh' (Kd.R_lt (by (with_reducible repeat (first | apply Kd.R_alloc | apply Kd.R_drewN | apply Kd.R_drew)); exact HO166.out)) k_ hk)); (case aO => exact (by (with_reducible repeat (first | apply Kd.R_alloc | apply Kd.R_drewN | apply Kd.R_drew)); exact Kd.R_mono HO_3.out (fun _ hk => hk.2))); (case aS => exact (below_size (by repeat (first | (with_reducible first | exact HB.out | apply below_alloc | apply pw_below_drewN | apply below_drew1) | exact HB.out)))); (case aL => have := LMc6.out; omega); intro v168 w8 ho hb hg hat; rw [← Ny167.out] at ho; have n0_ := Aside0.mk (Kd.R_after (ok := (fun _ => True)) (by (with_reducible repeat (first | apply Kd.R_alloc | apply Kd.R_drewN | apply Kd.R_drew)); exact HO166.out) hg hat); have n1_ := Aside0.mk (hb); have n2_ := Aside0.mk (ho); clear HO166; clear HB; clear HO_3; have HO166 := n0_; have HB := n1_; have HO169 := n2_; clear n0_ n1_ n2_; clear ho hb hg hat))
       go_roundg k1
       case measure => have := HK1.out; omega
       case rel => exact ⟨(y167), (wrap64 (x8_1 + 1)), (by first | rfl | (simp; done) | (simp [*]; done) | (unfold bt; split <;> first | rfl | (exfalso; simp_all; done) | (exfalso; simp_all; omega))), H', ⟨by have := HK1.out; omega⟩, ⟨by (with_reducible repeat (first | apply Kd.R_alloc | apply Kd.R_drewN | apply Kd.R_drew)); exact Kd.R_mono HO169.out (fun _ hk => trivial)⟩, ⟨by repeat (first | (with_reducible first | exact HB.out | apply below_alloc | apply pw_below_drewN | apply below_drew1) | exact HB.out)⟩⟩
      ·rw [if_neg c6] at H
       exact absurd H (by simp)
     ·rw [if_neg c4] at H
      exact absurd H (by simp)
    ·rw [if_neg c3] at H
     exact absurd H (by simp)
   ·rw [if_neg c2] at H
    have c2b0 : decide (x8_1 < (l0.length : Int)) = false := decide_eq_false c2
    clear c2
    obtain rfl := Option.some.inj H
    go_wp2
    go_ret
    exact ⟨_, by first | rfl | (simp [errW_none, errW_some] <;> rfl) | (simp [*, errW_none, errW_some] <;> rfl), by (with_reducible repeat (first | apply Kd.R_alloc | apply Kd.R_drewN | apply Kd.R_drew)); exact HO_3.out, by repeat (first | (with_reducible first | exact HB.out | apply below_alloc | apply pw_below_drewN | apply below_drew1) | exact HB.out)⟩

/-! ### sieveref01_Text: function 26 -/
def sieveref01_Text.f (k : Nat) (l0 : List Int) : Option (ByteArray) := (sieveref01_Bytes.f k l0).bind fun t170 => (some (strOfNums t170))
set_option maxHeartbeats 8000000 in
set_option maxRecDepth 100000 in
theorem sieveref01_Text.calls (k : Nat) (A0 : Option Addr) (c0 : Nat) (l0 : List Int) (r : ByteArray) (w : World) (hr0 : Kd.C (Kd.int .i32) w A0 l0.length l0) (hc0 : l0.length ≤ c0) (h : sieveref01_Text.f k l0 = some r) :
  Calls Tryd.prog 26 #[.slice A0 l0.length c0] w fun e w' => e = .returned (.string r) ∧ Below w.heap.size w w' := by
 have HR0 := Aside0.mk hr0
 have HC0 := Aside0.mk hc0
 clear hr0 hc0
 have HB := Aside0.mk (Below.refl w.heap.size w)
 have H : ((sieveref01_Bytes.f k l0).bind fun t170 => (some (strOfNums t170))) = some r := h
 clear h
 replace H := Option.bind_eq_some_iff.mp H
 obtain ⟨t170, A20, H⟩ := H
 replace H : (some (strOfNums t170)) = some r := H
 have A2 := Aside0.mk A20
 clear A20
 obtain rfl := Option.some.inj H
 go_enter Tryd.func26, Tryd.ntmps26
 go_wp2_with (first | ((with_reducible refine gate_callee (f := 45) rfl ?_); refine goesL_ (some 4) rfl rfl Tryd.func45 (by kernel_rfl) rfl #[.slice A0 l0.length c0] rfl (by (try simp only [List.map_toArray, List.map_cons, List.map_nil]); first | done | rfl | (simp only [List.length_drop, List.length_take]; rfl) | (simp [*] <;> rfl)) ?_; (with_reducible refine (sieveref01_Bytes.calls k _ _ l0 t170 _ ?side1 ?side2 A2.out).mono ?_); (case side1 => repeat (first | exact HR0.out | (with_reducible refine Kd.C_alloc ?_ _) | (with_reducible refine Kd.C_drewN ?_ _) | (with_reducible refine Kd.C_drew ?_))); (case side2 => exact HC0.out); rintro e w3 ⟨v171, rfl, ho0, hb⟩; refine ⟨_, rfl, ?_⟩; have n0_ := Aside0.mk (Kd.R_lower ho0 (below_size (by repeat (first | (with_reducible first | exact HB.out | apply below_alloc | apply pw_below_drewN | apply below_drew1) | exact HB.out)))); have n1_ := Aside0.mk (below_step (by repeat (first | (with_reducible first | exact HB.out | apply below_alloc | apply pw_below_drewN | apply below_drew1) | exact HB.out)) hb); clear HB; have HO172 := n0_; have HB := n1_; clear n0_ n1_; (try clear hb); (try clear hb2); (try clear hk); (try clear hi); (try clear ho0); have hcv4 := own_string (P := Tryd.prog) Tryd.underlying46 Tryd.underlying5 Tryd.underlying9 (Kd.own_of_R HO172.out)))
 go_ret
 exact ⟨by first | rfl | (simp [errW_none, errW_some] <;> rfl) | (simp [*, errW_none, errW_some] <;> rfl), by repeat (first | (with_reducible first | exact HB.out | apply below_alloc | apply pw_below_drewN | apply below_drew1) | exact HB.out)⟩

/-! ### sieveref01_size: function 81 -/
mutual
def sieveref01_size.j0 : Nat → Int → Bool → Option (Int)
 | 0, _, _ => none
 | k + 1, x0, x6 => if x6 = true then (some 2) else (if x0 ≥ 224 then (sieveref01_size.j1 k x0 (decide (x0 ≤ 239))) else (sieveref01_size.j1 k x0 false))
def sieveref01_size.j1 : Nat → Int → Bool → Option (Int)
 | 0, _, _ => none
 | k + 1, x0, x13 => if x13 = true then (some 3) else (if x0 ≥ 240 then (if x0 ≤ 244 then (some 4) else (some 0)) else (some 0))
end
def sieveref01_size.f (k : Nat) (a0 : Int) : Option (Int) := if a0 < 128 then (some 1) else (if a0 ≥ 194 then (sieveref01_size.j0 k a0 (decide (a0 ≤ 223))) else (sieveref01_size.j0 k a0 false))
theorem sieveref01_size.mono_l : ∀ k, (∀ y0 y1, LeO (sieveref01_size.j0 k y0 y1) (sieveref01_size.j0 (k + 1) y0 y1)) ∧ (∀ y0 y1, LeO (sieveref01_size.j1 k y0 y1) (sieveref01_size.j1 (k + 1) y0 y1))
 | 0 => ⟨fun _ _ r h => by simp [sieveref01_size.j0] at h, fun _ _ r h => by simp [sieveref01_size.j1] at h⟩
 | k + 1 => by
  obtain ⟨ih0, ih1⟩ := sieveref01_size.mono_l k
  refine ⟨?_, ?_⟩
  ·intro y0 y1
   unfold sieveref01_size.j0
   repeat' first
   | (with_reducible exact ih0 _ _)
   | (with_reducible exact ih1 _ _)
   | (with_reducible exact LeO.refl _)
   | (with_reducible exact LeO.none _)
   | (with_reducible refine LeO.ite ?_ ?_)
   | (with_reducible refine LeO.bind ?_ (fun _ => ?_))
   | exact ih0 _ _
   | exact ih1 _ _
   | exact LeO.none _
   | refine LeO.ite ?_ ?_
   | refine LeO.bind ?_ (fun _ => ?_)
  ·intro y0 y1
   unfold sieveref01_size.j1
   repeat' first
   | (with_reducible exact ih0 _ _)
   | (with_reducible exact ih1 _ _)
   | (with_reducible exact LeO.refl _)
   | (with_reducible exact LeO.none _)
   | (with_reducible refine LeO.ite ?_ ?_)
   | (with_reducible refine LeO.bind ?_ (fun _ => ?_))
   | exact ih0 _ _
   | exact ih1 _ _
   | exact LeO.none _
   | refine LeO.ite ?_ ?_
   | refine LeO.bind ?_ (fun _ => ?_)
theorem sieveref01_size.mono : ∀ a0 k, LeO (sieveref01_size.f k a0) (sieveref01_size.f (k + 1) a0) := by
 intro a0 k
 obtain ⟨ih0, ih1⟩ := sieveref01_size.mono_l k
 unfold sieveref01_size.f
 repeat' first
   | (with_reducible exact ih0 _ _)
   | (with_reducible exact ih1 _ _)
   | (with_reducible exact LeO.refl _)
   | (with_reducible exact LeO.none _)
   | (with_reducible refine LeO.ite ?_ ?_)
   | (with_reducible refine LeO.bind ?_ (fun _ => ?_))
   | exact ih0 _ _
   | exact ih1 _ _
   | exact LeO.none _
   | refine LeO.ite ?_ ?_
   | refine LeO.bind ?_ (fun _ => ?_)
set_option maxHeartbeats 8000000 in
set_option maxRecDepth 100000 in
theorem sieveref01_size.calls (k : Nat) (a0 : Int) (r : Int) (w : World) (h : sieveref01_size.f k a0 = some r) :
  Calls Tryd.prog 81 #[.int .u8 a0] w fun e w' => e = .returned (.int .i64 r) ∧ Drawn0 w w' := by
 have H : (if a0 < 128 then (some 1) else (if a0 ≥ 194 then (sieveref01_size.j0 k a0 (decide (a0 ≤ 223))) else (sieveref01_size.j0 k a0 false))) = some r := h
 clear h
 by_cases c2 : a0 < 128
 ·rw [if_pos c2] at H
  have c2b0 : decide (a0 < 128) = true := decide_eq_true c2
  clear c2
  obtain rfl := Option.some.inj H
  go_enter Tryd.func81, Tryd.ntmps81
  go_wp2
  go_ret
  exact ⟨by first | rfl | (simp; done) | (simp [*]; done), by repeat (first | exact Drawn0.refl _ | apply Drawn0.step)⟩
 ·rw [if_neg c2] at H
  have c2b0 : decide (a0 < 128) = false := decide_eq_false c2
  clear c2
  have HC3 := Aside0.mk H
  clear H
  go_enter Tryd.func81, Tryd.ntmps81
  go_upto_region 3 with (fail)
  go_cut [6] (fun v6 wc => ∃ (kq : Nat) (x6_2 : Bool), v6 = .bool x6_2 ∧ Aside0 (sieveref01_size.j0 kq a0 x6_2 = some r) ∧ Aside0 (kq ≤ k) ∧ Drawn0 w wc)
  case first =>
   have H := HC3.out
   clear HC3
   by_cases c4 : a0 ≥ 194
   ·rw [if_pos c4] at H
    have c4b0 : decide (194 ≤ a0) = true := decide_eq_true c4
    clear c4
    (first | rw [c4b0] | (simp only [i64_w, i32_w]; rw [c4b0]) | skip)
    have H' := Aside0.mk H
    clear H
    go_wp2
    go_meet
    case rel => exact ⟨_, (decide (a0 ≤ 223)), (by first | rfl | (simp; done) | (simp [*]; done) | (unfold bt; split <;> first | rfl | (exfalso; simp_all; done) | (exfalso; simp_all; omega))), H', ⟨by first | omega | exact Nat.le_refl _⟩, by repeat (first | exact Drawn0.refl _ | apply Drawn0.step)⟩
   ·rw [if_neg c4] at H
    have c4b0 : decide (194 ≤ a0) = false := decide_eq_false c4
    clear c4
    (first | rw [c4b0] | (simp only [i64_w, i32_w]; rw [c4b0]) | skip)
    have H' := Aside0.mk H
    clear H
    go_wp2
    go_meet
    case rel => exact ⟨_, (false), (by first | rfl | (simp; done) | (simp [*]; done) | (unfold bt; split <;> first | rfl | (exfalso; simp_all; done) | (exfalso; simp_all; omega))), H', ⟨by first | omega | exact Nat.le_refl _⟩, by repeat (first | exact Drawn0.refl _ | apply Drawn0.step)⟩
  case rest =>
   clear HC3
   try clear c2
   try clear c2b0
   try clear p2
   try clear c4
   try clear c4b0
   obtain ⟨kq, x6_2, rfl, HA, HJ2, ⟨mc2, rfl⟩⟩ := hcut
   cases kq with
   | zero => exact absurd HA.out (by simp [sieveref01_size.j0])
   | succ kj2 =>
    have H := HA.out
    clear HA
    simp only [sieveref01_size.j0] at H
    by_cases c5 : x6_2 = true
    ·subst c5
     have H1 : (some 2) = some r := by rw [if_pos rfl] at H; exact H
     clear H
     have H := H1
     clear H1
     obtain rfl := Option.some.inj H
     go_wp2
     go_ret
     exact ⟨by first | rfl | (simp; done) | (simp [*]; done), by repeat (first | exact Drawn0.refl _ | apply Drawn0.step)⟩
    ·replace c5 := Bool.eq_false_iff.mpr c5
     subst c5
     have H1 : (if a0 ≥ 224 then (sieveref01_size.j1 kj2 a0 (decide (a0 ≤ 239))) else (sieveref01_size.j1 kj2 a0 false)) = some r := by rw [if_neg (show ¬ (false = true) by decide)] at H; exact H
     clear H
     have H := H1
     clear H1
     have HC6 := Aside0.mk H
     clear H
     go_upto_region 5 with (fail)
     go_cut [13] (fun v13 wc => ∃ (kq : Nat) (x13_5 : Bool), v13 = .bool x13_5 ∧ Aside0 (sieveref01_size.j1 kq a0 x13_5 = some r) ∧ Aside0 (kq ≤ kj2) ∧ Drawn0 w wc)
     case first =>
      have H := HC6.out
      clear HC6
      by_cases c7 : a0 ≥ 224
      ·rw [if_pos c7] at H
       have c7b0 : decide (224 ≤ a0) = true := decide_eq_true c7
       clear c7
       (first | rw [c7b0] | (simp only [i64_w, i32_w]; rw [c7b0]) | skip)
       have H' := Aside0.mk H
       clear H
       go_wp2
       go_meet
       case rel => exact ⟨_, (decide (a0 ≤ 239)), (by first | rfl | (simp; done) | (simp [*]; done) | (unfold bt; split <;> first | rfl | (exfalso; simp_all; done) | (exfalso; simp_all; omega))), H', ⟨by have := HJ2.out; first | omega | exact Nat.le_refl _⟩, by repeat (first | exact Drawn0.refl _ | apply Drawn0.step)⟩
      ·rw [if_neg c7] at H
       have c7b0 : decide (224 ≤ a0) = false := decide_eq_false c7
       clear c7
       (first | rw [c7b0] | (simp only [i64_w, i32_w]; rw [c7b0]) | skip)
       have H' := Aside0.mk H
       clear H
       go_wp2
       go_meet
       case rel => exact ⟨_, (false), (by first | rfl | (simp; done) | (simp [*]; done) | (unfold bt; split <;> first | rfl | (exfalso; simp_all; done) | (exfalso; simp_all; omega))), H', ⟨by have := HJ2.out; first | omega | exact Nat.le_refl _⟩, by repeat (first | exact Drawn0.refl _ | apply Drawn0.step)⟩
     case rest =>
      clear HC6
      try clear c2
      try clear c2b0
      try clear p2
      try clear c4
      try clear c4b0
      try clear c5
      try clear c7
      try clear c7b0
      try clear p2
      obtain ⟨kq, x13_5, rfl, HA, HJ5, ⟨mc5, rfl⟩⟩ := hcut
      cases kq with
      | zero => exact absurd HA.out (by simp [sieveref01_size.j1])
      | succ kj5 =>
       have H := HA.out
       clear HA
       simp only [sieveref01_size.j1] at H
       by_cases c8 : x13_5 = true
       ·subst c8
        have H1 : (some 3) = some r := by rw [if_pos rfl] at H; exact H
        clear H
        have H := H1
        clear H1
        obtain rfl := Option.some.inj H
        go_wp2
        go_ret
        exact ⟨by first | rfl | (simp; done) | (simp [*]; done), by repeat (first | exact Drawn0.refl _ | apply Drawn0.step)⟩
       ·replace c8 := Bool.eq_false_iff.mpr c8
        subst c8
        have H1 : (if a0 ≥ 240 then (if a0 ≤ 244 then (some 4) else (some 0)) else (some 0)) = some r := by rw [if_neg (show ¬ (false = true) by decide)] at H; exact H
        clear H
        have H := H1
        clear H1
        by_cases c9 : a0 ≥ 240
        ·rw [if_pos c9] at H
         have c9b0 : decide (240 ≤ a0) = true := decide_eq_true c9
         clear c9
         by_cases c10 : a0 ≤ 244
         ·rw [if_pos c10] at H
          have c10b0 : decide (a0 ≤ 244) = true := decide_eq_true c10
          clear c10
          obtain rfl := Option.some.inj H
          go_wp2
          go_ret
          exact ⟨by first | rfl | (simp; done) | (simp [*]; done), by repeat (first | exact Drawn0.refl _ | apply Drawn0.step)⟩
         ·rw [if_neg c10] at H
          have c10b0 : decide (a0 ≤ 244) = false := decide_eq_false c10
          clear c10
          obtain rfl := Option.some.inj H
          go_wp2
          go_ret
          exact ⟨by first | rfl | (simp; done) | (simp [*]; done), by repeat (first | exact Drawn0.refl _ | apply Drawn0.step)⟩
        ·rw [if_neg c9] at H
         have c9b0 : decide (240 ≤ a0) = false := decide_eq_false c9
         clear c9
         obtain rfl := Option.some.inj H
         go_wp2
         go_ret
         exact ⟨by first | rfl | (simp; done) | (simp [*]; done), by repeat (first | exact Drawn0.refl _ | apply Drawn0.step)⟩

/-! ### sieveref01_second: function 82 -/
def sieveref01_second.f (a0 : Int) (a1 : Int) : Option (Bool) := if a0 = 224 then (if a1 ≥ 160 then (some (decide (a1 ≤ 191))) else (some false)) else (if a0 = 237 then (if a1 ≥ 128 then (some (decide (a1 ≤ 159))) else (some false)) else (if a0 = 240 then (if a1 ≥ 144 then (some (decide (a1 ≤ 191))) else (some false)) else (if a0 = 244 then (if a1 ≥ 128 then (some (decide (a1 ≤ 143))) else (some false)) else (if a1 ≥ 128 then (some (decide (a1 ≤ 191))) else (some false)))))
set_option maxHeartbeats 8000000 in
set_option maxRecDepth 100000 in
theorem sieveref01_second.calls (a0 : Int) (a1 : Int) (r : Bool) (w : World) (h : sieveref01_second.f a0 a1 = some r) :
  Calls Tryd.prog 82 #[.int .u8 a0, .int .u8 a1] w fun e w' => e = .returned (.bool r) ∧ Drawn0 w w' := by
 have H : (if a0 = 224 then (if a1 ≥ 160 then (some (decide (a1 ≤ 191))) else (some false)) else (if a0 = 237 then (if a1 ≥ 128 then (some (decide (a1 ≤ 159))) else (some false)) else (if a0 = 240 then (if a1 ≥ 144 then (some (decide (a1 ≤ 191))) else (some false)) else (if a0 = 244 then (if a1 ≥ 128 then (some (decide (a1 ≤ 143))) else (some false)) else (if a1 ≥ 128 then (some (decide (a1 ≤ 191))) else (some false)))))) = some r := h
 clear h
 by_cases c3 : a0 = 224
 ·rw [if_pos c3] at H
  have c3b0 : (a0 == 224) = true := beq_iff_eq.mpr c3
  have c3b1 : (a0 != 224) = false := bne_eq_false_iff_eq.mpr c3
  clear c3
  by_cases c4 : a1 ≥ 160
  ·rw [if_pos c4] at H
   have c4b0 : decide (160 ≤ a1) = true := decide_eq_true c4
   clear c4
   obtain rfl := Option.some.inj H
   go_enter Tryd.func82, Tryd.ntmps82
   go_wp2
   go_ret
   exact ⟨by first | rfl | (simp; done) | (simp [*]; done), by repeat (first | exact Drawn0.refl _ | apply Drawn0.step)⟩
  ·rw [if_neg c4] at H
   have c4b0 : decide (160 ≤ a1) = false := decide_eq_false c4
   clear c4
   obtain rfl := Option.some.inj H
   go_enter Tryd.func82, Tryd.ntmps82
   go_wp2
   go_ret
   exact ⟨by first | rfl | (simp; done) | (simp [*]; done), by repeat (first | exact Drawn0.refl _ | apply Drawn0.step)⟩
 ·rw [if_neg c3] at H
  have c3b0 : (a0 == 224) = false := beq_eq_false_iff_ne.mpr c3
  have c3b1 : (a0 != 224) = true := bne_iff_ne.mpr c3
  by_cases c5 : a0 = 237
  ·rw [if_pos c5] at H
   have c5b0 : (a0 == 237) = true := beq_iff_eq.mpr c5
   have c5b1 : (a0 != 237) = false := bne_eq_false_iff_eq.mpr c5
   clear c5
   by_cases c6 : a1 ≥ 128
   ·rw [if_pos c6] at H
    have c6b0 : decide (128 ≤ a1) = true := decide_eq_true c6
    clear c6
    obtain rfl := Option.some.inj H
    go_enter Tryd.func82, Tryd.ntmps82
    go_wp2
    go_ret
    exact ⟨by first | rfl | (simp; done) | (simp [*]; done), by repeat (first | exact Drawn0.refl _ | apply Drawn0.step)⟩
   ·rw [if_neg c6] at H
    have c6b0 : decide (128 ≤ a1) = false := decide_eq_false c6
    clear c6
    obtain rfl := Option.some.inj H
    go_enter Tryd.func82, Tryd.ntmps82
    go_wp2
    go_ret
    exact ⟨by first | rfl | (simp; done) | (simp [*]; done), by repeat (first | exact Drawn0.refl _ | apply Drawn0.step)⟩
  ·rw [if_neg c5] at H
   have c5b0 : (a0 == 237) = false := beq_eq_false_iff_ne.mpr c5
   have c5b1 : (a0 != 237) = true := bne_iff_ne.mpr c5
   by_cases c7 : a0 = 240
   ·rw [if_pos c7] at H
    have c7b0 : (a0 == 240) = true := beq_iff_eq.mpr c7
    have c7b1 : (a0 != 240) = false := bne_eq_false_iff_eq.mpr c7
    clear c7
    by_cases c8 : a1 ≥ 144
    ·rw [if_pos c8] at H
     have c8b0 : decide (144 ≤ a1) = true := decide_eq_true c8
     clear c8
     obtain rfl := Option.some.inj H
     go_enter Tryd.func82, Tryd.ntmps82
     go_wp2
     go_ret
     exact ⟨by first | rfl | (simp; done) | (simp [*]; done), by repeat (first | exact Drawn0.refl _ | apply Drawn0.step)⟩
    ·rw [if_neg c8] at H
     have c8b0 : decide (144 ≤ a1) = false := decide_eq_false c8
     clear c8
     obtain rfl := Option.some.inj H
     go_enter Tryd.func82, Tryd.ntmps82
     go_wp2
     go_ret
     exact ⟨by first | rfl | (simp; done) | (simp [*]; done), by repeat (first | exact Drawn0.refl _ | apply Drawn0.step)⟩
   ·rw [if_neg c7] at H
    have c7b0 : (a0 == 240) = false := beq_eq_false_iff_ne.mpr c7
    have c7b1 : (a0 != 240) = true := bne_iff_ne.mpr c7
    by_cases c9 : a0 = 244
    ·rw [if_pos c9] at H
     have c9b0 : (a0 == 244) = true := beq_iff_eq.mpr c9
     have c9b1 : (a0 != 244) = false := bne_eq_false_iff_eq.mpr c9
     clear c9
     by_cases c10 : a1 ≥ 128
     ·rw [if_pos c10] at H
      have c10b0 : decide (128 ≤ a1) = true := decide_eq_true c10
      clear c10
      obtain rfl := Option.some.inj H
      go_enter Tryd.func82, Tryd.ntmps82
      go_wp2
      go_ret
      exact ⟨by first | rfl | (simp; done) | (simp [*]; done), by repeat (first | exact Drawn0.refl _ | apply Drawn0.step)⟩
     ·rw [if_neg c10] at H
      have c10b0 : decide (128 ≤ a1) = false := decide_eq_false c10
      clear c10
      obtain rfl := Option.some.inj H
      go_enter Tryd.func82, Tryd.ntmps82
      go_wp2
      go_ret
      exact ⟨by first | rfl | (simp; done) | (simp [*]; done), by repeat (first | exact Drawn0.refl _ | apply Drawn0.step)⟩
    ·rw [if_neg c9] at H
     have c9b0 : (a0 == 244) = false := beq_eq_false_iff_ne.mpr c9
     have c9b1 : (a0 != 244) = true := bne_iff_ne.mpr c9
     by_cases c11 : a1 ≥ 128
     ·rw [if_pos c11] at H
      have c11b0 : decide (128 ≤ a1) = true := decide_eq_true c11
      clear c11
      obtain rfl := Option.some.inj H
      go_enter Tryd.func82, Tryd.ntmps82
      go_wp2
      go_ret
      exact ⟨by first | rfl | (simp; done) | (simp [*]; done), by repeat (first | exact Drawn0.refl _ | apply Drawn0.step)⟩
     ·rw [if_neg c11] at H
      have c11b0 : decide (128 ≤ a1) = false := decide_eq_false c11
      clear c11
      obtain rfl := Option.some.inj H
      go_enter Tryd.func82, Tryd.ntmps82
      go_wp2
      go_ret
      exact ⟨by first | rfl | (simp; done) | (simp [*]; done), by repeat (first | exact Drawn0.refl _ | apply Drawn0.step)⟩

end Go.Proofs.YthmbbkbmlnaghaaDoor.P
end
section
/-
 The decimal reference of a rune, in plain Lean: the document's Encode.
-/
namespace Go.Proofs.YthmbbkbmlnaghaaDoor.P
open Go.RowKit Go.Proofs.YthmbbkbmlnaghaaDoorW.PrintWords Go.Proofs.YthmbbkbmlnaghaaDoorW.PrintLast Go.Proofs.YthmbbkbmlnaghaaDoorW.PrintMore
set_option linter.unusedVariables false
set_option linter.unusedSimpArgs false

/-- the number that stands for a rune -/
def encR (r : Int) : Nat := if r < 0 ∨ r > 1114111 ∨ (55296 ≤ r ∧ r ≤ 57343) then 65533 else r.toNat
def encS (n : Nat) : ByteArray := ⟨([38, 35] ++ Lib.decDigits n ++ [59]).toArray⟩
theorem encR_le (r : Int) : encR r ≤ 1114111 := by
 unfold encR
 split <;> omega
theorem bytes_eqL {a b : ByteArray} (h : a.data.toList = b.data.toList) : a = b := by
 cases a with
 | mk x =>
  cases b with
  | mk y =>
   congr 1
   exact Array.toList_inj.1 h
end Go.Proofs.YthmbbkbmlnaghaaDoor.P
end
section
/-
 charref.Encode: the decimal reference of a rune (strconv.Itoa by the shelf's contract).
-/
namespace Go.Proofs.YthmbbkbmlnaghaaDoor.P
open Go.RowKit Go.Proofs.YthmbbkbmlnaghaaDoorW.PrintWords Go.Proofs.YthmbbkbmlnaghaaDoorW.PrintLast Go.Proofs.YthmbbkbmlnaghaaDoorW.PrintMore
set_option linter.unusedVariables false
set_option linter.unusedSimpArgs false

/-- the table that strconv's digits are counted by -/
def PowTab (w : World) : Prop := Lib.TabIs Tryd.prog w "internal/strconv.uint64pow10" .u64 Lib.pow10Tab
theorem below_grow (w : World) (os : Array Obj) : Below w.heap.size w (Go.Sort.grow w os) := by
 refine ⟨rfl, rfl, rfl, ?_, fun k hk => ?_⟩
 ·unfold Go.Sort.grow
  simp
 ·show (w.heap ++ os)[k]? = w.heap[k]?
  rw [Array.getElem?_append_left hk]
theorem powTab_below {w w' : World} (h : PowTab w) (hb : Below w.heap.size w w') : PowTab w' := by
 unfold PowTab Lib.TabIs World.var? at *
 cases hg : Tryd.prog.globalNamed "internal/strconv.uint64pow10" with
 | none => rw [hg] at h; cases h
 | some g =>
  rw [hg] at h
  simp only [Option.bind_some] at h ⊢
  cases ho : w.heap[g]? with
  | none => rw [ho] at h; cases h
  | some o =>
   rw [hb.block g (Array.getElem?_eq_some_iff.1 ho).1]
   exact h
theorem itoa_calls (n : Nat) (hn : n ≤ 1114111) (w : World) (ht : PowTab w) :
  Calls Tryd.prog 21 #[.int .i64 (n : Nat)] w fun e w' => e = .returned (.string ⟨(Lib.decDigits n).toArray⟩) ∧ Below w.heap.size w w' := by
 refine (Tryd.strconv_Itoa (n : Int) (by omega) (by omega) w ht).mono ?_
 rintro e w' ⟨rfl, k, os, rfl⟩
 rw [Lib.itoa_nonneg]
 exact ⟨rfl, (pw_below_drewN (Below.refl _ w) k).trans ((below_grow (w.drewN k) os).mono (Nat.le_refl _))⟩
theorem decDigits_short (n : Nat) (hn : n ≤ 1114111) : (Lib.decDigits n).length ≤ 21 := by
 have := Lib.itoa_length_le (n : Int) (by omega) (by omega)
 rwa [Lib.itoa_nonneg] at this

set_option maxHeartbeats 4000000 in
theorem encode_calls (r : Int) (w : World) (hr0 : -2147483648 ≤ r) (hr1 : r ≤ 2147483647) (ht : PowTab w) :
  Calls Tryd.prog 9 #[.int .i32 r] w fun e w' => e = .returned (.string (encS (encR r))) ∧ Below w.heap.size w w' := by
 have main : ∀ n : Nat, encR r = n → n ≤ 1114111 → encS n = (⟨#[38, 35]⟩ : ByteArray) ++ ⟨(Lib.decDigits n).toArray⟩ ++ ⟨#[59]⟩ := fun n _ _ => bytes_eqL (by
  rw [ByteArray.data_append, Array.toList_append, ByteArray.data_append, Array.toList_append]
  rfl)
 have hm := main (encR r) rfl (encR_le r)
 have HI := Aside0.mk (itoa_calls (encR r) (encR_le r) w ht)
 have hlen : (⟨(Lib.decDigits (encR r)).toArray⟩ : ByteArray).size ≤ 21 := by
  have h1 := decDigits_short (encR r) (encR_le r)
  exact h1
 have hz1 : (9223372036854775807 < 2 + (⟨(Lib.decDigits (encR r)).toArray⟩ : ByteArray).size) = False := eq_false (by omega)
 have hz2 : (9223372036854775807 < 2 + (⟨(Lib.decDigits (encR r)).toArray⟩ : ByteArray).size + 1) = False := eq_false (by omega)
 rw [hm]
 clear hm main ht
 generalize (⟨(Lib.decDigits (encR r)).toArray⟩ : ByteArray) = D at HI hlen hz1 hz2
 unfold encR at HI
 by_cases c1 : r < 0
 ·rw [if_pos (.inl c1)] at HI
  go_enter Tryd.func9, Tryd.ntmps9
  go_wp2_with (go_at_call 21; refine HI.out.mono ?_; rintro e w1 ⟨rfl, hb⟩)
  go_ret
  exact ⟨rfl, hb⟩
 ·by_cases c2 : r > 1114111
  ·rw [if_pos (.inr (.inl c2))] at HI
   go_enter Tryd.func9, Tryd.ntmps9
   go_wp2_with (go_at_call 21; refine HI.out.mono ?_; rintro e w1 ⟨rfl, hb⟩)
   go_ret
   exact ⟨rfl, hb⟩
  ·by_cases c3 : 55296 ≤ r ∧ r ≤ 57343
   ·rw [if_pos (.inr (.inr c3))] at HI
    obtain ⟨c4, c5⟩ := c3
    go_enter Tryd.func9, Tryd.ntmps9
    go_wp2_with (go_at_call 21; refine HI.out.mono ?_; rintro e w1 ⟨rfl, hb⟩)
    go_ret
    exact ⟨rfl, hb⟩
   ·rw [if_neg (by omega)] at HI
    obtain ⟨n, rfl⟩ : ∃ n : Nat, r = n := ⟨r.toNat, by omega⟩
    rw [Int.toNat_natCast] at HI
    by_cases c4 : 55296 ≤ (n : Int)
    ·have c5 : ¬ (n : Int) ≤ 57343 := fun h => c3 ⟨c4, h⟩
     clear c3
     go_enter Tryd.func9, Tryd.ntmps9
     go_wp2_with (go_at_call 21; refine HI.out.mono ?_; rintro e w1 ⟨rfl, hb⟩)
     go_ret
     exact ⟨rfl, hb⟩
    ·clear c3
     go_enter Tryd.func9, Tryd.ntmps9
     go_wp2_with (go_at_call 21; refine HI.out.mono ?_; rintro e w1 ⟨rfl, hb⟩)
     go_ret
     exact ⟨rfl, hb⟩
end Go.Proofs.YthmbbkbmlnaghaaDoor.P
end
section
namespace Go.Proofs.YthmbbkbmlnaghaaDoor.P
open Go.RowKit Go.Proofs.YthmbbkbmlnaghaaDoorW.PrintWords Go.Proofs.YthmbbkbmlnaghaaDoorW.PrintLast Go.Proofs.YthmbbkbmlnaghaaDoorW.PrintMore
attribute [local go_sem] max2_int min2_int max_two min_two max_three min_three max_four min_four   -- for this text's walks alone
set_option linter.unusedVariables false
set_option linter.unusedSimpArgs false

/-! ### sievelaw06_awake: function 11 -/
def sievelaw06_awake.f (k : Nat)  : Option (Bool) := (charref_Decode.f k (⟨#[97, 38, 99, 111, 112, 121, 61, 49, 38, 35, 120, 52, 49, 59]⟩ : ByteArray) true).bind fun t288 => (if t288.toList = ([97, 38, 99, 111, 112, 121, 61, 49, 65] : List UInt8) then ((charref_Decode.f k (⟨#[38, 97, 109, 112, 59, 38, 108, 116, 59]⟩ : ByteArray) false).bind fun t289 => (some (t289.toList == ([38, 60] : List UInt8)))) else (some false))
set_option maxHeartbeats 8000000 in
set_option maxRecDepth 100000 in
theorem sievelaw06_awake.calls (k : Nat)  (r : Bool) (w : World) (h : sievelaw06_awake.f k  = some r) :
  Calls Tryd.prog 11 #[] w fun e w' => e = .returned (.bool r) ∧ Below w.heap.size w w' := by
 have HB := Aside0.mk (Below.refl w.heap.size w)
 have H : ((charref_Decode.f k (⟨#[97, 38, 99, 111, 112, 121, 61, 49, 38, 35, 120, 52, 49, 59]⟩ : ByteArray) true).bind fun t288 => (if t288.toList = ([97, 38, 99, 111, 112, 121, 61, 49, 65] : List UInt8) then ((charref_Decode.f k (⟨#[38, 97, 109, 112, 59, 38, 108, 116, 59]⟩ : ByteArray) false).bind fun t289 => (some (t289.toList == ([38, 60] : List UInt8)))) else (some false))) = some r := h
 clear h
 replace H := Option.bind_eq_some_iff.mp H
 obtain ⟨t288, A10, H⟩ := H
 replace H : (if t288.toList = ([97, 38, 99, 111, 112, 121, 61, 49, 65] : List UInt8) then ((charref_Decode.f k (⟨#[38, 97, 109, 112, 59, 38, 108, 116, 59]⟩ : ByteArray) false).bind fun t289 => (some (t289.toList == ([38, 60] : List UInt8)))) else (some false)) = some r := H
 have A1 := Aside0.mk A10
 clear A10
 by_cases c2 : t288.toList = ([97, 38, 99, 111, 112, 121, 61, 49, 65] : List UInt8)
 ·rw [if_pos c2] at H
  have c2b0 : (t288.toList == ([97, 38, 99, 111, 112, 121, 61, 49, 65] : List UInt8)) = true := beq_iff_eq.mpr c2
  have c2b1 : (t288.toList != ([97, 38, 99, 111, 112, 121, 61, 49, 65] : List UInt8)) = false := bne_eq_false_iff_eq.mpr c2
  clear c2
  replace H := Option.bind_eq_some_iff.mp H
  obtain ⟨t289, A30, H⟩ := H
  replace H : (some (t289.toList == ([38, 60] : List UInt8))) = some r := H
  have A3 := Aside0.mk A30
  clear A30
  obtain rfl := Option.some.inj H
  go_enter Tryd.func11, Tryd.ntmps11
  go_wp2_with (first | ((with_reducible refine gate_callee (f := 13) rfl ?_); refine goesL_ (some 1) rfl rfl Tryd.func13 (by kernel_rfl) rfl #[.string (⟨#[97, 38, 99, 111, 112, 121, 61, 49, 38, 35, 120, 52, 49, 59]⟩ : ByteArray), .bool true] rfl (by (try simp only [List.map_toArray, List.map_cons, List.map_nil]); first | done | rfl | (simp only [List.length_drop, List.length_take]; rfl) | (simp [*] <;> rfl)) ?_; (with_reducible refine (charref_Decode.calls k (⟨#[97, 38, 99, 111, 112, 121, 61, 49, 38, 35, 120, 52, 49, 59]⟩ : ByteArray) true t288 _ A1.out).mono ?_); rintro e w4 ⟨rfl, hb⟩; refine ⟨_, rfl, ?_⟩; have n0_ := Aside0.mk (below_step (by repeat (first | (with_reducible first | exact HB.out | apply below_alloc | apply pw_below_drewN | apply below_drew1) | exact HB.out)) hb); clear HB; have HB := n0_; clear n0_; (try clear hb); (try clear hb2); (try clear hk); (try clear hi)) | (go_at_call 13; (with_reducible refine (charref_Decode.calls k (⟨#[38, 97, 109, 112, 59, 38, 108, 116, 59]⟩ : ByteArray) false t289 _ A3.out).mono ?_); rintro e w5 ⟨rfl, hb⟩; have n0_ := Aside0.mk (below_step (by repeat (first | (with_reducible first | exact HB.out | apply below_alloc | apply pw_below_drewN | apply below_drew1) | exact HB.out)) hb); clear HB; have HB := n0_; clear n0_; (try clear hb); (try clear hb2); (try clear hk); (try clear hi)))
  go_ret
  exact ⟨by first | rfl | (simp [errW_none, errW_some] <;> rfl) | (simp [*, errW_none, errW_some] <;> rfl), by repeat (first | (with_reducible first | exact HB.out | apply below_alloc | apply pw_below_drewN | apply below_drew1) | exact HB.out)⟩
 ·rw [if_neg c2] at H
  have c2b0 : (t288.toList == ([97, 38, 99, 111, 112, 121, 61, 49, 65] : List UInt8)) = false := beq_eq_false_iff_ne.mpr c2
  have c2b1 : (t288.toList != ([97, 38, 99, 111, 112, 121, 61, 49, 65] : List UInt8)) = true := bne_iff_ne.mpr c2
  obtain rfl := Option.some.inj H
  go_enter Tryd.func11, Tryd.ntmps11
  go_wp2_with (first | ((with_reducible refine gate_callee (f := 13) rfl ?_); refine goesL_ (some 1) rfl rfl Tryd.func13 (by kernel_rfl) rfl #[.string (⟨#[97, 38, 99, 111, 112, 121, 61, 49, 38, 35, 120, 52, 49, 59]⟩ : ByteArray), .bool true] rfl (by (try simp only [List.map_toArray, List.map_cons, List.map_nil]); first | done | rfl | (simp only [List.length_drop, List.length_take]; rfl) | (simp [*] <;> rfl)) ?_; (with_reducible refine (charref_Decode.calls k (⟨#[97, 38, 99, 111, 112, 121, 61, 49, 38, 35, 120, 52, 49, 59]⟩ : ByteArray) true t288 _ A1.out).mono ?_); rintro e w6 ⟨rfl, hb⟩; refine ⟨_, rfl, ?_⟩; have n0_ := Aside0.mk (below_step (by repeat (first | (with_reducible first | exact HB.out | apply below_alloc | apply pw_below_drewN | apply below_drew1) | exact HB.out)) hb); clear HB; have HB := n0_; clear n0_; (try clear hb); (try clear hb2); (try clear hk); (try clear hi)))
  go_ret
  exact ⟨by first | rfl | (simp [errW_none, errW_some] <;> rfl) | (simp [*, errW_none, errW_some] <;> rfl), by repeat (first | (with_reducible first | exact HB.out | apply below_alloc | apply pw_below_drewN | apply below_drew1) | exact HB.out)⟩

end Go.Proofs.YthmbbkbmlnaghaaDoor.P
end
section
/-
 The example that every law asks first.
-/
namespace Go.Proofs.YthmbbkbmlnaghaaDoor.P
open Go.RowKit Go.Shelf Go.Proofs.YthmbbkbmlnaghaaDoorW.PrintWords Go.Proofs.YthmbbkbmlnaghaaDoorW.PrintLast Go.Proofs.YthmbbkbmlnaghaaDoorW.PrintMore
set_option linter.unusedVariables false
set_option linter.unusedSimpArgs false

theorem cuts_awake : sievelaw06_awake.f 400 = some true := by decide +kernel
end Go.Proofs.YthmbbkbmlnaghaaDoor.P
end
section
/-
 Small words..
-/
namespace Go.Proofs.YthmbbkbmlnaghaaDoor.P
open Go.RowKit Go.Proofs.YthmbbkbmlnaghaaDoorW.PrintWords Go.Proofs.YthmbbkbmlnaghaaDoorW.PrintLast Go.Proofs.YthmbbkbmlnaghaaDoorW.PrintMore
set_option linter.unusedVariables false
set_option linter.unusedSimpArgs false

theorem wrap32_nat (a : Nat) (h : a < 2147483648) : wrap32 (a : Int) = (a : Int) := by unfold wrap32; omega
end Go.Proofs.YthmbbkbmlnaghaaDoor.P
end
