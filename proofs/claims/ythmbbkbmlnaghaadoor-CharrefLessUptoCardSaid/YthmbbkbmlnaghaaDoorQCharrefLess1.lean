/-
  Part 2 of 5 of the proof's texts, joined: PA0, PA1, Hent, Hsays, Hconv, PA5, Hnum.
  (Where a joined text began as one that the kit's print.sh printed, it is trimmed here to what this claim uses, by this session's pack.py.)
-/
import Derived.Test.YthmbbkbmlnaghaaDoorQCharrefLess0
import Derived.Test.YthmbbkbmlnaghaaDoorProg
import Derived.Below
import Derived.Deep.Draws
import Derived.Deep.AppendLies
import Derived.Maps.AppendAt
import Derived.OwnWalk
import Derived.Laws.BytesArg
import Derived.Laws.MakeOwn
import Derived.Laws.OwnMore
import Derived.Deep.OwnRows
import Derived.Tactics
import Derived.Lib.ConvBytes
import Derived.Laws.Slices
import Derived.WalkKit
import Derived.KernelRfl
import Derived.RowKit3
import Derived.Deep.LoopGhost
import Derived.Deep.QuietTactic
import Derived.BigQuiet
import Derived.WideLaws
import Derived.Deep.DeepCutAuto
import Derived.Deep.CutBlock
import Derived.Deep.RegionHeld3
import Derived.Laws.Rows
import Derived.Lib.AppendStr
import Derived.ArgAppend
import Derived.Laws.IdiomCopy
import Derived.OrdersHeld
import Derived.Laws.BitsLemmas
import Derived.RowKit
import Derived.Deep.WholeRow
import Derived.Laws.Cover4
import Derived.ScopeJumps
section
namespace Go.Proofs.YthmbbkbmlnaghaaDoor.P
open Go.RowKit Go.Proofs.YthmbbkbmlnaghaaDoorW.PrintWords Go.Proofs.YthmbbkbmlnaghaaDoorW.PrintLast Go.Proofs.YthmbbkbmlnaghaaDoorW.PrintMore
attribute [local go_sem] max2_int min2_int max_two min_two max_three min_three max_four min_four   -- for this text's walks alone
set_option linter.unusedVariables false
set_option linter.unusedSimpArgs false



def errW : Option Int → Value
 | none => .nilIface
 | some c => .iface 0 (.int .i64 c)
theorem errW_none : errW none = .nilIface := rfl
theorem errW_some (c : Int) : errW (some c) = .iface 0 (.int .i64 c) := rfl

theorem info5 : (Tryd.prog.info? 5).map (fun i => (i.zero, i.size, i.bytes)) = some (some (.int .u8 0), 1, 1) := by kernel_rfl
theorem info21 : (Tryd.prog.info? 21).map (fun i => (i.zero, i.size, i.bytes)) = some (some (.int .i32 0), 1, 4) := by kernel_rfl
theorem info70 : (Tryd.prog.info? 70).map (fun i => (i.zero, i.size, i.bytes)) = some (some (.agg #[(.int .i32 0), (.int .i64 0), (.int .i64 0), (.bool false)]), 4, 32) := by kernel_rfl
-- the values' own types
/-! #### struct type 70 -/
structure S70 where
 f0 : Int
 f1 : Int
 f2 : Int
 f3 : Bool
def z70 : S70 := ⟨(0 : Int), (0 : Int), (0 : Int), false⟩
def k70 : Kd S70 := Kd.iso (Kd.pair (Kd.int .i32) (Kd.pair (Kd.int .i64) (Kd.pair (Kd.int .i64) Kd.bool))) (fun x : S70 => (x.f0, x.f1, x.f2, x.f3))
theorem k70_open {w : World} {x : S70} {cs : List Value} (h : k70.K w x cs) : cs = [.int .i32 x.f0, .int .i64 x.f1, .int .i64 x.f2, .bool x.f3] := by
 obtain ⟨_, _, rfl, rfl, ⟨_, _, rfl, rfl, ⟨_, _, rfl, rfl, rfl⟩⟩⟩ := h
 exact rfl
theorem k70_mkM (w : World) (base : Nat) (ok : Nat → Prop) (x : S70)  : k70.M w base ok x [.int .i32 x.f0, .int .i64 x.f1, .int .i64 x.f2, .bool x.f3] := ⟨[.int .i32 x.f0], [.int .i64 x.f1, .int .i64 x.f2, .bool x.f3], rfl, rfl, ⟨[.int .i64 x.f1], [.int .i64 x.f2, .bool x.f3], rfl, rfl, ⟨[.int .i64 x.f2], [.bool x.f3], rfl, rfl, rfl⟩⟩⟩
def rd_T70 (xs : List S70) (i : Int) : S70 := xs.getD i.toNat z70
theorem at_T70 {w : World} {A : Option Addr} {n : Nat} {xs : List S70} (h : Kd.C k70 w A n xs) (i : Int) (h0 : 0 ≤ i) (h1 : i < n) : ∃ ad , A = some ad ∧ w.cell? (ad.add (i.toNat * 4)) = some (.int .i32 (rd_T70 xs i).f0) ∧ w.cell? ⟨(ad.add (i.toNat * 4)).block, (ad.add (i.toNat * 4)).off + 1, none⟩ = some (.int .i64 (rd_T70 xs i).f1) ∧ w.cell? ⟨(ad.add (i.toNat * 4)).block, (ad.add (i.toNat * 4)).off + 2, none⟩ = some (.int .i64 (rd_T70 xs i).f2) ∧ w.cell? ⟨(ad.add (i.toNat * 4)).block, (ad.add (i.toNat * 4)).off + 3, none⟩ = some (.bool (rd_T70 xs i).f3) := by
 obtain ⟨ad, c, e, _, hK, hc0⟩ := Kd.C_get h z70 i h0 h1
 have hc : ∀ j u, c[j]? = some u → w.cell? (ad.add (i.toNat * 4 + j)) = some u := hc0
 obtain rfl := k70_open hK
 exact ⟨ad, e, hc 0 _ rfl, by rw [← add_field _ _ 1 (by omega)]; exact hc 1 _ rfl, by rw [← add_field _ _ 2 (by omega)]; exact hc 2 _ rfl, by rw [← add_field _ _ 3 (by omega)]; exact hc 3 _ rfl⟩

/-! #### struct type 75 -/
structure S75 where
 f0 : ByteArray
 f1 : Int
 f2 : Int
 f3 : Bool
def z75 : S75 := ⟨(⟨#[]⟩ : ByteArray), (0 : Int), (0 : Int), false⟩
def k75 : Kd S75 := Kd.iso (Kd.pair Kd.string (Kd.pair (Kd.int .i32) (Kd.pair (Kd.int .i32) Kd.bool))) (fun x : S75 => (x.f0, x.f1, x.f2, x.f3))
theorem k75_open {w : World} {x : S75} {cs : List Value} (h : k75.K w x cs) : cs = [.string x.f0, .int .i32 x.f1, .int .i32 x.f2, .bool x.f3] := by
 obtain ⟨_, _, rfl, rfl, ⟨_, _, rfl, rfl, ⟨_, _, rfl, rfl, rfl⟩⟩⟩ := h
 exact rfl
theorem k75_mkM (w : World) (base : Nat) (ok : Nat → Prop) (x : S75)  : k75.M w base ok x [.string x.f0, .int .i32 x.f1, .int .i32 x.f2, .bool x.f3] := ⟨[.string x.f0], [.int .i32 x.f1, .int .i32 x.f2, .bool x.f3], rfl, rfl, ⟨[.int .i32 x.f1], [.int .i32 x.f2, .bool x.f3], rfl, rfl, ⟨[.int .i32 x.f2], [.bool x.f3], rfl, rfl, rfl⟩⟩⟩
def rd_T75 (xs : List S75) (i : Int) : S75 := xs.getD i.toNat z75
theorem at_T75 {w : World} {A : Option Addr} {n : Nat} {xs : List S75} (h : Kd.C k75 w A n xs) (i : Int) (h0 : 0 ≤ i) (h1 : i < n) : ∃ ad , A = some ad ∧ w.cell? (ad.add (i.toNat * 4)) = some (.string (rd_T75 xs i).f0) ∧ w.cell? ⟨(ad.add (i.toNat * 4)).block, (ad.add (i.toNat * 4)).off + 1, none⟩ = some (.int .i32 (rd_T75 xs i).f1) ∧ w.cell? ⟨(ad.add (i.toNat * 4)).block, (ad.add (i.toNat * 4)).off + 2, none⟩ = some (.int .i32 (rd_T75 xs i).f2) ∧ w.cell? ⟨(ad.add (i.toNat * 4)).block, (ad.add (i.toNat * 4)).off + 3, none⟩ = some (.bool (rd_T75 xs i).f3) := by
 obtain ⟨ad, c, e, _, hK, hc0⟩ := Kd.C_get h z75 i h0 h1
 have hc : ∀ j u, c[j]? = some u → w.cell? (ad.add (i.toNat * 4 + j)) = some u := hc0
 obtain rfl := k75_open hK
 exact ⟨ad, e, hc 0 _ rfl, by rw [← add_field _ _ 1 (by omega)]; exact hc 1 _ rfl, by rw [← add_field _ _ 2 (by omega)]; exact hc 2 _ rfl, by rw [← add_field _ _ 3 (by omega)]; exact hc 3 _ rfl⟩

end Go.Proofs.YthmbbkbmlnaghaaDoor.P
end
section
namespace Go.Proofs.YthmbbkbmlnaghaaDoor.P
open Go.RowKit Go.Proofs.YthmbbkbmlnaghaaDoorW.PrintWords Go.Proofs.YthmbbkbmlnaghaaDoorW.PrintLast Go.Proofs.YthmbbkbmlnaghaaDoorW.PrintMore
attribute [local go_sem] max2_int min2_int max_two min_two max_three min_three max_four min_four   -- for this text's walks alone
set_option linter.unusedVariables false
set_option linter.unusedSimpArgs false

/-! ### names_Digit: function 37 -/
def names_Digit.f (a0 : Int) : Option (Bool) := if a0 ≥ 48 then (some (decide (a0 ≤ 57))) else (some false)
set_option maxHeartbeats 8000000 in
set_option maxRecDepth 100000 in
theorem names_Digit.calls (a0 : Int) (r : Bool) (w : World) (h : names_Digit.f a0 = some r) :
  Calls Tryd.prog 37 #[.int .i32 a0] w fun e w' => e = .returned (.bool r) ∧ Drawn0 w w' := by
 have H : (if a0 ≥ 48 then (some (decide (a0 ≤ 57))) else (some false)) = some r := h
 clear h
 by_cases c2 : a0 ≥ 48
 ·rw [if_pos c2] at H
  have c2b0 : decide (48 ≤ a0) = true := decide_eq_true c2
  clear c2
  obtain rfl := Option.some.inj H
  go_enter Tryd.func37, Tryd.ntmps37
  go_wp2
  go_ret
  exact ⟨by first | rfl | (simp; done) | (simp [*]; done), by repeat (first | exact Drawn0.refl _ | apply Drawn0.step)⟩
 ·rw [if_neg c2] at H
  have c2b0 : decide (48 ≤ a0) = false := decide_eq_false c2
  clear c2
  obtain rfl := Option.some.inj H
  go_enter Tryd.func37, Tryd.ntmps37
  go_wp2
  go_ret
  exact ⟨by first | rfl | (simp; done) | (simp [*]; done), by repeat (first | exact Drawn0.refl _ | apply Drawn0.step)⟩

/-! ### names_Value: function 17 -/
def names_Value.j0 : Nat → Int → Bool → Option (Int)
 | 0, _, _ => none
 | k + 1, x0, x9 => if x9 = true then (some (wrap64 ((wrap64 (wrap32 (x0 - 97))) + 10))) else (if x0 ≥ 65 then (if x0 ≤ 70 then (some (wrap64 ((wrap64 (wrap32 (x0 - 65))) + 10))) else (some (-1))) else (some (-1)))
def names_Value.f (k : Nat) (a0 : Int) : Option (Int) := (names_Digit.f a0).bind fun t101 => (if t101 = true then (some (wrap64 (wrap32 (a0 - 48)))) else (if a0 ≥ 97 then (names_Value.j0 k a0 (decide (a0 ≤ 102))) else (names_Value.j0 k a0 false)))
theorem names_Value.mono_l : ∀ k, (∀ y0 y1, LeO (names_Value.j0 k y0 y1) (names_Value.j0 (k + 1) y0 y1))
 | 0 => fun _ _ r h => by simp [names_Value.j0] at h
 | k + 1 => by
  have ih0 := names_Value.mono_l k
  ·intro y0 y1
   unfold names_Value.j0
   repeat' first
   | (with_reducible exact ih0 _ _)
   | (with_reducible exact LeO.refl _)
   | (with_reducible exact LeO.none _)
   | (with_reducible refine LeO.ite ?_ ?_)
   | (with_reducible refine LeO.bind ?_ (fun _ => ?_))
   | exact ih0 _ _
   | exact LeO.none _
   | refine LeO.ite ?_ ?_
   | refine LeO.bind ?_ (fun _ => ?_)
theorem names_Value.mono : ∀ a0 k, LeO (names_Value.f k a0) (names_Value.f (k + 1) a0) := by
 intro a0 k
 have ih0 := names_Value.mono_l k
 unfold names_Value.f
 repeat' first
   | (with_reducible exact ih0 _ _)
   | (with_reducible exact LeO.refl _)
   | (with_reducible exact LeO.none _)
   | (with_reducible refine LeO.ite ?_ ?_)
   | (with_reducible refine LeO.bind ?_ (fun _ => ?_))
   | exact ih0 _ _
   | exact LeO.none _
   | refine LeO.ite ?_ ?_
   | refine LeO.bind ?_ (fun _ => ?_)
set_option maxHeartbeats 8000000 in
set_option maxRecDepth 100000 in
theorem names_Value.calls (k : Nat) (a0 : Int) (r : Int) (w : World) (h : names_Value.f k a0 = some r) :
  Calls Tryd.prog 17 #[.int .i32 a0] w fun e w' => e = .returned (.int .i64 r) ∧ Drawn0 w w' := by
 have H : ((names_Digit.f a0).bind fun t101 => (if t101 = true then (some (wrap64 (wrap32 (a0 - 48)))) else (if a0 ≥ 97 then (names_Value.j0 k a0 (decide (a0 ≤ 102))) else (names_Value.j0 k a0 false)))) = some r := h
 clear h
 replace H := Option.bind_eq_some_iff.mp H
 obtain ⟨t101, A20, H⟩ := H
 replace H : (if t101 = true then (some (wrap64 (wrap32 (a0 - 48)))) else (if a0 ≥ 97 then (names_Value.j0 k a0 (decide (a0 ≤ 102))) else (names_Value.j0 k a0 false))) = some r := H
 have A2 := Aside0.mk A20
 clear A20
 by_cases c3 : t101 = true
 ·subst c3
  have H1 : (some (wrap64 (wrap32 (a0 - 48)))) = some r := by rw [if_pos rfl] at H; exact H
  clear H
  have H := H1
  clear H1
  obtain rfl := Option.some.inj H
  go_enter Tryd.func17, Tryd.ntmps17
  go_wp2_with (first | ((with_reducible refine gate_callee (f := 37) rfl ?_); refine goesL_ (some 5) rfl rfl Tryd.func37 (by kernel_rfl) rfl #[.int .i32 a0] rfl (by (try simp only [List.map_toArray, List.map_cons, List.map_nil]); first | done | rfl | (simp only [List.length_drop, List.length_take]; rfl) | (simp [*] <;> rfl)) ?_; (with_reducible refine (names_Digit.calls a0 true _ A2.out).mono ?_); rintro e w' ⟨rfl, ⟨nd, rfl⟩⟩; refine ⟨_, rfl, ?_⟩))
  go_ret
  exact ⟨by first | rfl | (simp; done) | (simp [*]; done), by repeat (first | exact Drawn0.refl _ | apply Drawn0.step)⟩
 ·replace c3 := Bool.eq_false_iff.mpr c3
  subst c3
  have H1 : (if a0 ≥ 97 then (names_Value.j0 k a0 (decide (a0 ≤ 102))) else (names_Value.j0 k a0 false)) = some r := by rw [if_neg (show ¬ (false = true) by decide)] at H; exact H
  clear H
  have H := H1
  clear H1
  have HC4 := Aside0.mk H
  clear H
  go_enter Tryd.func17, Tryd.ntmps17
  go_upto_region 3 with (first | ((with_reducible refine gate_callee (f := 37) rfl ?_); refine goesL_ (some 5) rfl rfl Tryd.func37 (by kernel_rfl) rfl #[.int .i32 a0] rfl (by (try simp only [List.map_toArray, List.map_cons, List.map_nil]); first | done | rfl | (simp only [List.length_drop, List.length_take]; rfl) | (simp [*] <;> rfl)) ?_; (with_reducible refine (names_Digit.calls a0 false _ A2.out).mono ?_); rintro e w' ⟨rfl, ⟨nd, rfl⟩⟩; refine ⟨_, rfl, ?_⟩))
  (try simp only [Act.put, List.setIfInBounds_toArray, List.set_cons_zero, List.set_cons_succ])
  go_cut [9] (fun v9 wc => ∃ (kq : Nat) (x9_3 : Bool), v9 = .bool x9_3 ∧ Aside0 (names_Value.j0 kq a0 x9_3 = some r) ∧ Aside0 (kq ≤ k) ∧ Drawn0 w wc)
  case first =>
   have H := HC4.out
   clear HC4
   by_cases c5 : a0 ≥ 97
   ·rw [if_pos c5] at H
    have c5b0 : decide (97 ≤ a0) = true := decide_eq_true c5
    clear c5
    (first | rw [c5b0] | (simp only [i64_w, i32_w]; rw [c5b0]) | skip)
    have H' := Aside0.mk H
    clear H
    go_wp2
    go_meet
    case rel => exact ⟨_, (decide (a0 ≤ 102)), (by first | rfl | (simp; done) | (simp [*]; done) | (unfold bt; split <;> first | rfl | (exfalso; simp_all; done) | (exfalso; simp_all; omega))), H', ⟨by first | omega | exact Nat.le_refl _⟩, by repeat (first | exact Drawn0.refl _ | apply Drawn0.step)⟩
   ·rw [if_neg c5] at H
    have c5b0 : decide (97 ≤ a0) = false := decide_eq_false c5
    clear c5
    (first | rw [c5b0] | (simp only [i64_w, i32_w]; rw [c5b0]) | skip)
    have H' := Aside0.mk H
    clear H
    go_wp2
    go_meet
    case rel => exact ⟨_, (false), (by first | rfl | (simp; done) | (simp [*]; done) | (unfold bt; split <;> first | rfl | (exfalso; simp_all; done) | (exfalso; simp_all; omega))), H', ⟨by first | omega | exact Nat.le_refl _⟩, by repeat (first | exact Drawn0.refl _ | apply Drawn0.step)⟩
  case rest =>
   clear HC4
   try clear c1
   try clear p2
   try clear c3
   try clear p3
   try clear c5
   try clear c5b0
   obtain ⟨kq, x9_3, rfl, HA, HJ3, ⟨mc3, rfl⟩⟩ := hcut
   cases kq with
   | zero => exact absurd HA.out (by simp [names_Value.j0])
   | succ kj3 =>
    have H := HA.out
    clear HA
    simp only [names_Value.j0] at H
    by_cases c6 : x9_3 = true
    ·subst c6
     have H1 : (some (wrap64 ((wrap64 (wrap32 (a0 - 97))) + 10))) = some r := by rw [if_pos rfl] at H; exact H
     clear H
     have H := H1
     clear H1
     obtain rfl := Option.some.inj H
     go_wp2
     go_ret
     exact ⟨by first | rfl | (simp; done) | (simp [*]; done), by repeat (first | exact Drawn0.refl _ | apply Drawn0.step)⟩
    ·replace c6 := Bool.eq_false_iff.mpr c6
     subst c6
     have H1 : (if a0 ≥ 65 then (if a0 ≤ 70 then (some (wrap64 ((wrap64 (wrap32 (a0 - 65))) + 10))) else (some (-1))) else (some (-1))) = some r := by rw [if_neg (show ¬ (false = true) by decide)] at H; exact H
     clear H
     have H := H1
     clear H1
     by_cases c7 : a0 ≥ 65
     ·rw [if_pos c7] at H
      have c7b0 : decide (65 ≤ a0) = true := decide_eq_true c7
      clear c7
      by_cases c8 : a0 ≤ 70
      ·rw [if_pos c8] at H
       have c8b0 : decide (a0 ≤ 70) = true := decide_eq_true c8
       clear c8
       obtain rfl := Option.some.inj H
       go_wp2
       go_ret
       exact ⟨by first | rfl | (simp; done) | (simp [*]; done), by repeat (first | exact Drawn0.refl _ | apply Drawn0.step)⟩
      ·rw [if_neg c8] at H
       have c8b0 : decide (a0 ≤ 70) = false := decide_eq_false c8
       clear c8
       obtain rfl := Option.some.inj H
       go_wp2
       go_ret
       exact ⟨by first | rfl | (simp; done) | (simp [*]; done), by repeat (first | exact Drawn0.refl _ | apply Drawn0.step)⟩
     ·rw [if_neg c7] at H
      have c7b0 : decide (65 ≤ a0) = false := decide_eq_false c7
      clear c7
      obtain rfl := Option.some.inj H
      go_wp2
      go_ret
      exact ⟨by first | rfl | (simp; done) | (simp [*]; done), by repeat (first | exact Drawn0.refl _ | apply Drawn0.step)⟩

-- NOT PRINTED: function 28 (charref_windows)

-- NOT PRINTED: function 70 (strconv_small)

-- NOT PRINTED: function 86 (strconv_log10Pow2)

-- NOT PRINTED: function 87 (bits_Len64)

-- NOT PRINTED: function 88 (strconv_bool2_int)

-- NOT PRINTED: function 71 (strconv_numDigits)

-- NOT PRINTED: function 72 (strconv_formatBase10)

-- NOT PRINTED: function 89 (strconv_isPowerOfTwo)

-- NOT PRINTED: function 97 (bits_TrailingZeros32)

-- NOT PRINTED: function 98 (bits_TrailingZeros64)

-- NOT PRINTED: function 90 (bits_TrailingZeros)

-- NOT PRINTED: function 73 (strconv_formatBits)

-- NOT PRINTED: function 55 (strconv_FormatInt_55)

-- NOT PRINTED: function 39 (strconv_Itoa_39)

-- NOT PRINTED: function 21 (strconv_Itoa_21)

-- NOT PRINTED: function 9 (charref_Encode)

-- NOT PRINTED: function 63 (abi_NoEscape)

-- NOT PRINTED: function 47 (strings_Builder_copyCheck)

-- NOT PRINTED: function 32 (strings_Builder_WriteString)

-- NOT PRINTED: function 35 (strings_Builder_String)

/-! ### stringslite_HasPrefix: function 92 -/
def stringslite_HasPrefix.f (a0 : ByteArray) (a1 : ByteArray) : Option (Bool) := if (a0.size : Int) ≥ (a1.size : Int) then (if 0 ≤ (a1.size : Int) then (if (a1.size : Int) ≤ (a0.size : Int) then (some ((a0.extract 0 ((a1.size : Int) : Int).toNat).toList == a1.toList)) else (none)) else (none)) else (some false)
set_option maxHeartbeats 8000000 in
set_option maxRecDepth 100000 in
theorem stringslite_HasPrefix.calls (a0 : ByteArray) (a1 : ByteArray) (r : Bool) (w : World) (h : stringslite_HasPrefix.f a0 a1 = some r) :
  Calls Tryd.prog 92 #[.string a0, .string a1] w fun e w' => e = .returned (.bool r) ∧ Drawn0 w w' := by
 have H : (if (a0.size : Int) ≥ (a1.size : Int) then (if 0 ≤ (a1.size : Int) then (if (a1.size : Int) ≤ (a0.size : Int) then (some ((a0.extract 0 ((a1.size : Int) : Int).toNat).toList == a1.toList)) else (none)) else (none)) else (some false)) = some r := h
 clear h
 by_cases c3 : (a0.size : Int) ≥ (a1.size : Int)
 ·rw [if_pos c3] at H
  have c3b0 : decide ((a1.size : Int) ≤ (a0.size : Int)) = true := decide_eq_true c3
  have c3b1 : decide (a1.size ≤ a0.size) = true := decide_eq_true (Int.ofNat_le.mp c3)
  clear c3
  by_cases c4 : 0 ≤ (a1.size : Int)
  ·rw [if_pos c4] at H
   have c4b0 := eq_true c4
   have c4b1 : decide (0 ≤ (a1.size : Int)) = true := decide_eq_true c4
   clear c4
   by_cases c5 : (a1.size : Int) ≤ (a0.size : Int)
   ·rw [if_pos c5] at H
    have c5b0 := eq_true c5
    have c5b1 : decide ((a1.size : Int) ≤ (a0.size : Int)) = true := decide_eq_true c5
    clear c5
    obtain rfl := Option.some.inj H
    go_enter Tryd.func92, Tryd.ntmps92
    go_wp2
    go_ret
    exact ⟨by first | rfl | (simp; done) | (simp [*]; done), by repeat (first | exact Drawn0.refl _ | apply Drawn0.step)⟩
   ·rw [if_neg c5] at H
    exact absurd H (by simp)
  ·rw [if_neg c4] at H
   exact absurd H (by simp)
 ·rw [if_neg c3] at H
  have c3b0 : decide ((a1.size : Int) ≤ (a0.size : Int)) = false := decide_eq_false c3
  have c3b1 : decide (a1.size ≤ a0.size) = false := decide_eq_false (fun h => c3 (Int.ofNat_le.mpr h))
  clear c3
  obtain rfl := Option.some.inj H
  go_enter Tryd.func92, Tryd.ntmps92
  go_wp2
  go_ret
  exact ⟨by first | rfl | (simp; done) | (simp [*]; done), by repeat (first | exact Drawn0.refl _ | apply Drawn0.step)⟩

/-! ### strings_HasPrefix: function 75 -/
def strings_HasPrefix.f (a0 : ByteArray) (a1 : ByteArray) : Option (Bool) := (stringslite_HasPrefix.f a0 a1).bind fun t118 => (some t118)
set_option maxHeartbeats 8000000 in
set_option maxRecDepth 100000 in
theorem strings_HasPrefix.calls (a0 : ByteArray) (a1 : ByteArray) (r : Bool) (w : World) (h : strings_HasPrefix.f a0 a1 = some r) :
  Calls Tryd.prog 75 #[.string a0, .string a1] w fun e w' => e = .returned (.bool r) ∧ Drawn0 w w' := by
 have H : ((stringslite_HasPrefix.f a0 a1).bind fun t118 => (some t118)) = some r := h
 clear h
 replace H := Option.bind_eq_some_iff.mp H
 obtain ⟨t118, A30, H⟩ := H
 replace H : (some t118) = some r := H
 have A3 := Aside0.mk A30
 clear A30
 obtain rfl := Option.some.inj H
 go_enter Tryd.func75, Tryd.ntmps75
 go_wp2_with (first | ((with_reducible refine gate_callee (f := 92) rfl ?_); refine goesL_ (some 7) rfl rfl Tryd.func92 (by kernel_rfl) rfl #[.string a0, .string a1] rfl (by (try simp only [List.map_toArray, List.map_cons, List.map_nil]); first | done | rfl | (simp only [List.length_drop, List.length_take]; rfl) | (simp [*] <;> rfl)) ?_; (with_reducible refine (stringslite_HasPrefix.calls a0 a1 t118 _ A3.out).mono ?_); rintro e w' ⟨rfl, ⟨nd, rfl⟩⟩; refine ⟨_, rfl, ?_⟩))
 go_ret
 exact ⟨by first | rfl | (simp; done) | (simp [*]; done), by repeat (first | exact Drawn0.refl _ | apply Drawn0.step)⟩

/-! ### entity_says: function 51 -/
def entity_says.f (a0_0 : ByteArray) (a0_1 : Int) (a0_2 : Int) (a0_3 : Bool) : Option (List Int) := if a0_2 = 0 then (some (([a0_1] : List Int))) else (some (([a0_1, a0_2] : List Int)))
set_option maxHeartbeats 8000000 in
set_option maxRecDepth 100000 in
theorem entity_says.calls (a0_0 : ByteArray) (a0_1 : Int) (a0_2 : Int) (a0_3 : Bool) (r : List Int) (w : World) (h : entity_says.f a0_0 a0_1 a0_2 a0_3 = some r) :
  Calls Tryd.prog 51 #[.agg #[.string a0_0, .int .i32 a0_1, .int .i32 a0_2, .bool a0_3]] w fun e w' => ∃ v0_ : Value, e = .returned (v0_) ∧ Kd.R (Kd.int .i32) 21 w' w.heap.size (fun _ => True) v0_ r ∧ Below w.heap.size w w' := by
 have hu75 := Tryd.underlying75
 have HB := Aside0.mk (Below.refl w.heap.size w)
 have H : (if a0_2 = 0 then (some (([a0_1] : List Int))) else (some (([a0_1, a0_2] : List Int)))) = some r := h
 clear h
 by_cases c2 : a0_2 = 0
 ·rw [if_pos c2] at H
  have c2b0 : (a0_2 == 0) = true := beq_iff_eq.mpr c2
  have c2b1 : (a0_2 != 0) = false := bne_eq_false_iff_eq.mpr c2
  clear c2
  obtain ⟨y120, hy120⟩ : ∃ y_ : List Int, y_ = (([a0_1] : List Int)) := ⟨_, rfl⟩
  replace H : (some y120) = some r := by first | (rw [hy120]; with_reducible exact H) | (have H2_ := (Option.bind_some _ _).symm.trans H; rw [hy120]; with_reducible exact H2_) | (have H2_ := (Option.bind_some _ _).symm.trans H; with_reducible exact H2_) | with_reducible exact H | (rw [hy120]; exact H) | exact H
  have Ny120 := Aside0.mk hy120
  clear hy120
  obtain rfl := Option.some.inj H
  go_enter Tryd.func51, Tryd.ntmps51
  go_wp2_with (first | ((with_reducible refine gate_dst (N := 1) rfl ?_); refine box_event ?hg (N := 1) ?hd (cs := #[.string a0_0, .int .i32 a0_1, .int .i32 a0_2, .bool a0_3]) (t := 75) ?hr ?_; (case hd => rfl); (case hg => rfl); (case hr => first | (go_simp; done) | (go_simp; rfl)); intro gb119 hg w3 hbox hb; have n0_ := Aside0.mk (below_step (by repeat (first | (with_reducible first | exact HB.out | apply below_alloc | apply pw_below_drewN | apply below_drew1) | exact HB.out)) hb); have n1_ := Aside0.mk (hbox); have n2_ := Aside0.mk ((by rw [hg]; exact (below_size (by repeat (first | (with_reducible first | exact HB.out | apply below_alloc | apply pw_below_drewN | apply below_drew1) | exact HB.out))) : w.heap.size ≤ gb119)); have n3_ := Aside0.mk ((by rw [hg]; exact (below_size (by repeat (first | (with_reducible first | exact HB.out | apply below_alloc | apply pw_below_drewN | apply below_drew1) | exact HB.out))) : w.heap.size ≤ gb119)); clear HB; have HB := n0_; have BK119 := n1_; have GW119 := n2_; have GE119 := n3_; clear n0_ n1_ n2_ n3_; clear hb hbox hg; have hcz4_0 : w3.cell? ⟨gb119, 0, none⟩ = some (.string a0_0) := (blk_cell BK119.out 0).trans rfl; have hcz4_1 : w3.cell? ⟨gb119, 1, none⟩ = some (.int .i32 a0_1) := (blk_cell BK119.out 1).trans rfl; have hcz4_2 : w3.cell? ⟨gb119, 2, none⟩ = some (.int .i32 a0_2) := (blk_cell BK119.out 2).trans rfl; have hcz4_3 : w3.cell? ⟨gb119, 3, none⟩ = some (.bool a0_3) := (blk_cell BK119.out 3).trans rfl; have hfz4_0 := blk_frozen BK119.out 0; have hfz4_1 := blk_frozen BK119.out 1; have hfz4_2 := blk_frozen BK119.out 2; have hfz4_3 := blk_frozen BK119.out 3) | ((with_reducible refine gate_dst (N := 13) rfl ?_); refine Kd.R_lit (Kd.int .i32) _ 21 ?hg (N := 13) ?hd (xs := ([a0_1] : List Int)) (inner := [.int .i32 a0_1]) (ok := fun _ => True) (okp := fun _ => True) ?hr ?hp (fun _ hk => hk) trivial (Below.refl _ _) (Nat.le_refl _) (by simp) ?_; (case hd => rfl); (case hg => rfl); (case hr => first | (go_simp; done) | (go_simp; rfl)); (case hp => exact (Reps.one (show Kd.M (Kd.int .i32) _ _ _ a0_1 [.int .i32 a0_1] from rfl) (Reps.none _ _))); intro v121 w5 ho6 hb hg_ hnew_; clear hg_ hnew_; (first | rw [← Ny120.out] at ho6 | (simp only [Int.reduceToNat] at ho6; rw [← Ny120.out] at ho6)); have n0_ := Aside0.mk (Kd.R_lower ho6 (below_size (by repeat (first | (with_reducible first | exact HB.out | apply below_alloc | apply pw_below_drewN | apply below_drew1 | refine below_set ?_ GE119.out) | exact HB.out)))); have n1_ := Aside0.mk (blk_below (g := gb119) (o := .cells #[.string a0_0, .int .i32 a0_1, .int .i32 a0_2, .bool a0_3] 75 (0, 0)) (by (with_reducible repeat (first | refine blk_drewN ?_ _ | refine blk_drew ?_ | refine blk_alloc ?_ _)); exact BK119.out) hb); have n2_ := Aside0.mk (below_step (by repeat (first | (with_reducible first | exact HB.out | apply below_alloc | apply pw_below_drewN | apply below_drew1 | refine below_set ?_ GE119.out) | exact HB.out)) hb); clear BK119; clear HB; have HO122 := n0_; have BK119 := n1_; have HB := n2_; clear n0_ n1_ n2_; clear hb ho6))
  go_ret
  exact ⟨_, by first | rfl | (simp [errW_none, errW_some] <;> rfl) | (simp [*, errW_none, errW_some] <;> rfl), by (with_reducible repeat (first | apply Kd.R_alloc | apply Kd.R_drewN | apply Kd.R_drew)); exact HO122.out, by repeat (first | (with_reducible first | exact HB.out | apply below_alloc | apply pw_below_drewN | apply below_drew1 | refine below_set ?_ GE119.out) | exact HB.out)⟩
 ·rw [if_neg c2] at H
  have c2b0 : (a0_2 == 0) = false := beq_eq_false_iff_ne.mpr c2
  have c2b1 : (a0_2 != 0) = true := bne_iff_ne.mpr c2
  obtain ⟨y123, hy123⟩ : ∃ y_ : List Int, y_ = (([a0_1, a0_2] : List Int)) := ⟨_, rfl⟩
  replace H : (some y123) = some r := by first | (rw [hy123]; with_reducible exact H) | (have H2_ := (Option.bind_some _ _).symm.trans H; rw [hy123]; with_reducible exact H2_) | (have H2_ := (Option.bind_some _ _).symm.trans H; with_reducible exact H2_) | with_reducible exact H | (rw [hy123]; exact H) | exact H
  have Ny123 := Aside0.mk hy123
  clear hy123
  obtain rfl := Option.some.inj H
  go_enter Tryd.func51, Tryd.ntmps51
  go_wp2_with (first | ((with_reducible refine gate_dst (N := 1) rfl ?_); refine box_event ?hg (N := 1) ?hd (cs := #[.string a0_0, .int .i32 a0_1, .int .i32 a0_2, .bool a0_3]) (t := 75) ?hr ?_; (case hd => rfl); (case hg => rfl); (case hr => first | (go_simp; done) | (go_simp; rfl)); intro gb119 hg w7 hbox hb; have n0_ := Aside0.mk (below_step (by repeat (first | (with_reducible first | exact HB.out | apply below_alloc | apply pw_below_drewN | apply below_drew1) | exact HB.out)) hb); have n1_ := Aside0.mk (hbox); have n2_ := Aside0.mk ((by rw [hg]; exact (below_size (by repeat (first | (with_reducible first | exact HB.out | apply below_alloc | apply pw_below_drewN | apply below_drew1) | exact HB.out))) : w.heap.size ≤ gb119)); have n3_ := Aside0.mk ((by rw [hg]; exact (below_size (by repeat (first | (with_reducible first | exact HB.out | apply below_alloc | apply pw_below_drewN | apply below_drew1) | exact HB.out))) : w.heap.size ≤ gb119)); clear HB; have HB := n0_; have BK119 := n1_; have GW119 := n2_; have GE119 := n3_; clear n0_ n1_ n2_ n3_; clear hb hbox hg; have hcz8_0 : w7.cell? ⟨gb119, 0, none⟩ = some (.string a0_0) := (blk_cell BK119.out 0).trans rfl; have hcz8_1 : w7.cell? ⟨gb119, 1, none⟩ = some (.int .i32 a0_1) := (blk_cell BK119.out 1).trans rfl; have hcz8_2 : w7.cell? ⟨gb119, 2, none⟩ = some (.int .i32 a0_2) := (blk_cell BK119.out 2).trans rfl; have hcz8_3 : w7.cell? ⟨gb119, 3, none⟩ = some (.bool a0_3) := (blk_cell BK119.out 3).trans rfl; have hfz8_0 := blk_frozen BK119.out 0; have hfz8_1 := blk_frozen BK119.out 1; have hfz8_2 := blk_frozen BK119.out 2; have hfz8_3 := blk_frozen BK119.out 3) | ((with_reducible refine gate_dst (N := 10) rfl ?_); refine Kd.R_lit (Kd.int .i32) _ 21 ?hg (N := 10) ?hd (xs := ([a0_1, a0_2] : List Int)) (inner := [.int .i32 a0_1, .int .i32 a0_2]) (ok := fun _ => True) (okp := fun _ => True) ?hr ?hp (fun _ hk => hk) trivial (Below.refl _ _) (Nat.le_refl _) (by simp) ?_; (case hd => rfl); (case hg => rfl); (case hr => first | (go_simp; done) | (go_simp; rfl)); (case hp => exact (Reps.one (show Kd.M (Kd.int .i32) _ _ _ a0_1 [.int .i32 a0_1] from rfl) (Reps.one (show Kd.M (Kd.int .i32) _ _ _ a0_2 [.int .i32 a0_2] from rfl) (Reps.none _ _)))); intro v124 w9 ho10 hb hg_ hnew_; clear hg_ hnew_; (first | rw [← Ny123.out] at ho10 | (simp only [Int.reduceToNat] at ho10; rw [← Ny123.out] at ho10)); have n0_ := Aside0.mk (Kd.R_lower ho10 (below_size (by repeat (first | (with_reducible first | exact HB.out | apply below_alloc | apply pw_below_drewN | apply below_drew1 | refine below_set ?_ GE119.out) | exact HB.out)))); have n1_ := Aside0.mk (blk_below (g := gb119) (o := .cells #[.string a0_0, .int .i32 a0_1, .int .i32 a0_2, .bool a0_3] 75 (0, 0)) (by (with_reducible repeat (first | refine blk_drewN ?_ _ | refine blk_drew ?_ | refine blk_alloc ?_ _)); exact BK119.out) hb); have n2_ := Aside0.mk (below_step (by repeat (first | (with_reducible first | exact HB.out | apply below_alloc | apply pw_below_drewN | apply below_drew1 | refine below_set ?_ GE119.out) | exact HB.out)) hb); clear BK119; clear HB; have HO125 := n0_; have BK119 := n1_; have HB := n2_; clear n0_ n1_ n2_; clear hb ho10))
  go_ret
  exact ⟨_, by first | rfl | (simp [errW_none, errW_some] <;> rfl) | (simp [*, errW_none, errW_some] <;> rfl), by (with_reducible repeat (first | apply Kd.R_alloc | apply Kd.R_drewN | apply Kd.R_drew)); exact HO125.out, by repeat (first | (with_reducible first | exact HB.out | apply below_alloc | apply pw_below_drewN | apply below_drew1 | refine below_set ?_ GE119.out) | exact HB.out)⟩

/-! ### names_Upper: function 93 -/
def names_Upper.f (a0 : Int) : Option (Bool) := if a0 ≥ 65 then (some (decide (a0 ≤ 90))) else (some false)
set_option maxHeartbeats 8000000 in
set_option maxRecDepth 100000 in
theorem names_Upper.calls (a0 : Int) (r : Bool) (w : World) (h : names_Upper.f a0 = some r) :
  Calls Tryd.prog 93 #[.int .i32 a0] w fun e w' => e = .returned (.bool r) ∧ Drawn0 w w' := by
 have H : (if a0 ≥ 65 then (some (decide (a0 ≤ 90))) else (some false)) = some r := h
 clear h
 by_cases c2 : a0 ≥ 65
 ·rw [if_pos c2] at H
  have c2b0 : decide (65 ≤ a0) = true := decide_eq_true c2
  clear c2
  obtain rfl := Option.some.inj H
  go_enter Tryd.func93, Tryd.ntmps93
  go_wp2
  go_ret
  exact ⟨by first | rfl | (simp; done) | (simp [*]; done), by repeat (first | exact Drawn0.refl _ | apply Drawn0.step)⟩
 ·rw [if_neg c2] at H
  have c2b0 : decide (65 ≤ a0) = false := decide_eq_false c2
  clear c2
  obtain rfl := Option.some.inj H
  go_enter Tryd.func93, Tryd.ntmps93
  go_wp2
  go_ret
  exact ⟨by first | rfl | (simp; done) | (simp [*]; done), by repeat (first | exact Drawn0.refl _ | apply Drawn0.step)⟩

/-! ### names_Letter: function 76 -/
def names_Letter.f (a0 : Int) : Option (Bool) := (names_Upper.f a0).bind fun t126 => (if t126 = true then (some true) else (if a0 ≥ 97 then (some (decide (a0 ≤ 122))) else (some false)))
set_option maxHeartbeats 8000000 in
set_option maxRecDepth 100000 in
theorem names_Letter.calls (a0 : Int) (r : Bool) (w : World) (h : names_Letter.f a0 = some r) :
  Calls Tryd.prog 76 #[.int .i32 a0] w fun e w' => e = .returned (.bool r) ∧ Drawn0 w w' := by
 have H : ((names_Upper.f a0).bind fun t126 => (if t126 = true then (some true) else (if a0 ≥ 97 then (some (decide (a0 ≤ 122))) else (some false)))) = some r := h
 clear h
 replace H := Option.bind_eq_some_iff.mp H
 obtain ⟨t126, A20, H⟩ := H
 replace H : (if t126 = true then (some true) else (if a0 ≥ 97 then (some (decide (a0 ≤ 122))) else (some false))) = some r := H
 have A2 := Aside0.mk A20
 clear A20
 by_cases c3 : t126 = true
 ·subst c3
  have H1 : (some true) = some r := by rw [if_pos rfl] at H; exact H
  clear H
  have H := H1
  clear H1
  obtain rfl := Option.some.inj H
  go_enter Tryd.func76, Tryd.ntmps76
  go_wp2_with (first | ((with_reducible refine gate_callee (f := 93) rfl ?_); refine goesL_ (some 4) rfl rfl Tryd.func93 (by kernel_rfl) rfl #[.int .i32 a0] rfl (by (try simp only [List.map_toArray, List.map_cons, List.map_nil]); first | done | rfl | (simp only [List.length_drop, List.length_take]; rfl) | (simp [*] <;> rfl)) ?_; (with_reducible refine (names_Upper.calls a0 true _ A2.out).mono ?_); rintro e w' ⟨rfl, ⟨nd, rfl⟩⟩; refine ⟨_, rfl, ?_⟩))
  go_ret
  exact ⟨by first | rfl | (simp; done) | (simp [*]; done), by repeat (first | exact Drawn0.refl _ | apply Drawn0.step)⟩
 ·replace c3 := Bool.eq_false_iff.mpr c3
  subst c3
  have H1 : (if a0 ≥ 97 then (some (decide (a0 ≤ 122))) else (some false)) = some r := by rw [if_neg (show ¬ (false = true) by decide)] at H; exact H
  clear H
  have H := H1
  clear H1
  by_cases c4 : a0 ≥ 97
  ·rw [if_pos c4] at H
   have c4b0 : decide (97 ≤ a0) = true := decide_eq_true c4
   clear c4
   obtain rfl := Option.some.inj H
   go_enter Tryd.func76, Tryd.ntmps76
   go_wp2_with (first | ((with_reducible refine gate_callee (f := 93) rfl ?_); refine goesL_ (some 4) rfl rfl Tryd.func93 (by kernel_rfl) rfl #[.int .i32 a0] rfl (by (try simp only [List.map_toArray, List.map_cons, List.map_nil]); first | done | rfl | (simp only [List.length_drop, List.length_take]; rfl) | (simp [*] <;> rfl)) ?_; (with_reducible refine (names_Upper.calls a0 false _ A2.out).mono ?_); rintro e w' ⟨rfl, ⟨nd, rfl⟩⟩; refine ⟨_, rfl, ?_⟩))
   go_ret
   exact ⟨by first | rfl | (simp; done) | (simp [*]; done), by repeat (first | exact Drawn0.refl _ | apply Drawn0.step)⟩
  ·rw [if_neg c4] at H
   have c4b0 : decide (97 ≤ a0) = false := decide_eq_false c4
   clear c4
   obtain rfl := Option.some.inj H
   go_enter Tryd.func76, Tryd.ntmps76
   go_wp2_with (first | ((with_reducible refine gate_callee (f := 93) rfl ?_); refine goesL_ (some 4) rfl rfl Tryd.func93 (by kernel_rfl) rfl #[.int .i32 a0] rfl (by (try simp only [List.map_toArray, List.map_cons, List.map_nil]); first | done | rfl | (simp only [List.length_drop, List.length_take]; rfl) | (simp [*] <;> rfl)) ?_; (with_reducible refine (names_Upper.calls a0 false _ A2.out).mono ?_); rintro e w' ⟨rfl, ⟨nd, rfl⟩⟩; refine ⟨_, rfl, ?_⟩))
   go_ret
   exact ⟨by first | rfl | (simp; done) | (simp [*]; done), by repeat (first | exact Drawn0.refl _ | apply Drawn0.step)⟩

/-! ### charref_word: function 59 -/
def charref_word.f (a0 : Int) : Option (Bool) := (names_Letter.f (wrap32 (a0))).bind fun t127 => (if t127 = true then (some true) else ((names_Digit.f (wrap32 (a0))).bind fun t128 => (some t128)))
set_option maxHeartbeats 8000000 in
set_option maxRecDepth 100000 in
theorem charref_word.calls (a0 : Int) (r : Bool) (w : World) (h : charref_word.f a0 = some r) :
  Calls Tryd.prog 59 #[.int .u8 a0] w fun e w' => e = .returned (.bool r) ∧ Drawn0 w w' := by
 have H : ((names_Letter.f (wrap32 (a0))).bind fun t127 => (if t127 = true then (some true) else ((names_Digit.f (wrap32 (a0))).bind fun t128 => (some t128)))) = some r := h
 clear h
 replace H := Option.bind_eq_some_iff.mp H
 obtain ⟨t127, A20, H⟩ := H
 replace H : (if t127 = true then (some true) else ((names_Digit.f (wrap32 (a0))).bind fun t128 => (some t128))) = some r := H
 have A2 := Aside0.mk A20
 clear A20
 by_cases c3 : t127 = true
 ·subst c3
  have H1 : (some true) = some r := by rw [if_pos rfl] at H; exact H
  clear H
  have H := H1
  clear H1
  obtain rfl := Option.some.inj H
  go_enter Tryd.func59, Tryd.ntmps59
  go_wp2_with (first | ((with_reducible refine gate_callee (f := 76) rfl ?_); refine goesL_ (some 5) rfl rfl Tryd.func76 (by kernel_rfl) rfl #[.int .i32 (wrap32 (a0))] rfl (by (try simp only [List.map_toArray, List.map_cons, List.map_nil]); first | done | rfl | (simp only [List.length_drop, List.length_take]; rfl) | (simp [*] <;> rfl)) ?_; (with_reducible refine (names_Letter.calls (wrap32 (a0)) true _ A2.out).mono ?_); rintro e w' ⟨rfl, ⟨nd, rfl⟩⟩; refine ⟨_, rfl, ?_⟩))
  go_ret
  exact ⟨by first | rfl | (simp; done) | (simp [*]; done), by repeat (first | exact Drawn0.refl _ | apply Drawn0.step)⟩
 ·replace c3 := Bool.eq_false_iff.mpr c3
  subst c3
  have H1 : ((names_Digit.f (wrap32 (a0))).bind fun t128 => (some t128)) = some r := by rw [if_neg (show ¬ (false = true) by decide)] at H; exact H
  clear H
  have H := H1
  clear H1
  replace H := Option.bind_eq_some_iff.mp H
  obtain ⟨t128, A40, H⟩ := H
  replace H : (some t128) = some r := H
  have A4 := Aside0.mk A40
  clear A40
  obtain rfl := Option.some.inj H
  go_enter Tryd.func59, Tryd.ntmps59
  go_wp2_with (first | ((with_reducible refine gate_callee (f := 76) rfl ?_); refine goesL_ (some 5) rfl rfl Tryd.func76 (by kernel_rfl) rfl #[.int .i32 (wrap32 (a0))] rfl (by (try simp only [List.map_toArray, List.map_cons, List.map_nil]); first | done | rfl | (simp only [List.length_drop, List.length_take]; rfl) | (simp [*] <;> rfl)) ?_; (with_reducible refine (names_Letter.calls (wrap32 (a0)) false _ A2.out).mono ?_); rintro e w' ⟨rfl, ⟨nd, rfl⟩⟩; refine ⟨_, rfl, ?_⟩) | (go_at_call 37; (with_reducible refine (names_Digit.calls (wrap32 (a0)) t128 _ A4.out).mono ?_); rintro e w' ⟨rfl, ⟨nd, rfl⟩⟩))
  go_ret
  exact ⟨by first | rfl | (simp; done) | (simp [*]; done), by repeat (first | exact Drawn0.refl _ | apply Drawn0.step)⟩

-- NOT PRINTED: function 83 (bytealg_MakeNoZero)

-- NOT PRINTED: function 65 (strings_Builder_grow)

-- NOT PRINTED: function 52 (strings_Builder_Grow)

-- NOT PRINTED: function 84 (utf8_decodeRuneInStringSlow)

-- NOT PRINTED: function 66 (utf8_DecodeRuneInString)

-- NOT PRINTED: function 67 (utf8_RuneLen)

-- NOT PRINTED: function 68 (strings_Builder_Cap)

-- NOT PRINTED: function 53 (strings_Map)

-- NOT PRINTED: function 95 (unicode_lookupCaseRange)

-- NOT PRINTED: function 96 (unicode_convertCase)

-- NOT PRINTED: function 85 (unicode_to)

-- NOT PRINTED: function 69 (unicode_To)

-- NOT PRINTED: function 54 (unicode_ToUpper)

-- NOT PRINTED: function 33 (strings_ToUpper)

-- NOT PRINTED: function 34 (strconv_FormatInt_34)

/-! ### utf_bounds: function 94 -/
mutual
def utf_bounds.j0 : Nat → Int → Bool → Option (Int × Int × Int)
 | 0, _, _ => none
 | k + 1, x0, x8 => if x8 = true then (some (1, 128, 191)) else (if x0 = 224 then (some (2, 160, 191)) else (if x0 = 237 then (some (2, 128, 159)) else (if x0 ≥ 225 then (utf_bounds.j1 k x0 (decide (x0 ≤ 239))) else (utf_bounds.j1 k x0 false))))
def utf_bounds.j1 : Nat → Int → Bool → Option (Int × Int × Int)
 | 0, _, _ => none
 | k + 1, x0, x21 => if x21 = true then (some (2, 128, 191)) else (if x0 = 240 then (some (3, 144, 191)) else (if x0 ≥ 241 then (utf_bounds.j2 k x0 (decide (x0 ≤ 243))) else (utf_bounds.j2 k x0 false)))
def utf_bounds.j2 : Nat → Int → Bool → Option (Int × Int × Int)
 | 0, _, _ => none
 | k + 1, x0, x31 => if x31 = true then (some (3, 128, 191)) else (if x0 = 244 then (some (3, 128, 143)) else (some ((-1), 0, 0)))
end
def utf_bounds.f (k : Nat) (a0 : Int) : Option (Int × Int × Int) := if a0 < 128 then (some (0, 0, 0)) else (if a0 ≥ 194 then (utf_bounds.j0 k a0 (decide (a0 ≤ 223))) else (utf_bounds.j0 k a0 false))
set_option maxHeartbeats 8000000 in
set_option maxRecDepth 100000 in
theorem utf_bounds.calls (k : Nat) (a0 : Int) (r1 : Int) (r2 : Int) (r3 : Int) (w : World) (h : utf_bounds.f k a0 = some (r1, r2, r3)) :
  Calls Tryd.prog 94 #[.int .u8 a0] w fun e w' => e = .returned (.tuple #[.int .i64 r1, .int .u8 r2, .int .u8 r3]) ∧ Drawn0 w w' := by
 have H : (if a0 < 128 then (some (0, 0, 0)) else (if a0 ≥ 194 then (utf_bounds.j0 k a0 (decide (a0 ≤ 223))) else (utf_bounds.j0 k a0 false))) = some (r1, r2, r3) := h
 clear h
 by_cases c2 : a0 < 128
 ·rw [if_pos c2] at H
  have c2b0 : decide (a0 < 128) = true := decide_eq_true c2
  clear c2
  simp only [Option.some.injEq, Prod.mk.injEq] at H
  obtain ⟨rfl, rfl, rfl⟩ := H
  go_enter Tryd.func94, Tryd.ntmps94
  go_wp2
  go_ret3
  exact ⟨by first | rfl | (simp; done) | (simp [*]; done), by repeat (first | exact Drawn0.refl _ | apply Drawn0.step)⟩
 ·rw [if_neg c2] at H
  have c2b0 : decide (a0 < 128) = false := decide_eq_false c2
  clear c2
  have HC3 := Aside0.mk H
  clear H
  go_enter Tryd.func94, Tryd.ntmps94
  go_upto_region 3 with (fail)
  go_cut [8] (fun v8 wc => ∃ (kq : Nat) (x8_2 : Bool), v8 = .bool x8_2 ∧ Aside0 (utf_bounds.j0 kq a0 x8_2 = some (r1, r2, r3)) ∧ Aside0 (kq ≤ k) ∧ Drawn0 w wc)
  case first =>
   have H := HC3.out
   clear HC3
   by_cases c4 : a0 ≥ 194
   ·rw [if_pos c4] at H
    have c4b0 : decide (194 ≤ a0) = true := decide_eq_true c4
    clear c4
    (first | rw [c4b0] | (simp only [i64_w, i32_w]; rw [c4b0]) | skip)
    have H' := Aside0.mk H
    clear H
    go_wp2
    go_meet
    case rel => exact ⟨_, (decide (a0 ≤ 223)), (by first | rfl | (simp; done) | (simp [*]; done) | (unfold bt; split <;> first | rfl | (exfalso; simp_all; done) | (exfalso; simp_all; omega))), H', ⟨by first | omega | exact Nat.le_refl _⟩, by repeat (first | exact Drawn0.refl _ | apply Drawn0.step)⟩
   ·rw [if_neg c4] at H
    have c4b0 : decide (194 ≤ a0) = false := decide_eq_false c4
    clear c4
    (first | rw [c4b0] | (simp only [i64_w, i32_w]; rw [c4b0]) | skip)
    have H' := Aside0.mk H
    clear H
    go_wp2
    go_meet
    case rel => exact ⟨_, (false), (by first | rfl | (simp; done) | (simp [*]; done) | (unfold bt; split <;> first | rfl | (exfalso; simp_all; done) | (exfalso; simp_all; omega))), H', ⟨by first | omega | exact Nat.le_refl _⟩, by repeat (first | exact Drawn0.refl _ | apply Drawn0.step)⟩
  case rest =>
   clear HC3
   try clear c2
   try clear c2b0
   try clear p2
   try clear c4
   try clear c4b0
   obtain ⟨kq, x8_2, rfl, HA, HJ2, ⟨mc2, rfl⟩⟩ := hcut
   cases kq with
   | zero => exact absurd HA.out (by simp [utf_bounds.j0])
   | succ kj2 =>
    have H := HA.out
    clear HA
    simp only [utf_bounds.j0] at H
    by_cases c5 : x8_2 = true
    ·subst c5
     have H1 : (some (1, 128, 191)) = some (r1, r2, r3) := by rw [if_pos rfl] at H; exact H
     clear H
     have H := H1
     clear H1
     simp only [Option.some.injEq, Prod.mk.injEq] at H
     obtain ⟨rfl, rfl, rfl⟩ := H
     go_wp2
     go_ret3
     exact ⟨by first | rfl | (simp; done) | (simp [*]; done), by repeat (first | exact Drawn0.refl _ | apply Drawn0.step)⟩
    ·replace c5 := Bool.eq_false_iff.mpr c5
     subst c5
     have H1 : (if a0 = 224 then (some (2, 160, 191)) else (if a0 = 237 then (some (2, 128, 159)) else (if a0 ≥ 225 then (utf_bounds.j1 kj2 a0 (decide (a0 ≤ 239))) else (utf_bounds.j1 kj2 a0 false)))) = some (r1, r2, r3) := by rw [if_neg (show ¬ (false = true) by decide)] at H; exact H
     clear H
     have H := H1
     clear H1
     by_cases c6 : a0 = 224
     ·rw [if_pos c6] at H
      have c6b0 : (a0 == 224) = true := beq_iff_eq.mpr c6
      have c6b1 : (a0 != 224) = false := bne_eq_false_iff_eq.mpr c6
      clear c6
      simp only [Option.some.injEq, Prod.mk.injEq] at H
      obtain ⟨rfl, rfl, rfl⟩ := H
      go_wp2
      go_ret3
      exact ⟨by first | rfl | (simp; done) | (simp [*]; done), by repeat (first | exact Drawn0.refl _ | apply Drawn0.step)⟩
     ·rw [if_neg c6] at H
      have c6b0 : (a0 == 224) = false := beq_eq_false_iff_ne.mpr c6
      have c6b1 : (a0 != 224) = true := bne_iff_ne.mpr c6
      by_cases c7 : a0 = 237
      ·rw [if_pos c7] at H
       have c7b0 : (a0 == 237) = true := beq_iff_eq.mpr c7
       have c7b1 : (a0 != 237) = false := bne_eq_false_iff_eq.mpr c7
       clear c7
       simp only [Option.some.injEq, Prod.mk.injEq] at H
       obtain ⟨rfl, rfl, rfl⟩ := H
       go_wp2
       go_ret3
       exact ⟨by first | rfl | (simp; done) | (simp [*]; done), by repeat (first | exact Drawn0.refl _ | apply Drawn0.step)⟩
      ·rw [if_neg c7] at H
       have c7b0 : (a0 == 237) = false := beq_eq_false_iff_ne.mpr c7
       have c7b1 : (a0 != 237) = true := bne_iff_ne.mpr c7
       have HC8 := Aside0.mk H
       clear H
       go_upto_region 9 with (fail)
       go_cut [21] (fun v21 wc => ∃ (kq : Nat) (x21_7 : Bool), v21 = .bool x21_7 ∧ Aside0 (utf_bounds.j1 kq a0 x21_7 = some (r1, r2, r3)) ∧ Aside0 (kq ≤ kj2) ∧ Drawn0 w wc)
       case first =>
        have H := HC8.out
        clear HC8
        by_cases c9 : a0 ≥ 225
        ·rw [if_pos c9] at H
         have c9b0 : decide (225 ≤ a0) = true := decide_eq_true c9
         clear c9
         (first | rw [c9b0] | (simp only [i64_w, i32_w]; rw [c9b0]) | skip)
         have H' := Aside0.mk H
         clear H
         go_wp2
         go_meet
         case rel => exact ⟨_, (decide (a0 ≤ 239)), (by first | rfl | (simp; done) | (simp [*]; done) | (unfold bt; split <;> first | rfl | (exfalso; simp_all; done) | (exfalso; simp_all; omega))), H', ⟨by have := HJ2.out; first | omega | exact Nat.le_refl _⟩, by repeat (first | exact Drawn0.refl _ | apply Drawn0.step)⟩
        ·rw [if_neg c9] at H
         have c9b0 : decide (225 ≤ a0) = false := decide_eq_false c9
         clear c9
         (first | rw [c9b0] | (simp only [i64_w, i32_w]; rw [c9b0]) | skip)
         have H' := Aside0.mk H
         clear H
         go_wp2
         go_meet
         case rel => exact ⟨_, (false), (by first | rfl | (simp; done) | (simp [*]; done) | (unfold bt; split <;> first | rfl | (exfalso; simp_all; done) | (exfalso; simp_all; omega))), H', ⟨by have := HJ2.out; first | omega | exact Nat.le_refl _⟩, by repeat (first | exact Drawn0.refl _ | apply Drawn0.step)⟩
       case rest =>
        clear HC8
        try clear c2
        try clear c2b0
        try clear p2
        try clear c4
        try clear c4b0
        try clear c5
        try clear c6
        try clear c6b0
        try clear c6b1
        try clear c7
        try clear c7b0
        try clear c7b1
        try clear c9
        try clear c9b0
        try clear p2
        obtain ⟨kq, x21_7, rfl, HA, HJ7, ⟨mc7, rfl⟩⟩ := hcut
        cases kq with
        | zero => exact absurd HA.out (by simp [utf_bounds.j1])
        | succ kj7 =>
         have H := HA.out
         clear HA
         simp only [utf_bounds.j1] at H
         by_cases c10 : x21_7 = true
         ·subst c10
          have H1 : (some (2, 128, 191)) = some (r1, r2, r3) := by rw [if_pos rfl] at H; exact H
          clear H
          have H := H1
          clear H1
          simp only [Option.some.injEq, Prod.mk.injEq] at H
          obtain ⟨rfl, rfl, rfl⟩ := H
          go_wp2
          go_ret3
          exact ⟨by first | rfl | (simp; done) | (simp [*]; done), by repeat (first | exact Drawn0.refl _ | apply Drawn0.step)⟩
         ·replace c10 := Bool.eq_false_iff.mpr c10
          subst c10
          have H1 : (if a0 = 240 then (some (3, 144, 191)) else (if a0 ≥ 241 then (utf_bounds.j2 kj7 a0 (decide (a0 ≤ 243))) else (utf_bounds.j2 kj7 a0 false))) = some (r1, r2, r3) := by rw [if_neg (show ¬ (false = true) by decide)] at H; exact H
          clear H
          have H := H1
          clear H1
          by_cases c11 : a0 = 240
          ·rw [if_pos c11] at H
           have c11b0 : (a0 == 240) = true := beq_iff_eq.mpr c11
           have c11b1 : (a0 != 240) = false := bne_eq_false_iff_eq.mpr c11
           clear c11
           simp only [Option.some.injEq, Prod.mk.injEq] at H
           obtain ⟨rfl, rfl, rfl⟩ := H
           go_wp2
           go_ret3
           exact ⟨by first | rfl | (simp; done) | (simp [*]; done), by repeat (first | exact Drawn0.refl _ | apply Drawn0.step)⟩
          ·rw [if_neg c11] at H
           have c11b0 : (a0 == 240) = false := beq_eq_false_iff_ne.mpr c11
           have c11b1 : (a0 != 240) = true := bne_iff_ne.mpr c11
           have HC12 := Aside0.mk H
           clear H
           go_upto_region 13 with (fail)
           go_cut [31] (fun v31 wc => ∃ (kq : Nat) (x31_11 : Bool), v31 = .bool x31_11 ∧ Aside0 (utf_bounds.j2 kq a0 x31_11 = some (r1, r2, r3)) ∧ Aside0 (kq ≤ kj7) ∧ Drawn0 w wc)
           case first =>
            have H := HC12.out
            clear HC12
            by_cases c13 : a0 ≥ 241
            ·rw [if_pos c13] at H
             have c13b0 : decide (241 ≤ a0) = true := decide_eq_true c13
             clear c13
             (first | rw [c13b0] | (simp only [i64_w, i32_w]; rw [c13b0]) | skip)
             have H' := Aside0.mk H
             clear H
             go_wp2
             go_meet
             case rel => exact ⟨_, (decide (a0 ≤ 243)), (by first | rfl | (simp; done) | (simp [*]; done) | (unfold bt; split <;> first | rfl | (exfalso; simp_all; done) | (exfalso; simp_all; omega))), H', ⟨by have := HJ2.out; have := HJ7.out; first | omega | exact Nat.le_refl _⟩, by repeat (first | exact Drawn0.refl _ | apply Drawn0.step)⟩
            ·rw [if_neg c13] at H
             have c13b0 : decide (241 ≤ a0) = false := decide_eq_false c13
             clear c13
             (first | rw [c13b0] | (simp only [i64_w, i32_w]; rw [c13b0]) | skip)
             have H' := Aside0.mk H
             clear H
             go_wp2
             go_meet
             case rel => exact ⟨_, (false), (by first | rfl | (simp; done) | (simp [*]; done) | (unfold bt; split <;> first | rfl | (exfalso; simp_all; done) | (exfalso; simp_all; omega))), H', ⟨by have := HJ2.out; have := HJ7.out; first | omega | exact Nat.le_refl _⟩, by repeat (first | exact Drawn0.refl _ | apply Drawn0.step)⟩
           case rest =>
            clear HC12
            try clear c1
            try clear c2
            try clear c2b0
            try clear p2
            try clear c4
            try clear c4b0
            try clear c5
            try clear c6
            try clear c6b0
            try clear c6b1
            try clear c7
            try clear c7b0
            try clear c7b1
            try clear c9
            try clear c9b0
            try clear c10
            try clear c11
            try clear c11b0
            try clear c11b1
            try clear c13
            try clear c13b0
            try clear p2
            obtain ⟨kq, x31_11, rfl, HA, HJ11, ⟨mc11, rfl⟩⟩ := hcut
            cases kq with
            | zero => exact absurd HA.out (by simp [utf_bounds.j2])
            | succ kj11 =>
             have H := HA.out
             clear HA
             simp only [utf_bounds.j2] at H
             by_cases c14 : x31_11 = true
             ·subst c14
              have H1 : (some (3, 128, 191)) = some (r1, r2, r3) := by rw [if_pos rfl] at H; exact H
              clear H
              have H := H1
              clear H1
              simp only [Option.some.injEq, Prod.mk.injEq] at H
              obtain ⟨rfl, rfl, rfl⟩ := H
              go_wp2
              go_ret3
              exact ⟨by first | rfl | (simp; done) | (simp [*]; done), by repeat (first | exact Drawn0.refl _ | apply Drawn0.step)⟩
             ·replace c14 := Bool.eq_false_iff.mpr c14
              subst c14
              have H1 : (if a0 = 244 then (some (3, 128, 143)) else (some ((-1), 0, 0))) = some (r1, r2, r3) := by rw [if_neg (show ¬ (false = true) by decide)] at H; exact H
              clear H
              have H := H1
              clear H1
              by_cases c15 : a0 = 244
              ·rw [if_pos c15] at H
               have c15b0 : (a0 == 244) = true := beq_iff_eq.mpr c15
               have c15b1 : (a0 != 244) = false := bne_eq_false_iff_eq.mpr c15
               clear c15
               simp only [Option.some.injEq, Prod.mk.injEq] at H
               obtain ⟨rfl, rfl, rfl⟩ := H
               go_wp2
               go_ret3
               exact ⟨by first | rfl | (simp; done) | (simp [*]; done), by repeat (first | exact Drawn0.refl _ | apply Drawn0.step)⟩
              ·rw [if_neg c15] at H
               have c15b0 : (a0 == 244) = false := beq_eq_false_iff_ne.mpr c15
               have c15b1 : (a0 != 244) = true := bne_iff_ne.mpr c15
               simp only [Option.some.injEq, Prod.mk.injEq] at H
               obtain ⟨rfl, rfl, rfl⟩ := H
               go_wp2
               go_ret3
               exact ⟨by first | rfl | (simp; done) | (simp [*]; done), by repeat (first | exact Drawn0.refl _ | apply Drawn0.step)⟩

/-! ### utf_read: function 78 -/
def utf_read.l0 : Nat → List Int → Int → Int → Int → Int → Int → Option (Int × Int × Int)
 | 0, _, _, _, _, _, _ => none
 | k + 1, x0, x5, x6, x7, x8, x9 => if x9 ≤ x5 then (if x9 = (x0.length : Int) then (some (65533, x9, 2)) else (if 0 ≤ x9 then (if x9 < (x0.length : Int) then (if (rd x0 x9) < x6 then (some (65533, x9, 1)) else (if (rd x0 x9) > x7 then (some (65533, x9, 1)) else (utf_read.l0 k x0 x5 128 191 (Go.bits .or .i32 (wrap32 (x8 * 64)) (wrap32 (Go.bits .and .u8 (rd x0 x9) 63))) (wrap64 (x9 + 1))))) else (none)) else (none))) else (some (x8, wrap64 (x5 + 1), 0))
def utf_read.f (k : Nat) (l0 : List Int) : Option (Int × Int × Int) := if 0 < (l0.length : Int) then ((utf_bounds.f k (rd l0 0)).bind fun bt132 => (if bt132.1 < 0 then (some (65533, 1, 1)) else (if bt132.1 = 0 then (some (wrap32 (rd l0 0), 1, 0)) else (if 0 ≤ bt132.1 then (utf_read.l0 k l0 bt132.1 bt132.2.1 bt132.2.2 (Go.bits .and .i32 (wrap32 (rd l0 0)) (shr .i32 63 bt132.1)) 1) else (none))))) else (none)
set_option maxHeartbeats 8000000 in
set_option maxRecDepth 100000 in
theorem utf_read.calls (k : Nat) (A0 : Option Addr) (c0 : Nat) (l0 : List Int) (r1 : Int) (r2 : Int) (r3 : Int) (w : World) (hr0 : Kd.C (Kd.int .u8) w A0 l0.length l0) (hc0 : l0.length ≤ c0) (h : utf_read.f k l0 = some (r1, r2, r3)) :
  Calls Tryd.prog 78 #[.slice A0 l0.length c0] w fun e w' => e = .returned (.tuple #[.int .i32 r1, .int .i64 r2, .int .i64 r3]) ∧ Drawn0 w w' := by
 have HR0 := Aside0.mk hr0
 have HC0 := Aside0.mk hc0
 clear hr0 hc0
 have H : (if 0 < (l0.length : Int) then ((utf_bounds.f k (rd l0 0)).bind fun bt132 => (if bt132.1 < 0 then (some (65533, 1, 1)) else (if bt132.1 = 0 then (some (wrap32 (rd l0 0), 1, 0)) else (if 0 ≤ bt132.1 then (utf_read.l0 k l0 bt132.1 bt132.2.1 bt132.2.2 (Go.bits .and .i32 (wrap32 (rd l0 0)) (shr .i32 63 bt132.1)) 1) else (none))))) else (none)) = some (r1, r2, r3) := h
 clear h
 by_cases c2 : 0 < (l0.length : Int)
 ·rw [if_pos c2] at H
  have c2b0 : decide (0 < (l0.length : Int)) = true := decide_eq_true c2
  have c2b1 : decide (0 < l0.length) = true := decide_eq_true (by omega)
  clear c2
  replace H := Option.bind_eq_some_iff.mp H
  obtain ⟨⟨t132, t133, t134⟩, A30, H⟩ := H
  replace H : (if t132 < 0 then (some (65533, 1, 1)) else (if t132 = 0 then (some (wrap32 (rd l0 0), 1, 0)) else (if 0 ≤ t132 then (utf_read.l0 k l0 t132 t133 t134 (Go.bits .and .i32 (wrap32 (rd l0 0)) (shr .i32 63 t132)) 1) else (none)))) = some (r1, r2, r3) := H
  have A3 := Aside0.mk A30
  clear A30
  by_cases c4 : t132 < 0
  ·rw [if_pos c4] at H
   have c4b0 : decide (t132 < 0) = true := decide_eq_true c4
   clear c4
   simp only [Option.some.injEq, Prod.mk.injEq] at H
   obtain ⟨rfl, rfl, rfl⟩ := H
   have p131 : 0 ≤ (0 : Int) := (by omega)
   have q131 : 0 < (l0.length : Int) := of_decide_eq_true (by first | (with_reducible assumption) | assumption)
   obtain ⟨ad131, e131, hx131_0⟩ := Kd.at_int HR0.out 0 p131 q131
   cases e131
   have qi131 : (0 < l0.length) = True := eq_true (by omega)
   (try rw [show ((0 : Int)).toNat = 0 from rfl] at hx131_0)
   (try rw [Addr.add_zero'] at hx131_0)
   replace p131 := eq_true p131
   replace q131 := eq_true q131
   go_enter Tryd.func78, Tryd.ntmps78
   go_wp2_with (first | (go_at_call 94; (with_reducible refine (utf_bounds.calls k (rd l0 0) t132 t133 t134 _ A3.out).mono ?_); rintro e w' ⟨rfl, ⟨nd, rfl⟩⟩; (try first | exact ⟨rfl, _, World.drewN_drewN _ _ _⟩ | exact ⟨rfl, _, Eq.trans (World.drewN_drewN _ _ _) (congrArg (World.drewN _) (Nat.add_assoc _ _ _))⟩)))
   repeat (go_quiet (first | (go_at_call 94; (with_reducible refine (utf_bounds.calls k (rd l0 0) t132 t133 t134 _ A3.out).mono ?_); rintro e w' ⟨rfl, ⟨nd, rfl⟩⟩; (try first | exact ⟨rfl, _, World.drewN_drewN _ _ _⟩ | exact ⟨rfl, _, Eq.trans (World.drewN_drewN _ _ _) (congrArg (World.drewN _) (Nat.add_assoc _ _ _))⟩))); try go_wp2_with (first | (go_at_call 94; (with_reducible refine (utf_bounds.calls k (rd l0 0) t132 t133 t134 _ A3.out).mono ?_); rintro e w' ⟨rfl, ⟨nd, rfl⟩⟩; (try first | exact ⟨rfl, _, World.drewN_drewN _ _ _⟩ | exact ⟨rfl, _, Eq.trans (World.drewN_drewN _ _ _) (congrArg (World.drewN _) (Nat.add_assoc _ _ _))⟩))))
   go_ret3
   exact ⟨by first | rfl | (simp; done) | (simp [*]; done), by repeat (first | exact Drawn0.refl _ | apply Drawn0.step)⟩
  ·rw [if_neg c4] at H
   have c4b0 : decide (t132 < 0) = false := decide_eq_false c4
   clear c4
   by_cases c5 : t132 = 0
   ·rw [if_pos c5] at H
    have c5b0 : (t132 == 0) = true := beq_iff_eq.mpr c5
    have c5b1 : (t132 != 0) = false := bne_eq_false_iff_eq.mpr c5
    clear c5
    simp only [Option.some.injEq, Prod.mk.injEq] at H
    obtain ⟨rfl, rfl, rfl⟩ := H
    have p131 : 0 ≤ (0 : Int) := (by omega)
    have q131 : 0 < (l0.length : Int) := of_decide_eq_true (by first | (with_reducible assumption) | assumption)
    obtain ⟨ad131, e131, hx131_0⟩ := Kd.at_int HR0.out 0 p131 q131
    cases e131
    have qi131 : (0 < l0.length) = True := eq_true (by omega)
    (try rw [show ((0 : Int)).toNat = 0 from rfl] at hx131_0)
    (try rw [Addr.add_zero'] at hx131_0)
    replace p131 := eq_true p131
    replace q131 := eq_true q131
    go_enter Tryd.func78, Tryd.ntmps78
    go_wp2_with (first | (go_at_call 94; (with_reducible refine (utf_bounds.calls k (rd l0 0) t132 t133 t134 _ A3.out).mono ?_); rintro e w' ⟨rfl, ⟨nd, rfl⟩⟩; (try first | exact ⟨rfl, _, World.drewN_drewN _ _ _⟩ | exact ⟨rfl, _, Eq.trans (World.drewN_drewN _ _ _) (congrArg (World.drewN _) (Nat.add_assoc _ _ _))⟩); have p135 : 0 ≤ (0 : Int) := (by omega); have q135 : 0 < (l0.length : Int) := of_decide_eq_true (by first | (with_reducible assumption) | assumption); obtain ⟨ad135, e135, hx135_0⟩ := Kd.at_int HR0.out 0 p135 q135; obtain rfl : ad131 = ad135 := (by injection e135); have qi135 : (0 < l0.length) = True := eq_true (by omega); (try rw [show ((0 : Int)).toNat = 0 from rfl] at hx135_0); (try rw [Addr.add_zero'] at hx135_0); replace p135 := eq_true p135; replace q135 := eq_true q135))
    repeat (go_quiet (first | (go_at_call 94; (with_reducible refine (utf_bounds.calls k (rd l0 0) t132 t133 t134 _ A3.out).mono ?_); rintro e w' ⟨rfl, ⟨nd, rfl⟩⟩; (try first | exact ⟨rfl, _, World.drewN_drewN _ _ _⟩ | exact ⟨rfl, _, Eq.trans (World.drewN_drewN _ _ _) (congrArg (World.drewN _) (Nat.add_assoc _ _ _))⟩); have p135 : 0 ≤ (0 : Int) := (by omega); have q135 : 0 < (l0.length : Int) := of_decide_eq_true (by first | (with_reducible assumption) | assumption); obtain ⟨ad135, e135, hx135_0⟩ := Kd.at_int HR0.out 0 p135 q135; obtain rfl : ad131 = ad135 := (by injection e135); have qi135 : (0 < l0.length) = True := eq_true (by omega); (try rw [show ((0 : Int)).toNat = 0 from rfl] at hx135_0); (try rw [Addr.add_zero'] at hx135_0); replace p135 := eq_true p135; replace q135 := eq_true q135)); try go_wp2_with (first | (go_at_call 94; (with_reducible refine (utf_bounds.calls k (rd l0 0) t132 t133 t134 _ A3.out).mono ?_); rintro e w' ⟨rfl, ⟨nd, rfl⟩⟩; (try first | exact ⟨rfl, _, World.drewN_drewN _ _ _⟩ | exact ⟨rfl, _, Eq.trans (World.drewN_drewN _ _ _) (congrArg (World.drewN _) (Nat.add_assoc _ _ _))⟩); have p135 : 0 ≤ (0 : Int) := (by omega); have q135 : 0 < (l0.length : Int) := of_decide_eq_true (by first | (with_reducible assumption) | assumption); obtain ⟨ad135, e135, hx135_0⟩ := Kd.at_int HR0.out 0 p135 q135; obtain rfl : ad131 = ad135 := (by injection e135); have qi135 : (0 < l0.length) = True := eq_true (by omega); (try rw [show ((0 : Int)).toNat = 0 from rfl] at hx135_0); (try rw [Addr.add_zero'] at hx135_0); replace p135 := eq_true p135; replace q135 := eq_true q135)))
    go_ret3
    exact ⟨by first | rfl | (simp; done) | (simp [*]; done), by repeat (first | exact Drawn0.refl _ | apply Drawn0.step)⟩
   ·rw [if_neg c5] at H
    have c5b0 : (t132 == 0) = false := beq_eq_false_iff_ne.mpr c5
    have c5b1 : (t132 != 0) = true := bne_iff_ne.mpr c5
    by_cases c6 : 0 ≤ t132
    ·rw [if_pos c6] at H
     have c6b0 := eq_true c6
     have c6b1 : decide (0 ≤ t132) = true := decide_eq_true c6
     clear c6
     obtain ⟨ji7, hji7⟩ : ∃ j_ : Int, (shr .i32 63 t132) = j_ := ⟨_, rfl⟩
     replace H : (utf_read.l0 k l0 t132 t133 t134 (Go.bits .and .i32 (wrap32 (rd l0 0)) (ji7)) 1) = some (r1, r2, r3) := by first | (rw [hji7] at H; exact H) | (simp only [hji7] at H ⊢; exact H)
     (try rw [hji7] at A3)
     have hji7_ : (63 / 2 ^ min t132.toNat 32) = ji7 := hji7
     have hji7z : t132 ≤ 32 → (63 / 2 ^ t132.toNat) = ji7 := shr_small hji7
     have H' := Aside0.mk H
     clear H
     have p131 : 0 ≤ (0 : Int) := (by omega)
     have q131 : 0 < (l0.length : Int) := of_decide_eq_true (by first | (with_reducible assumption) | assumption)
     obtain ⟨ad131, e131, hx131_0⟩ := Kd.at_int HR0.out 0 p131 q131
     cases e131
     have qi131 : (0 < l0.length) = True := eq_true (by omega)
     (try rw [show ((0 : Int)).toNat = 0 from rfl] at hx131_0)
     (try rw [Addr.add_zero'] at hx131_0)
     replace p131 := eq_true p131
     replace q131 := eq_true q131
     go_enter Tryd.func78, Tryd.ntmps78
     go_wp2_with (first | (go_at_call 94; (with_reducible refine (utf_bounds.calls k (rd l0 0) t132 t133 t134 _ A3.out).mono ?_); rintro e w' ⟨rfl, ⟨nd, rfl⟩⟩; (try first | exact ⟨rfl, _, World.drewN_drewN _ _ _⟩ | exact ⟨rfl, _, Eq.trans (World.drewN_drewN _ _ _) (congrArg (World.drewN _) (Nat.add_assoc _ _ _))⟩); have p136 : 0 ≤ (0 : Int) := (by omega); have q136 : 0 < (l0.length : Int) := of_decide_eq_true (by first | (with_reducible assumption) | assumption); obtain ⟨ad136, e136, hx136_0⟩ := Kd.at_int HR0.out 0 p136 q136; obtain rfl : ad131 = ad136 := (by injection e136); have qi136 : (0 < l0.length) = True := eq_true (by omega); (try rw [show ((0 : Int)).toNat = 0 from rfl] at hx136_0); (try rw [Addr.add_zero'] at hx136_0); replace p136 := eq_true p136; replace q136 := eq_true q136))
     repeat (go_quiet (first | (go_at_call 94; (with_reducible refine (utf_bounds.calls k (rd l0 0) t132 t133 t134 _ A3.out).mono ?_); rintro e w' ⟨rfl, ⟨nd, rfl⟩⟩; (try first | exact ⟨rfl, _, World.drewN_drewN _ _ _⟩ | exact ⟨rfl, _, Eq.trans (World.drewN_drewN _ _ _) (congrArg (World.drewN _) (Nat.add_assoc _ _ _))⟩); have p136 : 0 ≤ (0 : Int) := (by omega); have q136 : 0 < (l0.length : Int) := of_decide_eq_true (by first | (with_reducible assumption) | assumption); obtain ⟨ad136, e136, hx136_0⟩ := Kd.at_int HR0.out 0 p136 q136; obtain rfl : ad131 = ad136 := (by injection e136); have qi136 : (0 < l0.length) = True := eq_true (by omega); (try rw [show ((0 : Int)).toNat = 0 from rfl] at hx136_0); (try rw [Addr.add_zero'] at hx136_0); replace p136 := eq_true p136; replace q136 := eq_true q136)); try go_wp2_with (first | (go_at_call 94; (with_reducible refine (utf_bounds.calls k (rd l0 0) t132 t133 t134 _ A3.out).mono ?_); rintro e w' ⟨rfl, ⟨nd, rfl⟩⟩; (try first | exact ⟨rfl, _, World.drewN_drewN _ _ _⟩ | exact ⟨rfl, _, Eq.trans (World.drewN_drewN _ _ _) (congrArg (World.drewN _) (Nat.add_assoc _ _ _))⟩); have p136 : 0 ≤ (0 : Int) := (by omega); have q136 : 0 < (l0.length : Int) := of_decide_eq_true (by first | (with_reducible assumption) | assumption); obtain ⟨ad136, e136, hx136_0⟩ := Kd.at_int HR0.out 0 p136 q136; obtain rfl : ad131 = ad136 := (by injection e136); have qi136 : (0 < l0.length) = True := eq_true (by omega); (try rw [show ((0 : Int)).toNat = 0 from rfl] at hx136_0); (try rw [Addr.add_zero'] at hx136_0); replace p136 := eq_true p136; replace q136 := eq_true q136)))
     go_loopg [6, 7, 8, 9] k (fun kq v6 v7 v8 v9 w' => ∃ (x6_1 : Int) (x7_1 : Int) (x8_1 : Int) (x9_1 : Int), v6 = .int .u8 x6_1 ∧ v7 = .int .u8 x7_1 ∧ v8 = .int .i32 x8_1 ∧ v9 = .int .i64 x9_1 ∧ Aside0 (utf_read.l0 kq l0 t132 x6_1 x7_1 x8_1 x9_1 = some (r1, r2, r3)) ∧ Aside0 (kq ≤ k) ∧ Drawn0 w w')
     case atStart => exact ⟨(t133), (t134), (Go.bits .and .i32 (wrap32 (rd l0 0)) (ji7)), (1), (by first | rfl | (simp; done) | (simp [*]; done) | (unfold bt; split <;> first | rfl | (exfalso; simp_all; done) | (exfalso; simp_all; omega))), (by first | rfl | (simp; done) | (simp [*]; done) | (unfold bt; split <;> first | rfl | (exfalso; simp_all; done) | (exfalso; simp_all; omega))), (by first | rfl | (simp; done) | (simp only [← hji7] <;> (first | rfl | simp)) | (simp [*]; done)), (by first | rfl | (simp; done) | (simp [*]; done) | (unfold bt; split <;> first | rfl | (exfalso; simp_all; done) | (exfalso; simp_all; omega))), H', ⟨Nat.le_refl _⟩, by repeat (first | exact Drawn0.refl _ | apply Drawn0.step)⟩
     case round =>
      clear H'
      try clear p1
      try clear q1
      try clear hx1
      try clear qi1
      try clear c2
      try clear c2b0
      try clear c2b1
      try clear p2
      try clear p3
      try clear c4
      try clear c4b0
      try clear c5
      try clear c5b0
      try clear c5b1
      try clear c6
      try clear c6b0
      try clear c6b1
      try clear c7
      try clear hx131_0
      try clear hx135_0
      try clear hx136_0
      try clear p131
      try clear p135
      try clear p136
      try clear q131
      try clear q135
      try clear q136
      obtain ⟨x6_1, x7_1, x8_1, x9_1, rfl, rfl, rfl, rfl, HA, HK1, ⟨m1, rfl⟩⟩ := hrel
      cases gk with
      | zero => exact absurd HA.out (by simp [utf_read.l0])
      | succ k1 =>
       have H := HA.out
       clear HA
       simp only [utf_read.l0] at H
       by_cases c8 : x9_1 ≤ t132
       ·rw [if_pos c8] at H
        have c8b0 : decide (x9_1 ≤ t132) = true := decide_eq_true c8
        clear c8
        by_cases c9 : x9_1 = (l0.length : Int)
        ·rw [if_pos c9] at H
         have c9b0 : (x9_1 == (l0.length : Int)) = true := beq_iff_eq.mpr c9
         have c9b1 : (x9_1 != (l0.length : Int)) = false := bne_eq_false_iff_eq.mpr c9
         clear c9
         simp only [Option.some.injEq, Prod.mk.injEq] at H
         obtain ⟨rfl, rfl, rfl⟩ := H
         go_wp2
         repeat (go_quiet (fail); try go_wp2)
         go_ret3
         exact ⟨by first | rfl | (simp; done) | (simp only [← hji7] <;> (first | rfl | simp)) | (simp [*]; done), by repeat (first | exact Drawn0.refl _ | apply Drawn0.step)⟩
        ·rw [if_neg c9] at H
         have c9b0 : (x9_1 == (l0.length : Int)) = false := beq_eq_false_iff_ne.mpr c9
         have c9b1 : (x9_1 != (l0.length : Int)) = true := bne_iff_ne.mpr c9
         by_cases c10 : 0 ≤ x9_1
         ·rw [if_pos c10] at H
          have c10b0 : decide (0 ≤ x9_1) = true := decide_eq_true c10
          clear c10
          by_cases c11 : x9_1 < (l0.length : Int)
          ·rw [if_pos c11] at H
           have c11b0 : decide (x9_1 < (l0.length : Int)) = true := decide_eq_true c11
           clear c11
           by_cases c12 : (rd l0 x9_1) < x6_1
           ·rw [if_pos c12] at H
            have c12b0 : decide ((rd l0 x9_1) < x6_1) = true := decide_eq_true c12
            clear c12
            simp only [Option.some.injEq, Prod.mk.injEq] at H
            obtain ⟨rfl, rfl, rfl⟩ := H
            have p137 : 0 ≤ (x9_1 : Int) := of_decide_eq_true (by first | (with_reducible assumption) | assumption)
            have q137 : x9_1 < (l0.length : Int) := of_decide_eq_true (by first | (with_reducible assumption) | assumption)
            obtain ⟨ad137, e137, hx137_0⟩ := Kd.at_int HR0.out x9_1 p137 q137
            obtain rfl : ad131 = ad137 := (by injection e137)
            replace p137 := eq_true p137
            replace q137 := eq_true q137
            go_wp2
            repeat (go_quiet (fail); try go_wp2)
            go_ret3
            exact ⟨by first | rfl | (simp; done) | (simp only [← hji7] <;> (first | rfl | simp)) | (simp [*]; done), by repeat (first | exact Drawn0.refl _ | apply Drawn0.step)⟩
           ·rw [if_neg c12] at H
            have c12b0 : decide ((rd l0 x9_1) < x6_1) = false := decide_eq_false c12
            clear c12
            by_cases c13 : (rd l0 x9_1) > x7_1
            ·rw [if_pos c13] at H
             have c13b0 : decide (x7_1 < (rd l0 x9_1)) = true := decide_eq_true c13
             clear c13
             simp only [Option.some.injEq, Prod.mk.injEq] at H
             obtain ⟨rfl, rfl, rfl⟩ := H
             have p137 : 0 ≤ (x9_1 : Int) := of_decide_eq_true (by first | (with_reducible assumption) | assumption)
             have q137 : x9_1 < (l0.length : Int) := of_decide_eq_true (by first | (with_reducible assumption) | assumption)
             obtain ⟨ad137, e137, hx137_0⟩ := Kd.at_int HR0.out x9_1 p137 q137
             obtain rfl : ad131 = ad137 := (by injection e137)
             replace p137 := eq_true p137
             replace q137 := eq_true q137
             have p138 : 0 ≤ (x9_1 : Int) := of_decide_eq_true (by first | (with_reducible assumption) | assumption)
             have q138 : x9_1 < (l0.length : Int) := of_decide_eq_true (by first | (with_reducible assumption) | assumption)
             obtain ⟨ad138, e138, hx138_0⟩ := Kd.at_int HR0.out x9_1 p138 q138
             obtain rfl : ad131 = ad138 := (by injection e138)
             replace p138 := eq_true p138
             replace q138 := eq_true q138
             go_wp2
             repeat (go_quiet (fail); try go_wp2)
             go_ret3
             exact ⟨by first | rfl | (simp; done) | (simp only [← hji7] <;> (first | rfl | simp)) | (simp [*]; done), by repeat (first | exact Drawn0.refl _ | apply Drawn0.step)⟩
            ·rw [if_neg c13] at H
             have c13b0 : decide (x7_1 < (rd l0 x9_1)) = false := decide_eq_false c13
             clear c13
             have H' := Aside0.mk H
             clear H
             have p137 : 0 ≤ (x9_1 : Int) := of_decide_eq_true (by first | (with_reducible assumption) | assumption)
             have q137 : x9_1 < (l0.length : Int) := of_decide_eq_true (by first | (with_reducible assumption) | assumption)
             obtain ⟨ad137, e137, hx137_0⟩ := Kd.at_int HR0.out x9_1 p137 q137
             obtain rfl : ad131 = ad137 := (by injection e137)
             replace p137 := eq_true p137
             replace q137 := eq_true q137
             have p138 : 0 ≤ (x9_1 : Int) := of_decide_eq_true (by first | (with_reducible assumption) | assumption)
             have q138 : x9_1 < (l0.length : Int) := of_decide_eq_true (by first | (with_reducible assumption) | assumption)
             obtain ⟨ad138, e138, hx138_0⟩ := Kd.at_int HR0.out x9_1 p138 q138
             obtain rfl : ad131 = ad138 := (by injection e138)
             replace p138 := eq_true p138
             replace q138 := eq_true q138
             have p139 : 0 ≤ (x9_1 : Int) := of_decide_eq_true (by first | (with_reducible assumption) | assumption)
             have q139 : x9_1 < (l0.length : Int) := of_decide_eq_true (by first | (with_reducible assumption) | assumption)
             obtain ⟨ad139, e139, hx139_0⟩ := Kd.at_int HR0.out x9_1 p139 q139
             obtain rfl : ad131 = ad139 := (by injection e139)
             replace p139 := eq_true p139
             replace q139 := eq_true q139
             go_wp2
             repeat (go_quiet (fail); try go_wp2)
             go_roundg k1
             case measure => have := HK1.out; omega
             case rel => exact ⟨(128), (191), (Go.bits .or .i32 (wrap32 (x8_1 * 64)) (wrap32 (Go.bits .and .u8 (rd l0 x9_1) 63))), (wrap64 (x9_1 + 1)), (by first | rfl | (simp; done) | (simp [*]; done) | (unfold bt; split <;> first | rfl | (exfalso; simp_all; done) | (exfalso; simp_all; omega))), (by first | rfl | (simp; done) | (simp [*]; done) | (unfold bt; split <;> first | rfl | (exfalso; simp_all; done) | (exfalso; simp_all; omega))), (by first | rfl | (simp; done) | (simp [*]; done) | (unfold bt; split <;> first | rfl | (exfalso; simp_all; done) | (exfalso; simp_all; omega))), (by first | rfl | (simp; done) | (simp [*]; done) | (unfold bt; split <;> first | rfl | (exfalso; simp_all; done) | (exfalso; simp_all; omega))), H', ⟨by have := HK1.out; omega⟩, by repeat (first | exact Drawn0.refl _ | apply Drawn0.step)⟩
          ·rw [if_neg c11] at H
           exact absurd H (by simp)
         ·rw [if_neg c10] at H
          exact absurd H (by simp)
       ·rw [if_neg c8] at H
        have c8b0 : decide (x9_1 ≤ t132) = false := decide_eq_false c8
        clear c8
        simp only [Option.some.injEq, Prod.mk.injEq] at H
        obtain ⟨rfl, rfl, rfl⟩ := H
        go_wp2
        repeat (go_quiet (fail); try go_wp2)
        go_ret3
        exact ⟨by first | rfl | (simp; done) | (simp only [← hji7] <;> (first | rfl | simp)) | (simp [*]; done), by repeat (first | exact Drawn0.refl _ | apply Drawn0.step)⟩
    ·rw [if_neg c6] at H
     exact absurd H (by simp)
 ·rw [if_neg c2] at H
  exact absurd H (by simp)

end Go.Proofs.YthmbbkbmlnaghaaDoor.P
end
section
/-
 The table of named references as plain data, and the contract of 'api.Entities': it hands back a new slice that holds just this table.
-/
namespace Go.Proofs.YthmbbkbmlnaghaaDoor.P
open Go.RowKit Go.Proofs.YthmbbkbmlnaghaaDoorW.PrintWords Go.Proofs.YthmbbkbmlnaghaaDoorW.PrintLast Go.Proofs.YthmbbkbmlnaghaaDoorW.PrintMore
set_option linter.unusedVariables false

def ents : List S75 := [
 ⟨⟨#[65, 69, 108, 105, 103]⟩, 198, 0, true⟩,
 ⟨⟨#[65, 77, 80]⟩, 38, 0, true⟩,
 ⟨⟨#[65, 97, 99, 117, 116, 101]⟩, 193, 0, true⟩,
 ⟨⟨#[65, 99, 105, 114, 99]⟩, 194, 0, true⟩,
 ⟨⟨#[65, 102, 114]⟩, 120068, 0, false⟩,
 ⟨⟨#[65, 103, 114, 97, 118, 101]⟩, 192, 0, true⟩,
 ⟨⟨#[65, 108, 112, 104, 97]⟩, 913, 0, false⟩,
 ⟨⟨#[65, 114, 105, 110, 103]⟩, 197, 0, true⟩,
 ⟨⟨#[65, 116, 105, 108, 100, 101]⟩, 195, 0, true⟩,
 ⟨⟨#[65, 117, 109, 108]⟩, 196, 0, true⟩,
 ⟨⟨#[66, 101, 116, 97]⟩, 914, 0, false⟩,
 ⟨⟨#[67, 79, 80, 89]⟩, 169, 0, true⟩,
 ⟨⟨#[67, 99, 101, 100, 105, 108]⟩, 199, 0, true⟩,
 ⟨⟨#[67, 104, 105]⟩, 935, 0, false⟩,
 ⟨⟨#[67, 111, 112, 102]⟩, 8450, 0, false⟩,
 ⟨⟨#[68, 97, 103, 103, 101, 114]⟩, 8225, 0, false⟩,
 ⟨⟨#[68, 101, 108, 116, 97]⟩, 916, 0, false⟩,
 ⟨⟨#[69, 84, 72]⟩, 208, 0, true⟩,
 ⟨⟨#[69, 97, 99, 117, 116, 101]⟩, 201, 0, true⟩,
 ⟨⟨#[69, 99, 105, 114, 99]⟩, 202, 0, true⟩,
 ⟨⟨#[69, 103, 114, 97, 118, 101]⟩, 200, 0, true⟩,
 ⟨⟨#[69, 112, 115, 105, 108, 111, 110]⟩, 917, 0, false⟩,
 ⟨⟨#[69, 116, 97]⟩, 919, 0, false⟩,
 ⟨⟨#[69, 117, 109, 108]⟩, 203, 0, true⟩,
 ⟨⟨#[71, 84]⟩, 62, 0, true⟩,
 ⟨⟨#[71, 97, 109, 109, 97]⟩, 915, 0, false⟩,
 ⟨⟨#[72, 97, 116]⟩, 94, 0, false⟩,
 ⟨⟨#[73, 97, 99, 117, 116, 101]⟩, 205, 0, true⟩,
 ⟨⟨#[73, 99, 105, 114, 99]⟩, 206, 0, true⟩,
 ⟨⟨#[73, 103, 114, 97, 118, 101]⟩, 204, 0, true⟩,
 ⟨⟨#[73, 111, 116, 97]⟩, 921, 0, false⟩,
 ⟨⟨#[73, 117, 109, 108]⟩, 207, 0, true⟩,
 ⟨⟨#[75, 97, 112, 112, 97]⟩, 922, 0, false⟩,
 ⟨⟨#[76, 84]⟩, 60, 0, true⟩,
 ⟨⟨#[76, 97, 109, 98, 100, 97]⟩, 923, 0, false⟩,
 ⟨⟨#[77, 117]⟩, 924, 0, false⟩,
 ⟨⟨#[78, 101, 119, 76, 105, 110, 101]⟩, 10, 0, false⟩,
 ⟨⟨#[78, 111, 116, 69, 113, 117, 97, 108, 84, 105, 108, 100, 101]⟩, 8770, 824, false⟩,
 ⟨⟨#[78, 116, 105, 108, 100, 101]⟩, 209, 0, true⟩,
 ⟨⟨#[78, 117]⟩, 925, 0, false⟩,
 ⟨⟨#[79, 69, 108, 105, 103]⟩, 338, 0, false⟩,
 ⟨⟨#[79, 97, 99, 117, 116, 101]⟩, 211, 0, true⟩,
 ⟨⟨#[79, 99, 105, 114, 99]⟩, 212, 0, true⟩,
 ⟨⟨#[79, 103, 114, 97, 118, 101]⟩, 210, 0, true⟩,
 ⟨⟨#[79, 109, 101, 103, 97]⟩, 937, 0, false⟩,
 ⟨⟨#[79, 109, 105, 99, 114, 111, 110]⟩, 927, 0, false⟩,
 ⟨⟨#[79, 115, 108, 97, 115, 104]⟩, 216, 0, true⟩,
 ⟨⟨#[79, 116, 105, 108, 100, 101]⟩, 213, 0, true⟩,
 ⟨⟨#[79, 117, 109, 108]⟩, 214, 0, true⟩,
 ⟨⟨#[80, 104, 105]⟩, 934, 0, false⟩,
 ⟨⟨#[80, 105]⟩, 928, 0, false⟩,
 ⟨⟨#[80, 114, 105, 109, 101]⟩, 8243, 0, false⟩,
 ⟨⟨#[80, 115, 105]⟩, 936, 0, false⟩,
 ⟨⟨#[81, 85, 79, 84]⟩, 34, 0, true⟩,
 ⟨⟨#[82, 69, 71]⟩, 174, 0, true⟩,
 ⟨⟨#[82, 104, 111]⟩, 929, 0, false⟩,
 ⟨⟨#[83, 99, 97, 114, 111, 110]⟩, 352, 0, false⟩,
 ⟨⟨#[83, 105, 103, 109, 97]⟩, 931, 0, false⟩,
 ⟨⟨#[84, 72, 79, 82, 78]⟩, 222, 0, true⟩,
 ⟨⟨#[84, 97, 98]⟩, 9, 0, false⟩,
 ⟨⟨#[84, 97, 117]⟩, 932, 0, false⟩,
 ⟨⟨#[84, 104, 101, 116, 97]⟩, 920, 0, false⟩,
 ⟨⟨#[84, 104, 105, 99, 107, 83, 112, 97, 99, 101]⟩, 8287, 8202, false⟩,
 ⟨⟨#[85, 97, 99, 117, 116, 101]⟩, 218, 0, true⟩,
 ⟨⟨#[85, 99, 105, 114, 99]⟩, 219, 0, true⟩,
 ⟨⟨#[85, 103, 114, 97, 118, 101]⟩, 217, 0, true⟩,
 ⟨⟨#[85, 112, 115, 105, 108, 111, 110]⟩, 933, 0, false⟩,
 ⟨⟨#[85, 117, 109, 108]⟩, 220, 0, true⟩,
 ⟨⟨#[88, 105]⟩, 926, 0, false⟩,
 ⟨⟨#[89, 97, 99, 117, 116, 101]⟩, 221, 0, true⟩,
 ⟨⟨#[89, 117, 109, 108]⟩, 376, 0, false⟩,
 ⟨⟨#[90, 101, 116, 97]⟩, 918, 0, false⟩,
 ⟨⟨#[97, 97, 99, 117, 116, 101]⟩, 225, 0, true⟩,
 ⟨⟨#[97, 99, 105, 114, 99]⟩, 226, 0, true⟩,
 ⟨⟨#[97, 99, 117, 116, 101]⟩, 180, 0, true⟩,
 ⟨⟨#[97, 101, 108, 105, 103]⟩, 230, 0, true⟩,
 ⟨⟨#[97, 103, 114, 97, 118, 101]⟩, 224, 0, true⟩,
 ⟨⟨#[97, 108, 101, 102, 115, 121, 109]⟩, 8501, 0, false⟩,
 ⟨⟨#[97, 108, 112, 104, 97]⟩, 945, 0, false⟩,
 ⟨⟨#[97, 109, 112]⟩, 38, 0, true⟩,
 ⟨⟨#[97, 110, 100]⟩, 8743, 0, false⟩,
 ⟨⟨#[97, 110, 103]⟩, 8736, 0, false⟩,
 ⟨⟨#[97, 112, 111, 115]⟩, 39, 0, false⟩,
 ⟨⟨#[97, 114, 105, 110, 103]⟩, 229, 0, true⟩,
 ⟨⟨#[97, 115, 116]⟩, 42, 0, false⟩,
 ⟨⟨#[97, 115, 121, 109, 112]⟩, 8776, 0, false⟩,
 ⟨⟨#[97, 116, 105, 108, 100, 101]⟩, 227, 0, true⟩,
 ⟨⟨#[97, 117, 109, 108]⟩, 228, 0, true⟩,
 ⟨⟨#[98, 100, 113, 117, 111]⟩, 8222, 0, false⟩,
 ⟨⟨#[98, 101, 116, 97]⟩, 946, 0, false⟩,
 ⟨⟨#[98, 110, 101]⟩, 61, 8421, false⟩,
 ⟨⟨#[98, 114, 118, 98, 97, 114]⟩, 166, 0, true⟩,
 ⟨⟨#[98, 115, 111, 108]⟩, 92, 0, false⟩,
 ⟨⟨#[98, 117, 108, 108]⟩, 8226, 0, false⟩,
 ⟨⟨#[99, 97, 112]⟩, 8745, 0, false⟩,
 ⟨⟨#[99, 99, 101, 100, 105, 108]⟩, 231, 0, true⟩,
 ⟨⟨#[99, 101, 100, 105, 108]⟩, 184, 0, true⟩,
 ⟨⟨#[99, 101, 110, 116]⟩, 162, 0, true⟩,
 ⟨⟨#[99, 104, 105]⟩, 967, 0, false⟩,
 ⟨⟨#[99, 105, 114, 99]⟩, 710, 0, false⟩,
 ⟨⟨#[99, 108, 117, 98, 115]⟩, 9827, 0, false⟩,
 ⟨⟨#[99, 111, 108, 111, 110]⟩, 58, 0, false⟩,
 ⟨⟨#[99, 111, 109, 109, 97]⟩, 44, 0, false⟩,
 ⟨⟨#[99, 111, 109, 109, 97, 116]⟩, 64, 0, false⟩,
 ⟨⟨#[99, 111, 110, 103]⟩, 8773, 0, false⟩,
 ⟨⟨#[99, 111, 112, 121]⟩, 169, 0, true⟩,
 ⟨⟨#[99, 114, 97, 114, 114]⟩, 8629, 0, false⟩,
 ⟨⟨#[99, 117, 112]⟩, 8746, 0, false⟩,
 ⟨⟨#[99, 117, 114, 114, 101, 110]⟩, 164, 0, true⟩,
 ⟨⟨#[100, 65, 114, 114]⟩, 8659, 0, false⟩,
 ⟨⟨#[100, 97, 103, 103, 101, 114]⟩, 8224, 0, false⟩,
 ⟨⟨#[100, 97, 114, 114]⟩, 8595, 0, false⟩,
 ⟨⟨#[100, 101, 103]⟩, 176, 0, true⟩,
 ⟨⟨#[100, 101, 108, 116, 97]⟩, 948, 0, false⟩,
 ⟨⟨#[100, 105, 97, 109, 115]⟩, 9830, 0, false⟩,
 ⟨⟨#[100, 105, 118, 105, 100, 101]⟩, 247, 0, true⟩,
 ⟨⟨#[100, 111, 108, 108, 97, 114]⟩, 36, 0, false⟩,
 ⟨⟨#[101, 97, 99, 117, 116, 101]⟩, 233, 0, true⟩,
 ⟨⟨#[101, 99, 105, 114, 99]⟩, 234, 0, true⟩,
 ⟨⟨#[101, 103, 114, 97, 118, 101]⟩, 232, 0, true⟩,
 ⟨⟨#[101, 109, 112, 116, 121]⟩, 8709, 0, false⟩,
 ⟨⟨#[101, 109, 115, 112]⟩, 8195, 0, false⟩,
 ⟨⟨#[101, 110, 115, 112]⟩, 8194, 0, false⟩,
 ⟨⟨#[101, 112, 115, 105, 108, 111, 110]⟩, 949, 0, false⟩,
 ⟨⟨#[101, 113, 117, 97, 108, 115]⟩, 61, 0, false⟩,
 ⟨⟨#[101, 113, 117, 105, 118]⟩, 8801, 0, false⟩,
 ⟨⟨#[101, 116, 97]⟩, 951, 0, false⟩,
 ⟨⟨#[101, 116, 104]⟩, 240, 0, true⟩,
 ⟨⟨#[101, 117, 109, 108]⟩, 235, 0, true⟩,
 ⟨⟨#[101, 117, 114, 111]⟩, 8364, 0, false⟩,
 ⟨⟨#[101, 120, 99, 108]⟩, 33, 0, false⟩,
 ⟨⟨#[101, 120, 105, 115, 116]⟩, 8707, 0, false⟩,
 ⟨⟨#[102, 106, 108, 105, 103]⟩, 102, 106, false⟩,
 ⟨⟨#[102, 110, 111, 102]⟩, 402, 0, false⟩,
 ⟨⟨#[102, 111, 114, 97, 108, 108]⟩, 8704, 0, false⟩,
 ⟨⟨#[102, 114, 97, 99, 49, 50]⟩, 189, 0, true⟩,
 ⟨⟨#[102, 114, 97, 99, 49, 52]⟩, 188, 0, true⟩,
 ⟨⟨#[102, 114, 97, 99, 51, 52]⟩, 190, 0, true⟩,
 ⟨⟨#[102, 114, 97, 115, 108]⟩, 8260, 0, false⟩,
 ⟨⟨#[103, 97, 109, 109, 97]⟩, 947, 0, false⟩,
 ⟨⟨#[103, 101]⟩, 8805, 0, false⟩,
 ⟨⟨#[103, 114, 97, 118, 101]⟩, 96, 0, false⟩,
 ⟨⟨#[103, 116]⟩, 62, 0, true⟩,
 ⟨⟨#[104, 65, 114, 114]⟩, 8660, 0, false⟩,
 ⟨⟨#[104, 97, 114, 114]⟩, 8596, 0, false⟩,
 ⟨⟨#[104, 101, 97, 114, 116, 115]⟩, 9829, 0, false⟩,
 ⟨⟨#[104, 101, 108, 108, 105, 112]⟩, 8230, 0, false⟩,
 ⟨⟨#[105, 97, 99, 117, 116, 101]⟩, 237, 0, true⟩,
 ⟨⟨#[105, 99, 105, 114, 99]⟩, 238, 0, true⟩,
 ⟨⟨#[105, 101, 120, 99, 108]⟩, 161, 0, true⟩,
 ⟨⟨#[105, 103, 114, 97, 118, 101]⟩, 236, 0, true⟩,
 ⟨⟨#[105, 109, 97, 103, 101]⟩, 8465, 0, false⟩,
 ⟨⟨#[105, 110, 102, 105, 110]⟩, 8734, 0, false⟩,
 ⟨⟨#[105, 110, 116]⟩, 8747, 0, false⟩,
 ⟨⟨#[105, 111, 116, 97]⟩, 953, 0, false⟩,
 ⟨⟨#[105, 113, 117, 101, 115, 116]⟩, 191, 0, true⟩,
 ⟨⟨#[105, 115, 105, 110]⟩, 8712, 0, false⟩,
 ⟨⟨#[105, 117, 109, 108]⟩, 239, 0, true⟩,
 ⟨⟨#[107, 97, 112, 112, 97]⟩, 954, 0, false⟩,
 ⟨⟨#[108, 65, 114, 114]⟩, 8656, 0, false⟩,
 ⟨⟨#[108, 97, 109, 98, 100, 97]⟩, 955, 0, false⟩,
 ⟨⟨#[108, 97, 110, 103]⟩, 10216, 0, false⟩,
 ⟨⟨#[108, 97, 113, 117, 111]⟩, 171, 0, true⟩,
 ⟨⟨#[108, 97, 114, 114]⟩, 8592, 0, false⟩,
 ⟨⟨#[108, 98, 114, 97, 99, 101]⟩, 123, 0, false⟩,
 ⟨⟨#[108, 98, 114, 97, 99, 107]⟩, 91, 0, false⟩,
 ⟨⟨#[108, 99, 101, 105, 108]⟩, 8968, 0, false⟩,
 ⟨⟨#[108, 99, 117, 98]⟩, 123, 0, false⟩,
 ⟨⟨#[108, 100, 113, 117, 111]⟩, 8220, 0, false⟩,
 ⟨⟨#[108, 101]⟩, 8804, 0, false⟩,
 ⟨⟨#[108, 102, 108, 111, 111, 114]⟩, 8970, 0, false⟩,
 ⟨⟨#[108, 111, 119, 97, 115, 116]⟩, 8727, 0, false⟩,
 ⟨⟨#[108, 111, 119, 98, 97, 114]⟩, 95, 0, false⟩,
 ⟨⟨#[108, 111, 122]⟩, 9674, 0, false⟩,
 ⟨⟨#[108, 112, 97, 114]⟩, 40, 0, false⟩,
 ⟨⟨#[108, 114, 109]⟩, 8206, 0, false⟩,
 ⟨⟨#[108, 115, 97, 113, 117, 111]⟩, 8249, 0, false⟩,
 ⟨⟨#[108, 115, 113, 98]⟩, 91, 0, false⟩,
 ⟨⟨#[108, 115, 113, 117, 111]⟩, 8216, 0, false⟩,
 ⟨⟨#[108, 116]⟩, 60, 0, true⟩,
 ⟨⟨#[109, 97, 99, 114]⟩, 175, 0, true⟩,
 ⟨⟨#[109, 100, 97, 115, 104]⟩, 8212, 0, false⟩,
 ⟨⟨#[109, 105, 99, 114, 111]⟩, 181, 0, true⟩,
 ⟨⟨#[109, 105, 100, 100, 111, 116]⟩, 183, 0, true⟩,
 ⟨⟨#[109, 105, 110, 117, 115]⟩, 8722, 0, false⟩,
 ⟨⟨#[109, 117]⟩, 956, 0, false⟩,
 ⟨⟨#[110, 97, 98, 108, 97]⟩, 8711, 0, false⟩,
 ⟨⟨#[110, 98, 115, 112]⟩, 160, 0, true⟩,
 ⟨⟨#[110, 100, 97, 115, 104]⟩, 8211, 0, false⟩,
 ⟨⟨#[110, 101]⟩, 8800, 0, false⟩,
 ⟨⟨#[110, 105]⟩, 8715, 0, false⟩,
 ⟨⟨#[110, 111, 116]⟩, 172, 0, true⟩,
 ⟨⟨#[110, 111, 116, 105, 110]⟩, 8713, 0, false⟩,
 ⟨⟨#[110, 111, 116, 105, 110, 118, 97]⟩, 8713, 0, false⟩,
 ⟨⟨#[110, 111, 116, 110, 105]⟩, 8716, 0, false⟩,
 ⟨⟨#[110, 115, 117, 98]⟩, 8836, 0, false⟩,
 ⟨⟨#[110, 116, 105, 108, 100, 101]⟩, 241, 0, true⟩,
 ⟨⟨#[110, 117]⟩, 957, 0, false⟩,
 ⟨⟨#[110, 117, 109]⟩, 35, 0, false⟩,
 ⟨⟨#[110, 118, 108, 116]⟩, 60, 8402, false⟩,
 ⟨⟨#[111, 97, 99, 117, 116, 101]⟩, 243, 0, true⟩,
 ⟨⟨#[111, 99, 105, 114, 99]⟩, 244, 0, true⟩,
 ⟨⟨#[111, 101, 108, 105, 103]⟩, 339, 0, false⟩,
 ⟨⟨#[111, 103, 114, 97, 118, 101]⟩, 242, 0, true⟩,
 ⟨⟨#[111, 108, 105, 110, 101]⟩, 8254, 0, false⟩,
 ⟨⟨#[111, 109, 101, 103, 97]⟩, 969, 0, false⟩,
 ⟨⟨#[111, 109, 105, 99, 114, 111, 110]⟩, 959, 0, false⟩,
 ⟨⟨#[111, 112, 108, 117, 115]⟩, 8853, 0, false⟩,
 ⟨⟨#[111, 114]⟩, 8744, 0, false⟩,
 ⟨⟨#[111, 114, 100, 102]⟩, 170, 0, true⟩,
 ⟨⟨#[111, 114, 100, 109]⟩, 186, 0, true⟩,
 ⟨⟨#[111, 115, 108, 97, 115, 104]⟩, 248, 0, true⟩,
 ⟨⟨#[111, 116, 105, 108, 100, 101]⟩, 245, 0, true⟩,
 ⟨⟨#[111, 116, 105, 109, 101, 115]⟩, 8855, 0, false⟩,
 ⟨⟨#[111, 117, 109, 108]⟩, 246, 0, true⟩,
 ⟨⟨#[112, 97, 114, 97]⟩, 182, 0, true⟩,
 ⟨⟨#[112, 97, 114, 116]⟩, 8706, 0, false⟩,
 ⟨⟨#[112, 101, 114, 99, 110, 116]⟩, 37, 0, false⟩,
 ⟨⟨#[112, 101, 114, 105, 111, 100]⟩, 46, 0, false⟩,
 ⟨⟨#[112, 101, 114, 109, 105, 108]⟩, 8240, 0, false⟩,
 ⟨⟨#[112, 101, 114, 112]⟩, 8869, 0, false⟩,
 ⟨⟨#[112, 104, 105]⟩, 966, 0, false⟩,
 ⟨⟨#[112, 105]⟩, 960, 0, false⟩,
 ⟨⟨#[112, 105, 118]⟩, 982, 0, false⟩,
 ⟨⟨#[112, 108, 117, 115]⟩, 43, 0, false⟩,
 ⟨⟨#[112, 108, 117, 115, 109, 110]⟩, 177, 0, true⟩,
 ⟨⟨#[112, 111, 117, 110, 100]⟩, 163, 0, true⟩,
 ⟨⟨#[112, 114, 105, 109, 101]⟩, 8242, 0, false⟩,
 ⟨⟨#[112, 114, 111, 100]⟩, 8719, 0, false⟩,
 ⟨⟨#[112, 114, 111, 112]⟩, 8733, 0, false⟩,
 ⟨⟨#[112, 115, 105]⟩, 968, 0, false⟩,
 ⟨⟨#[113, 117, 101, 115, 116]⟩, 63, 0, false⟩,
 ⟨⟨#[113, 117, 111, 116]⟩, 34, 0, true⟩,
 ⟨⟨#[114, 65, 114, 114]⟩, 8658, 0, false⟩,
 ⟨⟨#[114, 97, 100, 105, 99]⟩, 8730, 0, false⟩,
 ⟨⟨#[114, 97, 110, 103]⟩, 10217, 0, false⟩,
 ⟨⟨#[114, 97, 113, 117, 111]⟩, 187, 0, true⟩,
 ⟨⟨#[114, 97, 114, 114]⟩, 8594, 0, false⟩,
 ⟨⟨#[114, 98, 114, 97, 99, 101]⟩, 125, 0, false⟩,
 ⟨⟨#[114, 98, 114, 97, 99, 107]⟩, 93, 0, false⟩,
 ⟨⟨#[114, 99, 101, 105, 108]⟩, 8969, 0, false⟩,
 ⟨⟨#[114, 99, 117, 98]⟩, 125, 0, false⟩,
 ⟨⟨#[114, 100, 113, 117, 111]⟩, 8221, 0, false⟩,
 ⟨⟨#[114, 101, 97, 108]⟩, 8476, 0, false⟩,
 ⟨⟨#[114, 101, 103]⟩, 174, 0, true⟩,
 ⟨⟨#[114, 102, 108, 111, 111, 114]⟩, 8971, 0, false⟩,
 ⟨⟨#[114, 104, 111]⟩, 961, 0, false⟩,
 ⟨⟨#[114, 108, 109]⟩, 8207, 0, false⟩,
 ⟨⟨#[114, 112, 97, 114]⟩, 41, 0, false⟩,
 ⟨⟨#[114, 115, 97, 113, 117, 111]⟩, 8250, 0, false⟩,
 ⟨⟨#[114, 115, 113, 98]⟩, 93, 0, false⟩,
 ⟨⟨#[114, 115, 113, 117, 111]⟩, 8217, 0, false⟩,
 ⟨⟨#[115, 98, 113, 117, 111]⟩, 8218, 0, false⟩,
 ⟨⟨#[115, 99, 97, 114, 111, 110]⟩, 353, 0, false⟩,
 ⟨⟨#[115, 100, 111, 116]⟩, 8901, 0, false⟩,
 ⟨⟨#[115, 101, 99, 116]⟩, 167, 0, true⟩,
 ⟨⟨#[115, 101, 109, 105]⟩, 59, 0, false⟩,
 ⟨⟨#[115, 104, 121]⟩, 173, 0, true⟩,
 ⟨⟨#[115, 105, 103, 109, 97]⟩, 963, 0, false⟩,
 ⟨⟨#[115, 105, 103, 109, 97, 102]⟩, 962, 0, false⟩,
 ⟨⟨#[115, 105, 109]⟩, 8764, 0, false⟩,
 ⟨⟨#[115, 111, 108]⟩, 47, 0, false⟩,
 ⟨⟨#[115, 112, 97, 100, 101, 115]⟩, 9824, 0, false⟩,
 ⟨⟨#[115, 117, 98]⟩, 8834, 0, false⟩,
 ⟨⟨#[115, 117, 98, 101]⟩, 8838, 0, false⟩,
 ⟨⟨#[115, 117, 109]⟩, 8721, 0, false⟩,
 ⟨⟨#[115, 117, 112]⟩, 8835, 0, false⟩,
 ⟨⟨#[115, 117, 112, 49]⟩, 185, 0, true⟩,
 ⟨⟨#[115, 117, 112, 50]⟩, 178, 0, true⟩,
 ⟨⟨#[115, 117, 112, 51]⟩, 179, 0, true⟩,
 ⟨⟨#[115, 117, 112, 101]⟩, 8839, 0, false⟩,
 ⟨⟨#[115, 122, 108, 105, 103]⟩, 223, 0, true⟩,
 ⟨⟨#[116, 97, 117]⟩, 964, 0, false⟩,
 ⟨⟨#[116, 104, 101, 114, 101, 52]⟩, 8756, 0, false⟩,
 ⟨⟨#[116, 104, 101, 116, 97]⟩, 952, 0, false⟩,
 ⟨⟨#[116, 104, 101, 116, 97, 115, 121, 109]⟩, 977, 0, false⟩,
 ⟨⟨#[116, 104, 105, 110, 115, 112]⟩, 8201, 0, false⟩,
 ⟨⟨#[116, 104, 111, 114, 110]⟩, 254, 0, true⟩,
 ⟨⟨#[116, 105, 108, 100, 101]⟩, 732, 0, false⟩,
 ⟨⟨#[116, 105, 109, 101, 115]⟩, 215, 0, true⟩,
 ⟨⟨#[116, 114, 97, 100, 101]⟩, 8482, 0, false⟩,
 ⟨⟨#[117, 65, 114, 114]⟩, 8657, 0, false⟩,
 ⟨⟨#[117, 97, 99, 117, 116, 101]⟩, 250, 0, true⟩,
 ⟨⟨#[117, 97, 114, 114]⟩, 8593, 0, false⟩,
 ⟨⟨#[117, 99, 105, 114, 99]⟩, 251, 0, true⟩,
 ⟨⟨#[117, 103, 114, 97, 118, 101]⟩, 249, 0, true⟩,
 ⟨⟨#[117, 109, 108]⟩, 168, 0, true⟩,
 ⟨⟨#[117, 112, 115, 105, 104]⟩, 978, 0, false⟩,
 ⟨⟨#[117, 112, 115, 105, 108, 111, 110]⟩, 965, 0, false⟩,
 ⟨⟨#[117, 117, 109, 108]⟩, 252, 0, true⟩,
 ⟨⟨#[118, 101, 114, 98, 97, 114]⟩, 124, 0, false⟩,
 ⟨⟨#[118, 101, 114, 116]⟩, 124, 0, false⟩,
 ⟨⟨#[119, 101, 105, 101, 114, 112]⟩, 8472, 0, false⟩,
 ⟨⟨#[120, 105]⟩, 958, 0, false⟩,
 ⟨⟨#[121, 97, 99, 117, 116, 101]⟩, 253, 0, true⟩,
 ⟨⟨#[121, 101, 110]⟩, 165, 0, true⟩,
 ⟨⟨#[121, 117, 109, 108]⟩, 255, 0, true⟩,
 ⟨⟨#[122, 101, 116, 97]⟩, 950, 0, false⟩,
 ⟨⟨#[122, 102, 114]⟩, 120119, 0, false⟩,
 ⟨⟨#[122, 119, 106]⟩, 8205, 0, false⟩,
 ⟨⟨#[122, 119, 110, 106]⟩, 8204, 0, false⟩]
def api_Entities.f : Option (List S75) := some ents
def entV (x : S75) : Value := .agg #[.string x.f0, .int .i32 x.f1, .int .i32 x.f2, .bool x.f3]
def entCells (x : S75) : List Value := [.string x.f0, .int .i32 x.f1, .int .i32 x.f2, .bool x.f3]

/-- what an operation that builds an entity of constants into slot k builds -/
def entOp (k : Nat) (o : Oper) : Option S75 :=
 match o with
 | ⟨some d, .build t ps, _, _, _, none⟩ =>
  match ps.toList with
  | [(0, .const (.string s)), (1, .const (.int .i32 a)), (2, .const (.int .i32 b)), (3, .const (.bool c))] =>
   if d = k then (if t = 75 then some ⟨s, a, b, c⟩ else none) else none
  | _ => none
 | _ => none
def entExt : Nat → List Oper → List S75
 | _, [] => []
 | k, o :: os => match entOp k o with | some x => x :: entExt (k + 1) os | none => []

theorem entOp_some {k : Nat} {o : Oper} {x : S75} (h : entOp k o = some x) :
  ∃ ty pos after, o = ⟨some k, .build 75 #[(0, .const (.string x.f0)), (1, .const (.int .i32 x.f1)), (2, .const (.int .i32 x.f2)), (3, .const (.bool x.f3))], ty, pos, after, none⟩ := by
 unfold entOp at h
 split at h
 ·rename_i d t ps ty pos after
  split at h
  ·rename_i s a b c hps
   split at h
   ·rename_i hd
    split at h
    ·rename_i ht
     injection h with h
     subst h hd ht
     refine ⟨ty, pos, after, ?_⟩
     have hp : ps = #[(0, .const (.string s)), (1, .const (.int .i32 a)), (2, .const (.int .i32 b)), (3, .const (.bool c))] := by
      rw [← Array.toArray_toList (xs := ps), hps]
     rw [hp]
    ·cases h
   ·cases h
  ·cases h
 ·cases h

theorem run_build_ent (w : World) (s : ByteArray) (a b : Int) (c : Bool) :
  (Instr.build 75 #[(0, .string s), (1, .int .i32 a), (2, .int .i32 b), (3, .bool c)]).run Tryd.prog w = .ok (.agg #[.string s, .int .i32 a, .int .i32 b, .bool c]) w := by kernel_rfl

theorem wp_build_ent {ops : Array Oper} {Q : Exit → Act → World → Prop} {rest : List Oper} {a : Act} {w : World} {k : Nat} {o : Oper} {x : S75} (h : entOp k o = some x)
  (hr : wpList Tryd.prog ops Q rest (a.put (some k) (entV x)) w) : wpList Tryd.prog ops Q (o :: rest) a w := by
 obtain ⟨ty, pos, after, rfl⟩ := entOp_some h
 refine wpList_plain rfl fun K hK => ?_
 have hb := run_build_ent w x.f0 x.f1 x.f2 x.f3
 unfold Oper.wp
 simp only [execOp, Act.eval, List.map_toArray, List.map_cons, List.map_nil, Sem.run_bind, hb, Result.andThen_ok, Sem.run_pure]
 exact hK _ _ hr

theorem wp_builds {ops : Array Oper} {Q : Exit → Act → World → Prop} {rest : List Oper} {w : World} : ∀ (os : List Oper) (k : Nat) (a : Act), (entExt k os).length = os.length → k + os.length ≤ a.tmps.size →
  (∀ a' : Act, a'.defers = a.defers → a'.tmps.size = a.tmps.size → (∀ j x, (entExt k os)[j]? = some x → a'.tmps[k + j]? = some (entV x)) → (∀ i, i < k → a'.tmps[i]? = a.tmps[i]?) → wpList Tryd.prog ops Q rest a' w) →
  wpList Tryd.prog ops Q (os ++ rest) a w
 | [], k, a, _, _, h => h a rfl rfl (fun j x hj => by simp [entExt] at hj) (fun _ _ => rfl)
 | o :: os, k, a, hl, hs, h => by
  cases he : entOp k o with
  | none => simp [entExt, he] at hl
  | some x =>
   have hx : entExt k (o :: os) = x :: entExt (k + 1) os := by simp [entExt, he]
   rw [hx] at hl h
   simp only [List.length_cons] at hl hs
   refine wp_build_ent he (wp_builds os (k + 1) _ (by omega) (by simp [Act.put]; omega) fun a' h1 h2 h3 h4 => ?_)
   refine h a' (by rw [h1]; rfl) (by rw [h2]; simp [Act.put]) (fun j y hj => ?_) (fun i hi => ?_)
   ·cases j with
    | zero =>
     simp at hj
     subst hj
     rw [Nat.add_zero, h4 k (by omega)]
     simp [Act.put, show k < a.tmps.size by omega]
    | succ j =>
     simp only [List.getElem?_cons_succ] at hj
     rw [show k + (j + 1) = k + 1 + j from by omega]
     exact h3 j y hj
   ·rw [h4 i (by omega)]
    simp [Act.put, show ¬ k = i by omega]

/-! ### the slice's cells -/
theorem fill_ents : ∀ (xs : List S75) (k : Nat) (dn : List Value) (tl : List Value), dn.length = k * 4 → tl.length = xs.length * 4 →
  Instr.fill (fun i => some (i * 4, 4)) (dn ++ tl).toArray ((xs.zipIdx k).map fun p => (p.2, entV p.1)) = some (dn ++ xs.flatMap entCells).toArray
 | [], k, dn, tl, _, ht => by
  obtain rfl : tl = [] := List.eq_nil_of_length_eq_zero (by simpa using ht)
  simp [Instr.fill]
 | x :: xs, k, dn, tl, hd, ht => by
  match tl, ht with
  | t0 :: t1 :: t2 :: t3 :: tl, ht =>
   have ht' : tl.length = xs.length * 4 := by simp at ht; omega
   have ih := fill_ents xs (k + 1) (dn ++ entCells x) tl (by simp [entCells]; omega) ht'
   simp only [List.zipIdx_cons, List.map_cons, Instr.fill]
   have hc : (entV x).cells = #[.string x.f0, .int .i32 x.f1, .int .i32 x.f2, .bool x.f3] := rfl
   rw [hc]
   rw [if_neg (by simp; omega)]
   have e : (Array.zipIdx #[Value.string x.f0, .int .i32 x.f1, .int .i32 x.f2, .bool x.f3]).foldl (fun cs (c, j) => cs.setIfInBounds (k * 4 + j) c) (dn ++ t0 :: t1 :: t2 :: t3 :: tl).toArray = (dn ++ entCells x ++ tl).toArray := by
    rw [← hd]
    simp [entCells]
   rw [e, ih]
   simp [List.append_assoc]
  | [], ht => simp at ht
  | [_], ht => simp at ht; omega
  | [_, _], ht => simp at ht; omega
  | [_, _, _], ht => simp at ht; omega

noncomputable def entOps : Array Oper := match Tryd.f49.body with
 | some (.seq _ (.seq (.region _ ops _) _)) => ops
 | _ => #[]
noncomputable def entHead : Array Oper := match Tryd.f49.body with
 | some (.seq (.region _ ops _) _) => ops
 | _ => #[]
theorem ent_body : Tryd.f49.body = some (.seq (.region 0 entHead false) (.seq (.region 1 entOps false) .ret)) := by kernel_rfl
theorem ent_ext : entExt 1 (entOps.toList.take 301) = ents := by kernel_rfl
theorem ent_take : (entOps.toList.take 301).length = 301 := by kernel_rfl
def entTail (l : List Oper) : Option (Array (Nat × Operand)) :=
 match l with
 | [⟨some d, .buildSlice t n ps, _, _, _, none⟩, ⟨some d', .assign (.tmp u), _, _, _, none⟩] =>
  if d = 302 then (if t = 72 then (if n = 301 then (if d' = 0 then (if u = 302 then some ps else none) else none) else none) else none) else none
 | _ => none
theorem entTail_some {l : List Oper} {ps : Array (Nat × Operand)} (h : entTail l = some ps) :
  ∃ ty pos after ty' pos' after', l = [⟨some 302, .buildSlice 72 301 ps, ty, pos, after, none⟩, ⟨some 0, .assign (.tmp 302), ty', pos', after', none⟩] := by
 unfold entTail at h
 split at h
 ·rename_i d t n ps' ty pos after d' u ty' pos' after'
  by_cases h1 : d = 302
  ·rw [if_pos h1] at h
   by_cases h2 : t = 72
   ·rw [if_pos h2] at h
    by_cases h3 : n = 301
    ·rw [if_pos h3] at h
     by_cases h4 : d' = 0
     ·rw [if_pos h4] at h
      by_cases h5 : u = 302
      ·rw [if_pos h5] at h
       injection h with h
       subst h1 h2 h3 h4 h5 h
       exact ⟨ty, pos, after, ty', pos', after', rfl⟩
      ·rw [if_neg h5] at h; cases h
     ·rw [if_neg h4] at h; cases h
    ·rw [if_neg h3] at h; cases h
   ·rw [if_neg h2] at h; cases h
  ·rw [if_neg h1] at h; cases h
 ·cases h
theorem ent_tail : entTail (entOps.toList.drop 301) = some ((List.range 301).map fun i => (i, Operand.tmp (i + 1))).toArray := by kernel_rfl
theorem ent_headl : entHead = #[⟨some 0, .assign (.const (.slice none 0 0)), 72, "entities.go:12", #[], none⟩] := by kernel_rfl
theorem ents_length : ents.length = 301 := by kernel_rfl

theorem ents_cells_size : (ents.flatMap entCells).length = 1204 := by kernel_rfl
theorem infoEnt : (Tryd.prog.info? 75).map (fun i => (i.zero, i.size, i.bytes)) = some (some (.agg #[.string ⟨#[]⟩, .int .i32 0, .int .i32 0, .bool false]), 4, 32) := by kernel_rfl
theorem run_buildSlice_ents (w : World) (xs : List S75) (n : Nat) (hl : xs.length = n) (h0 : n ≠ 0) (hn : n ≤ 1000) :
  (Instr.buildSlice 72 n ((xs.zipIdx 0).map fun p => (p.2, entV p.1)).toArray).run Tryd.prog w =
  .ok (.slice (some ⟨w.heap.size, 0, none⟩) n n) (w.alloc (.cells (xs.flatMap entCells).toArray 75)) := by
 obtain ⟨i0, hi, hz0, hz1, hz2⟩ := info_parts infoEnt
 have hf : ∀ f : Nat → Value, Instr.fill (fun i => some (i * 4, 4)) (Array.map f (Array.range (n * 4))) ((xs.zipIdx 0).map fun p => (p.2, entV p.1)) = some (xs.flatMap entCells).toArray := fun f => by
  have h := fill_ents xs 0 [] (Array.map f (Array.range (n * 4))).toList rfl (by rw [hl]; simp)
  simpa only [List.nil_append, Array.toArray_toList] using h
 have hz := Tryd.zeroValue75 w
 have hg : ¬ 16777216 < n * 4 := by omega
 have h4 : ¬ n * 4 = 0 := by omega
 simp [Instr.buildSlice, go_sem, run_underlying Tryd.underlying72, sizeOf, typeInfo, hi, hz1, hg]
 rw [if_neg h4, hf]
 rfl

theorem zip_eval (xs : List S75) (a : Act) (h : ∀ j x, xs[j]? = some x → a.tmps[1 + j]? = some (entV x)) :
  ((List.range xs.length).map fun i => (i, a.eval (.tmp (i + 1)))) = (xs.zipIdx 0).map fun p => (p.2, entV p.1) := by
 apply List.ext_getElem
 ·simp
 ·intro i h1 h2
  simp only [List.getElem_map, List.getElem_range, List.getElem_zipIdx, Nat.zero_add]
  have hi : i < xs.length := by simpa using h1
  have := h i xs[i] (List.getElem?_eq_getElem hi)
  rw [Nat.add_comm] at this
  simp [Act.eval, Array.getD_eq_getD_getElem?, this]

theorem flat_len : ∀ xs : List S75, (xs.flatMap entCells).length = xs.length * 4
 | [] => rfl
 | x :: xs => by
  have := flat_len xs
  simp only [List.flatMap_cons, List.length_append, List.length_cons, this]
  simp only [entCells, List.length_cons, List.length_nil]
  omega
theorem flat_at : ∀ (xs : List S75) (j : Nat) (x : S75), xs[j]? = some x → ((xs.flatMap entCells).drop (j * 4)).take 4 = entCells x
 | [], j, x, h => by simp at h
 | y :: xs, 0, x, h => by
  simp at h
  subst h
  simp [entCells]
 | y :: xs, j + 1, x, h => by
  have := flat_at xs j x (by simpa using h)
  rw [show (j + 1) * 4 = 4 + j * 4 from by omega, List.flatMap_cons, ← List.drop_drop]
  have e : (entCells y ++ xs.flatMap entCells).drop 4 = xs.flatMap entCells := by simp [entCells]
  rw [e, this]
theorem reps_ents (w : World) (base : Nat) (ok : Nat → Prop) (xs : List S75) : Reps (k75.M w base ok) 4 xs (xs.flatMap entCells) :=
 ⟨flat_len xs, fun j p hj => by rw [flat_at xs j p hj]; exact k75_mkM w base ok p⟩

set_option maxRecDepth 100000 in
/-- **api.Entities()**: a new slice that holds the table. -/
theorem api_Entities.calls (r : List S75) (w : World) (h : api_Entities.f = some r) :
  Calls Tryd.prog 49 #[] w fun e w' => ∃ v0_ : Value, e = .returned (v0_) ∧ Kd.R k75 75 w' w.heap.size (fun _ => True) v0_ r ∧ Below w.heap.size w w' := by
 obtain rfl := Option.some.inj h
 have hlen := ents_length
 have hsz := ents_cells_size
 have hex := ent_ext
 generalize ents = xs at hlen hsz hex ⊢
 refine calls_of_wp Tryd.func49 ent_body ?_
 apply wp_seq_k; intro K1 hK1
 refine wp_region_list ?_
 rw [ent_headl]
 refine wpList_plain rfl fun K hK => ?_
 unfold Oper.wp
 simp only [execOp, Act.eval, Sem.run_pure]
 refine hK _ _ (wpList_nil (hK1 _ _ ?_))
 clear hK hK1 K K1
 apply wp_seq_k; intro K1 hK1
 refine wp_region_list ?_
 obtain ⟨ty, pos, after, ty', pos', after', ht⟩ := entTail_some ent_tail
 rw [← List.take_append_drop 301 entOps.toList, ht]
 have htk := ent_take
 refine wp_builds _ 1 _ (by rw [hex, hlen, htk]) (by rw [htk]; simp [Tryd.ntmps49, Act.put]) fun a' h1 h2 h3 h4 => ?_
 rw [hex] at h3
 have hsize : a'.tmps.size = 303 := by rw [h2]; simp [Tryd.ntmps49, Act.put]
 have hz := zip_eval xs a' h3
 rw [hlen] at hz
 have hrun := run_buildSlice_ents w xs 301 hlen (by omega) (by omega)
 rw [← hz] at hrun
 refine wpList_plain rfl fun K hK => ?_
 unfold Oper.wp
 simp only [execOp, List.map_toArray, List.map_map, Function.comp_def, Sem.run_bind, hrun, Result.andThen_ok, Sem.run_pure]
 refine hK _ _ ?_
 clear hK K
 refine wpList_plain rfl fun K hK => ?_
 unfold Oper.wp
 simp only [execOp, Sem.run_pure]
 refine hK _ _ (wpList_nil (hK1 _ _ ?_))
 apply wp_ret
 have e302 : (Act.put a' (some 302) (Value.slice (some ⟨w.heap.size, 0, none⟩) 301 301)).eval (.tmp 302) = Value.slice (some ⟨w.heap.size, 0, none⟩) 301 301 := by
  simp [Act.eval, Act.put, hsize, Array.getD_eq_getD_getElem?]
 refine bodyPost_ret (v := .slice (some ⟨w.heap.size, 0, none⟩) 301 301) ?_ ?_ ?_
 ·simp [results, Tryd.results49, Act.put, Act.eval, hsize, Array.getD_eq_getD_getElem?]
 ·simp [Act.put, h1]
 ·refine ⟨_, rfl, ⟨fun _ _ => trivial, xs.flatMap entCells, ⟨by rw [hlen, hsz]; rfl, .inr ⟨w.heap.size, 301, (xs.flatMap entCells).toArray, by rw [hlen], Nat.le_refl _, ?_, by omega, by simp only [maxLen]; omega, by simp [hsz]; rfl, ?_⟩⟩, ?_⟩, (Below.refl _ _).alloc (Nat.le_refl _) _⟩
  ·exact heap_alloc_new w _
  ·rw [hlen]
   refine List.take_of_length_le ?_
   show (xs.flatMap entCells).toArray.toList.length ≤ 301 * 4
   rw [show (xs.flatMap entCells).toArray.toList = xs.flatMap entCells from rfl]
   omega
  ·exact reps_ents _ _ _ xs
end Go.Proofs.YthmbbkbmlnaghaaDoor.P
end
section
/-
 What a number says: the contract of 'charref.says' (numbers from 0 on), over the array of 'charref.windows'.
-/
namespace Go.Proofs.YthmbbkbmlnaghaaDoor.P
open Go.RowKit Go.Proofs.YthmbbkbmlnaghaaDoorW.PrintWords Go.Proofs.YthmbbkbmlnaghaaDoorW.PrintLast Go.Proofs.YthmbbkbmlnaghaaDoorW.PrintMore
set_option linter.unusedVariables false
set_option linter.unusedSimpArgs false

def winL : List Int := [8364, 129, 8218, 402, 8222, 8230, 8224, 8225, 710, 8240, 352, 8249, 338, 141, 381, 143, 144, 8216, 8217, 8220, 8221, 8226, 8211, 8212, 732, 8482, 353, 8250, 339, 157, 382, 376]
def winC : Array Value := #[.int .i32 8364, .int .i32 129, .int .i32 8218, .int .i32 402, .int .i32 8222, .int .i32 8230, .int .i32 8224, .int .i32 8225, .int .i32 710, .int .i32 8240, .int .i32 352, .int .i32 8249, .int .i32 338, .int .i32 141, .int .i32 381, .int .i32 143, .int .i32 144, .int .i32 8216, .int .i32 8217, .int .i32 8220, .int .i32 8221, .int .i32 8226, .int .i32 8211, .int .i32 8212, .int .i32 732, .int .i32 8482, .int .i32 353, .int .i32 8250, .int .i32 339, .int .i32 157, .int .i32 382, .int .i32 376]
def winZ : Array Value := #[.int .i32 0, .int .i32 0, .int .i32 0, .int .i32 0, .int .i32 0, .int .i32 0, .int .i32 0, .int .i32 0, .int .i32 0, .int .i32 0, .int .i32 0, .int .i32 0, .int .i32 0, .int .i32 0, .int .i32 0, .int .i32 0, .int .i32 0, .int .i32 0, .int .i32 0, .int .i32 0, .int .i32 0, .int .i32 0, .int .i32 0, .int .i32 0, .int .i32 0, .int .i32 0, .int .i32 0, .int .i32 0, .int .i32 0, .int .i32 0, .int .i32 0, .int .i32 0]
def winP : Array (Nat × Value) := #[(0, .int .i32 8364), (1, .int .i32 129), (2, .int .i32 8218), (3, .int .i32 402), (4, .int .i32 8222), (5, .int .i32 8230), (6, .int .i32 8224), (7, .int .i32 8225), (8, .int .i32 710), (9, .int .i32 8240), (10, .int .i32 352), (11, .int .i32 8249), (12, .int .i32 338), (13, .int .i32 141), (14, .int .i32 381), (15, .int .i32 143), (16, .int .i32 144), (17, .int .i32 8216), (18, .int .i32 8217), (19, .int .i32 8220), (20, .int .i32 8221), (21, .int .i32 8226), (22, .int .i32 8211), (23, .int .i32 8212), (24, .int .i32 732), (25, .int .i32 8482), (26, .int .i32 353), (27, .int .i32 8250), (28, .int .i32 339), (29, .int .i32 157), (30, .int .i32 382), (31, .int .i32 376)]
def winV : Value := .agg winC
theorem win_size : winC.size = 32 := rfl
theorem winZ_size : winZ.size = 32 := rfl
theorem win_one : winC.all (·.oneCell') = true := by kernel_rfl
theorem win_info : (Tryd.prog.info? 50).map (fun i => (i.zero, i.size)) = some (some (.agg winZ), 32) := by kernel_rfl
theorem win_under : Tryd.prog.underlying 50 = some (.array 32 21) := by kernel_rfl
theorem run_build_win (w : World) : (Instr.build 50 winP).run Tryd.prog w = .ok winV w := by kernel_rfl
theorem win_alloc (w : World) : (Instr.alloc 50 true (.tuple #[])).run Tryd.prog w = .ok (.pointer (some ⟨w.heap.size, 0, none⟩)) (w.alloc (.cells winZ 50)) := by
 have hz := (zero_of_info win_info).1 w
 simp [Instr.alloc, hz, go_sem, newVar, newRow, newObj, Value.cells]
 rfl

noncomputable def winOps1 : Array Oper := match Tryd.f28.body with
 | some (.seq (.region _ ops _) _) => ops
 | _ => #[]
noncomputable def winOps2 : Array Oper := match Tryd.f28.body with
 | some (.seq _ (.seq (.region _ ops _) _)) => ops
 | _ => #[]
theorem win_body : Tryd.f28.body = some (.seq (.region 0 winOps1 false) (.seq (.region 1 winOps2 false) .ret)) := by kernel_rfl
def winChk1 (l : List Oper) : Bool := match l with
 | [⟨some d, .alloc t, _, _, _, none⟩] => d == 0 && t == 50
 | _ => false
def winChk2 (l : List Oper) : Option (Array (Nat × Operand)) := match l with
 | [⟨some d, .build t ps, _, _, _, none⟩, ⟨none, .store t' (.tmp x) (.tmp y), _, _, _, none⟩] => if (d == 1 && t == 50 && t' == 50 && x == 0 && y == 1) = true then some ps else none
 | _ => none
theorem winChk1_ok : winChk1 winOps1.toList = true := by kernel_rfl
noncomputable def winPs : Array (Nat × Operand) := match winOps2.toList with
 | ⟨_, .build _ ps, _, _, _, _⟩ :: _ => ps
 | _ => #[]
theorem winChk2_ok : winChk2 winOps2.toList = some winPs := by kernel_rfl
theorem winPs_val (a : Act) : winPs.map (fun (i, x) => (i, a.eval x)) = winP := by kernel_rfl
theorem winChk1_some {l : List Oper} (h : winChk1 l = true) : ∃ ty pos after, l = [⟨some 0, .alloc 50, ty, pos, after, none⟩] := by
 unfold winChk1 at h
 split at h
 ·rename_i d t ty pos after
  simp only [Bool.and_eq_true, beq_iff_eq] at h
  obtain ⟨rfl, rfl⟩ := h
  exact ⟨_, _, _, rfl⟩
 ·cases h
theorem winChk2_some {l : List Oper} {ps : Array (Nat × Operand)} (h : winChk2 l = some ps) :
  ∃ ty pos after ty' pos' after', l = [⟨some 1, .build 50 ps, ty, pos, after, none⟩, ⟨none, .store 50 (.tmp 0) (.tmp 1), ty', pos', after', none⟩] := by
 unfold winChk2 at h
 split at h
 ·rename_i d t ps' ty pos after t' x y ty' pos' after'
  split at h
  ·rename_i hc
   simp only [Bool.and_eq_true, beq_iff_eq] at hc
   obtain ⟨⟨⟨⟨rfl, rfl⟩, rfl⟩, rfl⟩, rfl⟩ := hc
   injection h with h
   subst h
   exact ⟨_, _, _, _, _, _, rfl⟩
  ·cases h
 ·cases h

theorem win_calls (w : World) : Calls Tryd.prog 28 #[] w fun e w' => e = .returned winV ∧ Below w.heap.size w w' := by
 have hsz := win_size
 have hszZ := winZ_size
 have hone := win_one
 have hbld := run_build_win
 have hal := win_alloc w
 have hpv := winPs_val
 have hinf := (zero_of_info win_info).2
 have hun := win_under
 unfold winV at hbld ⊢
 generalize winC = C at hsz hone hbld ⊢
 generalize winZ = Z at hszZ hal
 generalize winP = PP at hbld hpv
 refine calls_of_wp Tryd.func28 win_body ?_
 refine (fun (h : ∀ a0 : Act, a0.tmps.size = 2 → a0.defers = [] → Code.wp _ _ _ a0 w) => h _ (by simp [Tryd.ntmps28]) rfl) ?_
 intro a0 hs0 hd0
 apply wp_seq_k; intro K1 hK1
 refine wp_region_list ?_
 obtain ⟨ty, pos, after, h1⟩ := winChk1_some winChk1_ok
 rw [h1]
 refine wpList_plain rfl fun K hK => ?_
 unfold Oper.wp
 simp only [execOp, Sem.run_bind, hal, Result.andThen_ok, Sem.run_pure]
 refine hK _ _ (wpList_nil (hK1 _ _ ?_))
 clear hK hK1 K K1
 apply wp_seq_k; intro K1 hK1
 refine wp_region_list ?_
 obtain ⟨ty2, pos2, after2, ty3, pos3, after3, h2⟩ := winChk2_some winChk2_ok
 rw [h2]
 refine wpList_plain rfl fun K hK => ?_
 unfold Oper.wp
 simp only [execOp, Sem.run_bind, hpv, hbld, Result.andThen_ok, Sem.run_pure]
 refine hK _ _ ?_
 clear hK K
 refine wpList_plain rfl fun K hK => ?_
 have e0 : Act.eval (Act.put (Act.put a0 (some 0) (Value.pointer (some ⟨w.heap.size, 0, none⟩))) (some 1) (Value.agg C)) (.tmp 0) = Value.pointer (some ⟨w.heap.size, 0, none⟩) := by
  simp [Act.eval, Act.put, hs0, Array.getD_eq_getD_getElem?, Array.getElem?_setIfInBounds]
 have e1 : Act.eval (Act.put (Act.put a0 (some 0) (Value.pointer (some ⟨w.heap.size, 0, none⟩))) (some 1) (Value.agg C)) (.tmp 1) = Value.agg C := by
  simp [Act.eval, Act.put, hs0, Array.getD_eq_getD_getElem?, Array.getElem?_setIfInBounds]
 have hst := run_storeAt_new (P := Tryd.prog) w 50 Z C (by rw [hinf, hsz]) (by rw [hszZ, hsz]) hone
 unfold Oper.wp
 simp only [execOp, e0, e1, Sem.run_bind, hst, Result.andThen_ok, Sem.run_pure]
 refine hK _ _ (wpList_nil (hK1 _ _ ?_))
 apply wp_ret
 refine bodyPost_ret (v := .agg C) ?_ ?_ ⟨rfl, (Below.refl _ _).alloc (Nat.le_refl _) _⟩
 ·refine results_cell_row Tryd.results28 _ _ w.heap.size 50 C (0, 0) _ ?_ (heap_alloc_new w _) hun rfl (by rw [hinf, hsz])
  simp [Act.put, hs0, Array.getD_eq_getD_getElem?, Array.getElem?_setIfInBounds]
 ·simp [Act.put, hd0]

theorem win_index (k : Nat) (hk : k < 32) (w : World) : (Instr.index 50 winV (.int .i64 (k : Int))).run Tryd.prog w = .ok (.int .i32 (winL.getD k 0)) w := by
 rcases (show k = 0 ∨ k = 1 ∨ k = 2 ∨ k = 3 ∨ k = 4 ∨ k = 5 ∨ k = 6 ∨ k = 7 ∨ k = 8 ∨ k = 9 ∨ k = 10 ∨ k = 11 ∨ k = 12 ∨ k = 13 ∨ k = 14 ∨ k = 15 ∨ k = 16 ∨ k = 17 ∨ k = 18 ∨ k = 19 ∨ k = 20 ∨ k = 21 ∨ k = 22 ∨ k = 23 ∨ k = 24 ∨ k = 25 ∨ k = 26 ∨ k = 27 ∨ k = 28 ∨ k = 29 ∨ k = 30 ∨ k = 31 from by omega) with rfl | rfl | rfl | rfl | rfl | rfl | rfl | rfl | rfl | rfl | rfl | rfl | rfl | rfl | rfl | rfl | rfl | rfl | rfl | rfl | rfl | rfl | rfl | rfl | rfl | rfl | rfl | rfl | rfl | rfl | rfl | rfl
 all_goals kernel_rfl

def saysF (n : Int) : Int × Bool :=
 if n = 0 ∨ n > 1114111 ∨ (n ≥ 55296 ∧ n ≤ 57343) then (65533, false)
 else if n ≥ 128 ∧ n ≤ 159 then (winL.getD (n - 128).toNat 0, winL.getD (n - 128).toNat 0 == n)
 else (n, true)
def charref_says.f (n : Int) : Option (Int × Bool) := if 0 ≤ n ∧ n ≤ 9223372036854775807 then some (saysF n) else none


theorem win_at (n : Int) (h0 : 128 ≤ n) (h1 : n ≤ 159) (w : World) : (Instr.index 50 winV (.int .i64 (n - 128))).run Tryd.prog w = .ok (.int .i32 (winL.getD (n - 128).toNat 0)) w := by
 obtain ⟨k, hk⟩ : ∃ k : Nat, n - 128 = (k : Int) := ⟨(n - 128).toNat, by omega⟩
 rw [hk, Int.toNat_natCast]
 exact win_index k (by omega) w

set_option maxHeartbeats 1000000 in
theorem charref_says.calls (a0 : Int) (r1 : Int) (r2 : Bool) (w : World) (h : charref_says.f a0 = some (r1, r2)) :
  Calls Tryd.prog 18 #[.int .i64 a0] w fun e w' => e = .returned (.tuple #[.int .i32 r1, .bool r2]) ∧ Below w.heap.size w w' := by
 unfold charref_says.f at h
 split at h
 ·rename_i hd
  obtain ⟨h0, h63⟩ := hd
  have h := Option.some.inj h
  unfold saysF at h
  split at h
  ·rename_i hc
   injection h with e1 e2
   subst e1 e2
   have hB : Below w.heap.size w w := Below.refl _ _
   rcases hc with hc | hc | ⟨hc, hc'⟩
   ·subst hc
    go_enter Tryd.func18, Tryd.ntmps18
    go_wp2
    go_ret2
    exact ⟨rfl, hB⟩
   ·have d0 : (a0 == 0) = false := by simp; omega
    have d1 : decide (1114111 < a0) = true := by simpa using hc
    go_enter Tryd.func18, Tryd.ntmps18
    go_wp2
    go_ret2
    exact ⟨rfl, hB⟩
   ·have d0 : (a0 == 0) = false := by simp; omega
    have d1 : decide (1114111 < a0) = false := by simp; omega
    go_enter Tryd.func18, Tryd.ntmps18
    go_wp2
    go_ret2
    exact ⟨rfl, hB⟩
  ·rename_i hc
   have d0 : (a0 == 0) = false := by simp; omega
   have d1 : decide (1114111 < a0) = false := by simp; omega
   have hwr : wrap32 a0 = a0 := by unfold wrap32; omega
   split at h
   ·rename_i hw
    obtain ⟨hw1, hw2⟩ := hw
    injection h with e1 e2
    have hat := win_at a0 hw1 hw2
    generalize winL.getD (a0 - 128).toNat 0 = r at e1 e2 hat
    subst e1
    have d2 : decide (55296 ≤ a0) = false := by simp; omega
    go_enter Tryd.func18, Tryd.ntmps18
    go_wp2_with (go_at_call 28; refine (win_calls _).mono ?_; rintro e w' ⟨rfl, hb⟩)
    go_ret2
    exact ⟨by rw [← e2]; simp [hwr], by assumption⟩
   ·rename_i hw
    injection h with e1 e2
    subst e1 e2
    have hB : Below w.heap.size w w := Below.refl _ _
    by_cases hlo : 55296 ≤ a0
    ·have d3 : decide (a0 ≤ 57343) = false := by simp; omega
     go_enter Tryd.func18, Tryd.ntmps18
     go_wp2
     go_ret2
     exact ⟨by simp [hwr], hB⟩
    ·have d2 : decide (55296 ≤ a0) = false := by simp; omega
     by_cases h8 : 128 ≤ a0
     ·have d3 : decide (a0 ≤ 159) = false := by simp; omega
      go_enter Tryd.func18, Tryd.ntmps18
      go_wp2
      go_ret2
      exact ⟨by simp [hwr], hB⟩
     ·go_enter Tryd.func18, Tryd.ntmps18
      go_wp2
      go_ret2
      exact ⟨by simp [hwr], hB⟩
 ·cases h
end Go.Proofs.YthmbbkbmlnaghaaDoor.P
end
section
/-
 Runes to a text: the conversion 'string(runes)' of a row that is read and of a row of the call's own.
-/
namespace Go.Proofs.YthmbbkbmlnaghaaDoor.P
open Go.RowKit Go.Proofs.YthmbbkbmlnaghaaDoorW.PrintWords Go.Proofs.YthmbbkbmlnaghaaDoorW.PrintLast Go.Proofs.YthmbbkbmlnaghaaDoorW.PrintMore
set_option linter.unusedVariables false

def Hc_text (xs : List Int) : ByteArray := runesBytes xs

theorem Hc_of_reads {P : Program} {w : World} {src dst e : TypeId} {A : Option Addr} {n c : Nat} {xs : List Int} (hs : P.underlying src = some (.slice e)) (he : P.underlying e = some (.int .i32)) (hd : P.underlying dst = some .string)
  (h : ReadsInt w .i32 A n xs) : (convert src dst (.slice A n c)).run P w = .ok (.string (Hc_text xs)) w := by
 have hn : xs.length = n := h.1
 rcases A with _ | ad
 ·have h0 : n = 0 := by
   rcases Nat.eq_zero_or_pos n with h0 | h0
   ·exact h0
   ·obtain ⟨ad, h', _⟩ := h.2.2 h0
    cases h'
  subst h0
  obtain rfl : xs = [] := List.eq_nil_of_length_eq_zero hn
  exact run_convert_runes_nil w src dst e 0 c hs he hd
 ·have := run_convert_runes (P := P) w src dst e ad n c xs (by omega) hs he hd (fun j hj => by
   obtain ⟨ad', he', hc⟩ := h.2.2 (by omega)
   injection he' with he'
   subst he'
   exact hc j (by omega))
  rw [List.take_of_length_le (by omega)] at this
  exact this
theorem Hc_own_runes {P : Program} {w : World} {base n : Nat} {e' src dst e : TypeId} {v : Value} {xs : List Int} (hs : P.underlying src = some (.slice e)) (he : P.underlying e = some (.int .i32)) (hd : P.underlying dst = some .string)
  (h : w.ownsRow base e' 1 v n (nums .i32 xs)) : (convert src dst v).run P w = .ok (.string (Hc_text xs)) w := by
 obtain ⟨A, c, rfl, hr⟩ := own_reads h
 exact Hc_of_reads hs he hd hr
end Go.Proofs.YthmbbkbmlnaghaaDoor.P
end
section
namespace Go.Proofs.YthmbbkbmlnaghaaDoor.P
open Go.RowKit Go.Proofs.YthmbbkbmlnaghaaDoorW.PrintWords Go.Proofs.YthmbbkbmlnaghaaDoorW.PrintLast Go.Proofs.YthmbbkbmlnaghaaDoorW.PrintMore
attribute [local go_sem] max2_int min2_int max_two min_two max_three min_three max_four min_four   -- for this text's walks alone
set_option linter.unusedVariables false
set_option linter.unusedSimpArgs false

/-! ### charref_Number: function 7 -/
mutual
def charref_Number.j0 : Nat → ByteArray → Int → Option (Int × Bool)
 | 0, _, _ => none
 | k + 1, x0, x6 => charref_Number.l0 k x0 x6 0 (x0.toList != ([] : List UInt8)) (x0.size : Int) 0
def charref_Number.l0 : Nat → ByteArray → Int → Int → Bool → Int → Int → Option (Int × Bool)
 | 0, _, _, _, _, _, _ => none
 | k + 1, x0, x6, x7, x8, x15, x16 => if x16 < x15 then (if 0 ≤ x16 then (if x16 < (x0.size : Int) then ((names_Value.f k (wrap32 (bt x0 x16))).bind fun t209 => (if t209 < 0 then (some (65533, false)) else (if t209 ≥ x6 then (some (65533, false)) else (charref_Number.l0 k x0 x6 (mn (wrap64 ((wrap64 (x7 * x6)) + t209)) 1114112) x8 x15 (wrap64 (x16 + 1)))))) else (none)) else (none)) else (if x8 = true then ((charref_says.f x7).bind fun bt210 => (some (bt210.1, bt210.2))) else (some (65533, false)))
end
def charref_Number.f (k : Nat) (a0 : ByteArray) (a1 : Bool) : Option (Int × Bool) := if a1 = true then (charref_Number.j0 k a0 16) else (charref_Number.j0 k a0 10)
theorem charref_Number.mono_l : ∀ k, (∀ y0 y1, LeO (charref_Number.j0 k y0 y1) (charref_Number.j0 (k + 1) y0 y1)) ∧ (∀ y0 y1 y2 y3 y4 y5, LeO (charref_Number.l0 k y0 y1 y2 y3 y4 y5) (charref_Number.l0 (k + 1) y0 y1 y2 y3 y4 y5))
 | 0 => ⟨fun _ _ r h => by simp [charref_Number.j0] at h, fun _ _ _ _ _ _ r h => by simp [charref_Number.l0] at h⟩
 | k + 1 => by
  obtain ⟨ih0, ih1⟩ := charref_Number.mono_l k
  refine ⟨?_, ?_⟩
  ·intro y0 y1
   unfold charref_Number.j0
   repeat' first
   | (with_reducible exact ih0 _ _)
   | (with_reducible exact ih1 _ _ _ _ _ _)
   | (with_reducible exact names_Value.mono _ _)
   | (with_reducible exact LeO.refl _)
   | (with_reducible exact LeO.none _)
   | (with_reducible refine LeO.ite ?_ ?_)
   | (with_reducible refine LeO.bind ?_ (fun _ => ?_))
   | exact ih0 _ _
   | exact ih1 _ _ _ _ _ _
   | exact names_Value.mono _ _
   | exact LeO.none _
   | refine LeO.ite ?_ ?_
   | refine LeO.bind ?_ (fun _ => ?_)
  ·intro y0 y1 y2 y3 y4 y5
   unfold charref_Number.l0
   repeat' first
   | (with_reducible exact ih0 _ _)
   | (with_reducible exact ih1 _ _ _ _ _ _)
   | (with_reducible exact names_Value.mono _ _)
   | (with_reducible exact LeO.refl _)
   | (with_reducible exact LeO.none _)
   | (with_reducible refine LeO.ite ?_ ?_)
   | (with_reducible refine LeO.bind ?_ (fun _ => ?_))
   | exact ih0 _ _
   | exact ih1 _ _ _ _ _ _
   | exact names_Value.mono _ _
   | exact LeO.none _
   | refine LeO.ite ?_ ?_
   | refine LeO.bind ?_ (fun _ => ?_)
theorem charref_Number.mono : ∀ a0 a1 k, LeO (charref_Number.f k a0 a1) (charref_Number.f (k + 1) a0 a1) := by
 intro a0 a1 k
 obtain ⟨ih0, ih1⟩ := charref_Number.mono_l k
 unfold charref_Number.f
 repeat' first
   | (with_reducible exact ih0 _ _)
   | (with_reducible exact ih1 _ _ _ _ _ _)
   | (with_reducible exact names_Value.mono _ _)
   | (with_reducible exact LeO.refl _)
   | (with_reducible exact LeO.none _)
   | (with_reducible refine LeO.ite ?_ ?_)
   | (with_reducible refine LeO.bind ?_ (fun _ => ?_))
   | exact ih0 _ _
   | exact ih1 _ _ _ _ _ _
   | exact names_Value.mono _ _
   | exact LeO.none _
   | refine LeO.ite ?_ ?_
   | refine LeO.bind ?_ (fun _ => ?_)
set_option maxHeartbeats 8000000 in
set_option maxRecDepth 100000 in
theorem charref_Number.calls (k : Nat) (a0 : ByteArray) (a1 : Bool) (r1 : Int) (r2 : Bool) (w : World) (h : charref_Number.f k a0 a1 = some (r1, r2)) :
  Calls Tryd.prog 7 #[.string a0, .bool a1] w fun e w' => e = .returned (.tuple #[.int .i32 r1, .bool r2]) ∧ Below w.heap.size w w' := by
 have HB := Aside0.mk (Below.refl w.heap.size w)
 have H : (if a1 = true then (charref_Number.j0 k a0 16) else (charref_Number.j0 k a0 10)) = some (r1, r2) := h
 clear h
 have HC3 := Aside0.mk H
 clear H
 go_enter Tryd.func7, Tryd.ntmps7
 go_upto_if 11 with (fail)
 go_cut [6] (fun v6 wc => ∃ (kq : Nat) (x6_2 : Int), v6 = .int .i64 x6_2 ∧ Aside0 (charref_Number.j0 kq a0 x6_2 = some (r1, r2)) ∧ Aside0 (kq ≤ k) ∧ Aside0 (Below w.heap.size w wc))
 case first =>
  have H := HC3.out
  clear HC3
  by_cases c4 : a1 = true
  ·subst c4
   have H1 : (charref_Number.j0 k a0 16) = some (r1, r2) := by rw [if_pos rfl] at H; exact H
   clear H
   have H := H1
   clear H1
   have H' := Aside0.mk H
   clear H
   go_wp2
   go_meet
   case rel => exact ⟨_, (16), (by first | rfl | (simp; done) | (simp [*]; done) | (unfold bt; split <;> first | rfl | (exfalso; simp_all; done) | (exfalso; simp_all; omega))), H', ⟨by first | omega | exact Nat.le_refl _⟩, ⟨by repeat (first | (with_reducible first | exact HB.out | apply below_alloc | apply pw_below_drewN | apply below_drew1) | exact HB.out)⟩⟩
  ·replace c4 := Bool.eq_false_iff.mpr c4
   subst c4
   have H1 : (charref_Number.j0 k a0 10) = some (r1, r2) := by rw [if_neg (show ¬ (false = true) by decide)] at H; exact H
   clear H
   have H := H1
   clear H1
   have H' := Aside0.mk H
   clear H
   go_wp2
   go_meet
   case rel => exact ⟨_, (10), (by first | rfl | (simp; done) | (simp [*]; done) | (unfold bt; split <;> first | rfl | (exfalso; simp_all; done) | (exfalso; simp_all; omega))), H', ⟨by first | omega | exact Nat.le_refl _⟩, ⟨by repeat (first | (with_reducible first | exact HB.out | apply below_alloc | apply pw_below_drewN | apply below_drew1) | exact HB.out)⟩⟩
 case rest =>
  clear HC3
  try clear p2
  try clear c4
  obtain ⟨kq, x6_2, rfl, HA, HJ2, HB⟩ := hcut
  cases kq with
  | zero => exact absurd HA.out (by simp [charref_Number.j0])
  | succ kj2 =>
   have H := HA.out
   clear HA
   simp only [charref_Number.j0] at H
   have H' := Aside0.mk H
   clear H
   go_wp2
   go_loopg [7, 16] kj2 (fun kq v7 v16 w' => ∃ (x7_2 : Int) (x16_2 : Int), v7 = .int .i64 x7_2 ∧ v16 = .int .i64 x16_2 ∧ Aside0 (charref_Number.l0 kq a0 x6_2 x7_2 (a0.toList != ([] : List UInt8)) (a0.size : Int) x16_2 = some (r1, r2)) ∧ Aside0 (kq ≤ kj2) ∧ Aside0 (Below w.heap.size w w'))
   case atStart => exact ⟨(0), (0), (by first | rfl | (simp; done) | (simp [*]; done) | (unfold bt; split <;> first | rfl | (exfalso; simp_all; done) | (exfalso; simp_all; omega))), (by first | rfl | (simp; done) | (simp [*]; done) | (unfold bt; split <;> first | rfl | (exfalso; simp_all; done) | (exfalso; simp_all; omega))), H', ⟨Nat.le_refl _⟩, ⟨by repeat (first | (with_reducible first | exact HB.out | apply below_alloc | apply pw_below_drewN | apply below_drew1) | exact HB.out)⟩⟩
   case round =>
    clear H'
    try clear p2
    try clear c4
    try clear p2
    obtain ⟨x7_2, x16_2, rfl, rfl, HA, HK2, HB⟩ := hrel
    cases gk with
    | zero => exact absurd HA.out (by simp [charref_Number.l0])
    | succ k2 =>
     have H := HA.out
     clear HA
     simp only [charref_Number.l0] at H
     by_cases c5 : x16_2 < (a0.size : Int)
     ·rw [if_pos c5] at H
      have c5b0 : decide (x16_2 < (a0.size : Int)) = true := decide_eq_true c5
      clear c5
      by_cases c6 : 0 ≤ x16_2
      ·rw [if_pos c6] at H
       have c6b0 : decide (0 ≤ x16_2) = true := decide_eq_true c6
       clear c6
       by_cases c7 : x16_2 < (a0.size : Int)
       ·rw [if_pos c7] at H
        have c7b0 : decide (x16_2 < (a0.size : Int)) = true := decide_eq_true c7
        clear c7
        replace H := Option.bind_eq_some_iff.mp H
        obtain ⟨t209, A90, H⟩ := H
        replace H : (if t209 < 0 then (some (65533, false)) else (if t209 ≥ x6_2 then (some (65533, false)) else (charref_Number.l0 k2 a0 x6_2 (mn (wrap64 ((wrap64 (x7_2 * x6_2)) + t209)) 1114112) (a0.toList != ([] : List UInt8)) (a0.size : Int) (wrap64 (x16_2 + 1))))) = some (r1, r2) := H
        have A9 := Aside0.mk A90
        clear A90
        by_cases c10 : t209 < 0
        ·rw [if_pos c10] at H
         have c10b0 : decide (t209 < 0) = true := decide_eq_true c10
         clear c10
         simp only [Option.some.injEq, Prod.mk.injEq] at H
         obtain ⟨rfl, rfl⟩ := H
         have p8 : 0 ≤ (x16_2 : Int) := of_decide_eq_true (by first | (with_reducible assumption) | assumption)
         have q8 : x16_2 < (a0.size : Int) := of_decide_eq_true (by first | (with_reducible assumption) | assumption)
         have hx8 := bt_at a0 x16_2
         replace p8 := eq_true p8
         replace q8 := eq_true q8
         go_wp2_with (first | ((with_reducible refine gate_callee (f := 17) rfl ?_); refine goesL_ (some 23) rfl rfl Tryd.func17 (by kernel_rfl) rfl #[.int .i32 (wrap32 (bt a0 x16_2))] rfl (by (try simp only [List.map_toArray, List.map_cons, List.map_nil]); first | done | rfl | (simp only [List.length_drop, List.length_take]; rfl) | (simp [*] <;> rfl)) ?_; (with_reducible refine (names_Value.calls k2 (wrap32 (bt a0 x16_2)) t209 _ A9.out).mono ?_); rintro e w' ⟨rfl, ⟨nd, rfl⟩⟩; refine ⟨_, rfl, ?_⟩))
         go_ret2
         exact ⟨by first | rfl | (simp [errW_none, errW_some] <;> rfl) | (simp [*, errW_none, errW_some] <;> rfl), by repeat (first | (with_reducible first | exact HB.out | apply below_alloc | apply pw_below_drewN | apply below_drew1) | exact HB.out)⟩
        ·rw [if_neg c10] at H
         have c10b0 : decide (t209 < 0) = false := decide_eq_false c10
         clear c10
         by_cases c11 : t209 ≥ x6_2
         ·rw [if_pos c11] at H
          have c11b0 : decide (x6_2 ≤ t209) = true := decide_eq_true c11
          clear c11
          simp only [Option.some.injEq, Prod.mk.injEq] at H
          obtain ⟨rfl, rfl⟩ := H
          have p8 : 0 ≤ (x16_2 : Int) := of_decide_eq_true (by first | (with_reducible assumption) | assumption)
          have q8 : x16_2 < (a0.size : Int) := of_decide_eq_true (by first | (with_reducible assumption) | assumption)
          have hx8 := bt_at a0 x16_2
          replace p8 := eq_true p8
          replace q8 := eq_true q8
          go_wp2_with (first | ((with_reducible refine gate_callee (f := 17) rfl ?_); refine goesL_ (some 23) rfl rfl Tryd.func17 (by kernel_rfl) rfl #[.int .i32 (wrap32 (bt a0 x16_2))] rfl (by (try simp only [List.map_toArray, List.map_cons, List.map_nil]); first | done | rfl | (simp only [List.length_drop, List.length_take]; rfl) | (simp [*] <;> rfl)) ?_; (with_reducible refine (names_Value.calls k2 (wrap32 (bt a0 x16_2)) t209 _ A9.out).mono ?_); rintro e w' ⟨rfl, ⟨nd, rfl⟩⟩; refine ⟨_, rfl, ?_⟩))
          go_ret2
          exact ⟨by first | rfl | (simp [errW_none, errW_some] <;> rfl) | (simp [*, errW_none, errW_some] <;> rfl), by repeat (first | (with_reducible first | exact HB.out | apply below_alloc | apply pw_below_drewN | apply below_drew1) | exact HB.out)⟩
         ·rw [if_neg c11] at H
          have c11b0 : decide (x6_2 ≤ t209) = false := decide_eq_false c11
          clear c11
          obtain ⟨ji12, hji12⟩ : ∃ j_ : Int, (mn (wrap64 ((wrap64 (x7_2 * x6_2)) + t209)) 1114112) = j_ := ⟨_, rfl⟩
          replace H : (charref_Number.l0 k2 a0 x6_2 ji12 (a0.toList != ([] : List UInt8)) (a0.size : Int) (wrap64 (x16_2 + 1))) = some (r1, r2) := by first | (rw [hji12] at H; exact H) | (simp only [hji12] at H ⊢; exact H)
          (try rw [hji12] at A9)
          have hji12_ : (if 1114112 < (wrap64 ((wrap64 (x7_2 * x6_2)) + t209)) then 1114112 else (wrap64 ((wrap64 (x7_2 * x6_2)) + t209))) = ji12 := hji12
          have H' := Aside0.mk H
          clear H
          have p8 : 0 ≤ (x16_2 : Int) := of_decide_eq_true (by first | (with_reducible assumption) | assumption)
          have q8 : x16_2 < (a0.size : Int) := of_decide_eq_true (by first | (with_reducible assumption) | assumption)
          have hx8 := bt_at a0 x16_2
          replace p8 := eq_true p8
          replace q8 := eq_true q8
          go_wp2_with (first | ((with_reducible refine gate_callee (f := 17) rfl ?_); refine goesL_ (some 23) rfl rfl Tryd.func17 (by kernel_rfl) rfl #[.int .i32 (wrap32 (bt a0 x16_2))] rfl (by (try simp only [List.map_toArray, List.map_cons, List.map_nil]); first | done | rfl | (simp only [List.length_drop, List.length_take]; rfl) | (simp [*] <;> rfl)) ?_; (with_reducible refine (names_Value.calls k2 (wrap32 (bt a0 x16_2)) t209 _ A9.out).mono ?_); rintro e w' ⟨rfl, ⟨nd, rfl⟩⟩; refine ⟨_, rfl, ?_⟩))
          go_roundg k2
          case measure => have := HJ2.out; have := HK2.out; omega
          case rel => exact ⟨(ji12), (wrap64 (x16_2 + 1)), (by first | rfl | (simp; done) | (simp only [← hji12] <;> (first | rfl | simp)) | (simp [*]; done)), (by first | rfl | (simp; done) | (simp [*]; done) | (unfold bt; split <;> first | rfl | (exfalso; simp_all; done) | (exfalso; simp_all; omega))), H', ⟨by have := HJ2.out; have := HK2.out; omega⟩, ⟨by repeat (first | (with_reducible first | exact HB.out | apply below_alloc | apply pw_below_drewN | apply below_drew1) | exact HB.out)⟩⟩
       ·rw [if_neg c7] at H
        exact absurd H (by simp)
      ·rw [if_neg c6] at H
       exact absurd H (by simp)
     ·rw [if_neg c5] at H
      have c5b0 : decide (x16_2 < (a0.size : Int)) = false := decide_eq_false c5
      clear c5
      by_cases c13 : (a0.toList != ([] : List UInt8)) = true
      ·rw [if_pos c13] at H
       have c13b0 : (a0.toList != ([] : List UInt8)) = true := c13
       (try (have c13b1 : decide (a0.toList = ([] : List UInt8)) = false := by simpa using c13))
       (try (have c13b8 : (a0.toList).isEmpty = false := by simpa using c13))
       (try (have c13b2 : (a0.toList == ([] : List UInt8)) = false := by simpa using c13))
       (try (have c13b3 : ¬ (a0.toList = ([] : List UInt8)) := by simpa using c13))
       clear c13
       replace H := Option.bind_eq_some_iff.mp H
       obtain ⟨⟨t210, t211⟩, A140, H⟩ := H
       replace H : (some (t210, t211)) = some (r1, r2) := H
       have A14 := Aside0.mk A140
       clear A140
       simp only [Option.some.injEq, Prod.mk.injEq] at H
       obtain ⟨rfl, rfl⟩ := H
       go_wp2_with (first | ((with_reducible refine gate_callee (f := 18) rfl ?_); refine goesL_ (some 41) rfl rfl Tryd.func18 (by kernel_rfl) rfl #[.int .i64 x7_2] rfl (by (try simp only [List.map_toArray, List.map_cons, List.map_nil]); first | done | rfl | (simp only [List.length_drop, List.length_take]; rfl) | (simp [*] <;> rfl)) ?_; (with_reducible refine (charref_says.calls x7_2 t210 t211 _ A14.out).mono ?_); rintro e w15 ⟨rfl, hb⟩; refine ⟨_, rfl, ?_⟩; have n0_ := Aside0.mk (below_step (by repeat (first | (with_reducible first | exact HB.out | apply below_alloc | apply pw_below_drewN | apply below_drew1) | exact HB.out)) hb); clear HB; have HB := n0_; clear n0_; (try clear hb); (try clear hb2); (try clear hk); (try clear hi)))
       go_ret2
       exact ⟨by first | rfl | (simp [errW_none, errW_some] <;> rfl) | (simp [*, errW_none, errW_some] <;> rfl), by repeat (first | (with_reducible first | exact HB.out | apply below_alloc | apply pw_below_drewN | apply below_drew1) | exact HB.out)⟩
      ·rw [if_neg c13] at H
       have c13b0 : (a0.toList != ([] : List UInt8)) = false := by simpa using c13
       (try (have c13b1 : decide (a0.toList = ([] : List UInt8)) = true := by simpa using c13))
       (try (have c13b8 : (a0.toList).isEmpty = true := by simpa using c13))
       (try (have c13b2 : (a0.toList == ([] : List UInt8)) = true := by simpa using c13))
       clear c13
       simp only [Option.some.injEq, Prod.mk.injEq] at H
       obtain ⟨rfl, rfl⟩ := H
       go_wp2
       go_ret2
       exact ⟨by first | rfl | (simp [errW_none, errW_some] <;> rfl) | (simp [*, errW_none, errW_some] <;> rfl), by repeat (first | (with_reducible first | exact HB.out | apply below_alloc | apply pw_below_drewN | apply below_drew1) | exact HB.out)⟩

/-! ### entity_Begins: function 57 -/
def entity_Begins.l0 : Nat → ByteArray → List (S75) → Int → Int → Option (Bool)
 | 0, _, _, _, _ => none
 | k + 1, x0, x5, x6, x7 => if x7 < x6 then (if 0 ≤ x7 then (if x7 < (x5.length : Int) then (if (x0.size : Int) ≤ (((rd_T75 x5 x7).f0).size : Int) then ((strings_HasPrefix.f ((rd_T75 x5 x7).f0) x0).bind fun t217 => (if t217 = true then (some true) else (entity_Begins.l0 k x0 x5 x6 (wrap64 (x7 + 1))))) else (entity_Begins.l0 k x0 x5 x6 (wrap64 (x7 + 1)))) else (none)) else (none)) else (some false)
def entity_Begins.f (k : Nat) (a0 : ByteArray) : Option (Bool) := (api_Entities.f).bind fun t212 => (entity_Begins.l0 k a0 t212 (t212.length : Int) 0)
theorem entity_Begins.mono_l : ∀ k, (∀ y0 y1 y2 y3, LeO (entity_Begins.l0 k y0 y1 y2 y3) (entity_Begins.l0 (k + 1) y0 y1 y2 y3))
 | 0 => fun _ _ _ _ r h => by simp [entity_Begins.l0] at h
 | k + 1 => by
  have ih0 := entity_Begins.mono_l k
  ·intro y0 y1 y2 y3
   unfold entity_Begins.l0
   repeat' first
   | (with_reducible exact ih0 _ _ _ _)
   | (with_reducible exact LeO.refl _)
   | (with_reducible exact LeO.none _)
   | (with_reducible refine LeO.ite ?_ ?_)
   | (with_reducible refine LeO.bind ?_ (fun _ => ?_))
   | exact ih0 _ _ _ _
   | exact LeO.none _
   | refine LeO.ite ?_ ?_
   | refine LeO.bind ?_ (fun _ => ?_)
theorem entity_Begins.mono : ∀ a0 k, LeO (entity_Begins.f k a0) (entity_Begins.f (k + 1) a0) := by
 intro a0 k
 have ih0 := entity_Begins.mono_l k
 unfold entity_Begins.f
 repeat' first
   | (with_reducible exact ih0 _ _ _ _)
   | (with_reducible exact LeO.refl _)
   | (with_reducible exact LeO.none _)
   | (with_reducible refine LeO.ite ?_ ?_)
   | (with_reducible refine LeO.bind ?_ (fun _ => ?_))
   | exact ih0 _ _ _ _
   | exact LeO.none _
   | refine LeO.ite ?_ ?_
   | refine LeO.bind ?_ (fun _ => ?_)
set_option maxHeartbeats 8000000 in
set_option maxRecDepth 100000 in
theorem entity_Begins.calls (k : Nat) (a0 : ByteArray) (r : Bool) (w : World) (h : entity_Begins.f k a0 = some r) :
  Calls Tryd.prog 57 #[.string a0] w fun e w' => e = .returned (.bool r) ∧ Below w.heap.size w w' := by
 have hu75 := Tryd.underlying75
 have HB := Aside0.mk (Below.refl w.heap.size w)
 have H : ((api_Entities.f).bind fun t212 => (entity_Begins.l0 k a0 t212 (t212.length : Int) 0)) = some r := h
 clear h
 replace H := Option.bind_eq_some_iff.mp H
 obtain ⟨t212, A20, H⟩ := H
 replace H : (entity_Begins.l0 k a0 t212 (t212.length : Int) 0) = some r := H
 have A2 := Aside0.mk A20
 clear A20
 have H' := Aside0.mk H
 clear H
 go_enter Tryd.func57, Tryd.ntmps57
 go_wp2_with (first | ((with_reducible refine gate_callee (f := 49) rfl ?_); refine goesL_ (some 5) rfl rfl Tryd.func49 (by kernel_rfl) rfl #[] rfl (by (try simp only [List.map_toArray, List.map_cons, List.map_nil]); first | done | rfl | (simp only [List.length_drop, List.length_take]; rfl) | (simp [*] <;> rfl)) ?_; (with_reducible refine (api_Entities.calls  t212 _ A2.out).mono ?_); rintro e w3 ⟨v213, rfl, ho0, hb⟩; refine ⟨_, rfl, ?_⟩; have n0_ := Aside0.mk (Kd.R_lower ho0 (below_size (by repeat (first | (with_reducible first | exact HB.out | apply below_alloc | apply pw_below_drewN | apply below_drew1) | exact HB.out)))); have n1_ := Aside0.mk (below_step (by repeat (first | (with_reducible first | exact HB.out | apply below_alloc | apply pw_below_drewN | apply below_drew1) | exact HB.out)) hb); clear HB; have HO214 := n0_; have HB := n1_; clear n0_ n1_; (try clear hb); (try clear hb2); (try clear hk); (try clear hi); (try clear ho0); obtain ⟨Ao4, co4, eo4⟩ := Kd.R_slice HO214.out; subst eo4))
 go_loopg [7] k (fun kq v7 w' => ∃ (x7_1 : Int), v7 = .int .i64 x7_1 ∧ Aside0 (entity_Begins.l0 kq a0 t212 (t212.length : Int) x7_1 = some r) ∧ Aside0 (kq ≤ k) ∧ Aside0 (Kd.R k75 75 w' w.heap.size (fun _ => True) (.slice Ao4 t212.length co4) t212) ∧ Aside0 (Below w.heap.size w w'))
 case atStart => exact ⟨(0), (by first | rfl | (simp; done) | (simp [*]; done) | (unfold bt; split <;> first | rfl | (exfalso; simp_all; done) | (exfalso; simp_all; omega))), H', ⟨Nat.le_refl _⟩, ⟨by (with_reducible repeat (first | apply Kd.R_alloc | apply Kd.R_drewN | apply Kd.R_drew)); exact HO214.out⟩, ⟨by repeat (first | (with_reducible first | exact HB.out | apply below_alloc | apply pw_below_drewN | apply below_drew1) | exact HB.out)⟩⟩
 case round =>
  clear H'
  try clear p2
  try clear c4
  obtain ⟨x7_1, rfl, HA, HK1, HO_5, HB⟩ := hrel
  cases gk with
  | zero => exact absurd HA.out (by simp [entity_Begins.l0])
  | succ k1 =>
   have H := HA.out
   clear HA
   simp only [entity_Begins.l0] at H
   by_cases c5 : x7_1 < (t212.length : Int)
   ·rw [if_pos c5] at H
    have c5b0 : decide (x7_1 < (t212.length : Int)) = true := decide_eq_true c5
    clear c5
    by_cases c6 : 0 ≤ x7_1
    ·rw [if_pos c6] at H
     have c6b0 : decide (0 ≤ x7_1) = true := decide_eq_true c6
     clear c6
     by_cases c7 : x7_1 < (t212.length : Int)
     ·rw [if_pos c7] at H
      have c7b0 : decide (x7_1 < (t212.length : Int)) = true := decide_eq_true c7
      clear c7
      by_cases c8 : (a0.size : Int) ≤ (((rd_T75 t212 x7_1).f0).size : Int)
      ·rw [if_pos c8] at H
       have c8b0 : decide ((a0.size : Int) ≤ (((rd_T75 t212 x7_1).f0).size : Int)) = true := decide_eq_true c8
       have c8b1 : decide (a0.size ≤ ((rd_T75 t212 x7_1).f0).size) = true := decide_eq_true (Int.ofNat_le.mp c8)
       clear c8
       replace H := Option.bind_eq_some_iff.mp H
       obtain ⟨t217, A90, H⟩ := H
       replace H : (if t217 = true then (some true) else (entity_Begins.l0 k1 a0 t212 (t212.length : Int) (wrap64 (x7_1 + 1)))) = some r := H
       have A9 := Aside0.mk A90
       clear A90
       by_cases c10 : t217 = true
       ·subst c10
        have H1 : (some true) = some r := by rw [if_pos rfl] at H; exact H
        clear H
        have H := H1
        clear H1
        obtain rfl := Option.some.inj H
        have p215 : 0 ≤ (x7_1 : Int) := of_decide_eq_true (by first | (with_reducible assumption) | assumption)
        have q215 : x7_1 < (t212.length : Int) := of_decide_eq_true (by first | (with_reducible assumption) | assumption)
        obtain ⟨ad215, e215, hx215_0, hx215_1, hx215_2, hx215_3⟩ := at_T75 (Kd.R_reads' HO_5.out).2.2 x7_1 p215 q215
        cases e215
        replace p215 := eq_true p215
        replace q215 := eq_true q215
        go_wp2_with (first | ((with_reducible refine gate_dst (N := 4) rfl ?_); refine box_event ?hg (N := 4) ?hd (cs := #[.string (⟨#[]⟩ : ByteArray), .int .i32 0, .int .i32 0, .bool false]) (t := 75) ?hr ?_; (case hd => rfl); (case hg => rfl); (case hr => first | (go_simp; done) | (go_simp; rfl)); intro gb216 hg w11 hbox hb; have n0_ := Aside0.mk (Kd.R_below (Kd.R_elderB (by (with_reducible repeat (first | apply Kd.R_alloc | apply Kd.R_drewN | apply Kd.R_drew)); exact HO_5.out) gb216 (Nat.le_of_eq hg.symm)) hb); have n1_ := Aside0.mk (below_step (by repeat (first | (with_reducible first | exact HB.out | apply below_alloc | apply pw_below_drewN | apply below_drew1) | exact HB.out)) hb); have n2_ := Aside0.mk (hbox); have n3_ := Aside0.mk ((by rw [hg]; exact (below_size (by repeat (first | (with_reducible first | exact HB.out | apply below_alloc | apply pw_below_drewN | apply below_drew1) | exact HB.out))) : w.heap.size ≤ gb216)); have n4_ := Aside0.mk ((by rw [hg]; exact (below_size (by repeat (first | (with_reducible first | exact HB.out | apply below_alloc | apply pw_below_drewN | apply below_drew1) | exact HB.out))) : w.heap.size ≤ gb216)); clear HO_5; clear HB; have HO_5 := n0_; have HB := n1_; have BK216 := n2_; have GW216 := n3_; have GE216 := n4_; clear n0_ n1_ n2_ n3_ n4_; clear hb hbox hg; have hcz12_0 : w11.cell? ⟨gb216, 0, none⟩ = some (.string (⟨#[]⟩ : ByteArray)) := (blk_cell BK216.out 0).trans rfl; have hcz12_1 : w11.cell? ⟨gb216, 1, none⟩ = some (.int .i32 0) := (blk_cell BK216.out 1).trans rfl; have hcz12_2 : w11.cell? ⟨gb216, 2, none⟩ = some (.int .i32 0) := (blk_cell BK216.out 2).trans rfl; have hcz12_3 : w11.cell? ⟨gb216, 3, none⟩ = some (.bool false) := (blk_cell BK216.out 3).trans rfl; have hfz12_0 := blk_frozen BK216.out 0; have hfz12_1 := blk_frozen BK216.out 1; have hfz12_2 := blk_frozen BK216.out 2; have hfz12_3 := blk_frozen BK216.out 3) | (go_at_call 75; (with_reducible refine (strings_HasPrefix.calls ((rd_T75 t212 x7_1).f0) a0 true _ A9.out).mono ?_); rintro e w' ⟨rfl, ⟨nd, rfl⟩⟩))
        go_ret
        exact ⟨by first | rfl | (simp [errW_none, errW_some] <;> rfl) | (simp [*, errW_none, errW_some] <;> rfl), by repeat (first | (with_reducible first | exact HB.out | apply below_alloc | apply pw_below_drewN | apply below_drew1 | refine below_set ?_ GE216.out) | exact HB.out)⟩
       ·replace c10 := Bool.eq_false_iff.mpr c10
        subst c10
        have H1 : (entity_Begins.l0 k1 a0 t212 (t212.length : Int) (wrap64 (x7_1 + 1))) = some r := by rw [if_neg (show ¬ (false = true) by decide)] at H; exact H
        clear H
        have H := H1
        clear H1
        have H' := Aside0.mk H
        clear H
        have p215 : 0 ≤ (x7_1 : Int) := of_decide_eq_true (by first | (with_reducible assumption) | assumption)
        have q215 : x7_1 < (t212.length : Int) := of_decide_eq_true (by first | (with_reducible assumption) | assumption)
        obtain ⟨ad215, e215, hx215_0, hx215_1, hx215_2, hx215_3⟩ := at_T75 (Kd.R_reads' HO_5.out).2.2 x7_1 p215 q215
        cases e215
        replace p215 := eq_true p215
        replace q215 := eq_true q215
        go_wp2_with (first | ((with_reducible refine gate_dst (N := 4) rfl ?_); refine box_event ?hg (N := 4) ?hd (cs := #[.string (⟨#[]⟩ : ByteArray), .int .i32 0, .int .i32 0, .bool false]) (t := 75) ?hr ?_; (case hd => rfl); (case hg => rfl); (case hr => first | (go_simp; done) | (go_simp; rfl)); intro gb216 hg w13 hbox hb; have n0_ := Aside0.mk (Kd.R_below (Kd.R_elderB (by (with_reducible repeat (first | apply Kd.R_alloc | apply Kd.R_drewN | apply Kd.R_drew)); exact HO_5.out) gb216 (Nat.le_of_eq hg.symm)) hb); have n1_ := Aside0.mk (below_step (by repeat (first | (with_reducible first | exact HB.out | apply below_alloc | apply pw_below_drewN | apply below_drew1) | exact HB.out)) hb); have n2_ := Aside0.mk (hbox); have n3_ := Aside0.mk ((by rw [hg]; exact (below_size (by repeat (first | (with_reducible first | exact HB.out | apply below_alloc | apply pw_below_drewN | apply below_drew1) | exact HB.out))) : w.heap.size ≤ gb216)); have n4_ := Aside0.mk ((by rw [hg]; exact (below_size (by repeat (first | (with_reducible first | exact HB.out | apply below_alloc | apply pw_below_drewN | apply below_drew1) | exact HB.out))) : w.heap.size ≤ gb216)); clear HO_5; clear HB; have HO_5 := n0_; have HB := n1_; have BK216 := n2_; have GW216 := n3_; have GE216 := n4_; clear n0_ n1_ n2_ n3_ n4_; clear hb hbox hg; have hcz14_0 : w13.cell? ⟨gb216, 0, none⟩ = some (.string (⟨#[]⟩ : ByteArray)) := (blk_cell BK216.out 0).trans rfl; have hcz14_1 : w13.cell? ⟨gb216, 1, none⟩ = some (.int .i32 0) := (blk_cell BK216.out 1).trans rfl; have hcz14_2 : w13.cell? ⟨gb216, 2, none⟩ = some (.int .i32 0) := (blk_cell BK216.out 2).trans rfl; have hcz14_3 : w13.cell? ⟨gb216, 3, none⟩ = some (.bool false) := (blk_cell BK216.out 3).trans rfl; have hfz14_0 := blk_frozen BK216.out 0; have hfz14_1 := blk_frozen BK216.out 1; have hfz14_2 := blk_frozen BK216.out 2; have hfz14_3 := blk_frozen BK216.out 3) | (go_at_call 75; (with_reducible refine (strings_HasPrefix.calls ((rd_T75 t212 x7_1).f0) a0 false _ A9.out).mono ?_); rintro e w' ⟨rfl, ⟨nd, rfl⟩⟩))
        go_roundg k1
        case measure => have := HK1.out; omega
        case rel => exact ⟨(wrap64 (x7_1 + 1)), (by first | rfl | (simp; done) | (simp [*]; done) | (unfold bt; split <;> first | rfl | (exfalso; simp_all; done) | (exfalso; simp_all; omega))), H', ⟨by have := HK1.out; omega⟩, ⟨by (with_reducible repeat (first | apply Kd.R_alloc | apply Kd.R_drewN | apply Kd.R_drew)); exact Kd.R_mono (Kd.R_far (p := ⟨gb216, 3, none⟩) (Kd.R_far (p := ⟨gb216, 2, none⟩) (Kd.R_far (p := ⟨gb216, 1, none⟩) (Kd.R_far (p := ⟨gb216, 0, none⟩) (Kd.R_mono HO_5.out (fun k_ hk => (⟨hk, hk.2⟩ : _ ∧ k_ ≠ gb216))) (fun _ hk => hk.2) (.string ((rd_T75 t212 x7_1).f0))) (fun _ hk => hk.2) (.int .i32 ((rd_T75 t212 x7_1).f1))) (fun _ hk => hk.2) (.int .i32 ((rd_T75 t212 x7_1).f2))) (fun _ hk => hk.2) (.bool ((rd_T75 t212 x7_1).f3))) (fun _ hk => trivial)⟩, ⟨by repeat (first | (with_reducible first | exact HB.out | apply below_alloc | apply pw_below_drewN | apply below_drew1 | refine below_set ?_ GE216.out) | exact HB.out)⟩⟩
      ·rw [if_neg c8] at H
       have c8b0 : decide ((a0.size : Int) ≤ (((rd_T75 t212 x7_1).f0).size : Int)) = false := decide_eq_false c8
       have c8b1 : decide (a0.size ≤ ((rd_T75 t212 x7_1).f0).size) = false := decide_eq_false (fun h => c8 (Int.ofNat_le.mpr h))
       clear c8
       have H' := Aside0.mk H
       clear H
       have p215 : 0 ≤ (x7_1 : Int) := of_decide_eq_true (by first | (with_reducible assumption) | assumption)
       have q215 : x7_1 < (t212.length : Int) := of_decide_eq_true (by first | (with_reducible assumption) | assumption)
       obtain ⟨ad215, e215, hx215_0, hx215_1, hx215_2, hx215_3⟩ := at_T75 (Kd.R_reads' HO_5.out).2.2 x7_1 p215 q215
       cases e215
       replace p215 := eq_true p215
       replace q215 := eq_true q215
       go_wp2_with (first | ((with_reducible refine gate_dst (N := 4) rfl ?_); refine box_event ?hg (N := 4) ?hd (cs := #[.string (⟨#[]⟩ : ByteArray), .int .i32 0, .int .i32 0, .bool false]) (t := 75) ?hr ?_; (case hd => rfl); (case hg => rfl); (case hr => first | (go_simp; done) | (go_simp; rfl)); intro gb216 hg w15 hbox hb; have n0_ := Aside0.mk (Kd.R_below (Kd.R_elderB (by (with_reducible repeat (first | apply Kd.R_alloc | apply Kd.R_drewN | apply Kd.R_drew)); exact HO_5.out) gb216 (Nat.le_of_eq hg.symm)) hb); have n1_ := Aside0.mk (below_step (by repeat (first | (with_reducible first | exact HB.out | apply below_alloc | apply pw_below_drewN | apply below_drew1) | exact HB.out)) hb); have n2_ := Aside0.mk (hbox); have n3_ := Aside0.mk ((by rw [hg]; exact (below_size (by repeat (first | (with_reducible first | exact HB.out | apply below_alloc | apply pw_below_drewN | apply below_drew1) | exact HB.out))) : w.heap.size ≤ gb216)); have n4_ := Aside0.mk ((by rw [hg]; exact (below_size (by repeat (first | (with_reducible first | exact HB.out | apply below_alloc | apply pw_below_drewN | apply below_drew1) | exact HB.out))) : w.heap.size ≤ gb216)); clear HO_5; clear HB; have HO_5 := n0_; have HB := n1_; have BK216 := n2_; have GW216 := n3_; have GE216 := n4_; clear n0_ n1_ n2_ n3_ n4_; clear hb hbox hg; have hcz16_0 : w15.cell? ⟨gb216, 0, none⟩ = some (.string (⟨#[]⟩ : ByteArray)) := (blk_cell BK216.out 0).trans rfl; have hcz16_1 : w15.cell? ⟨gb216, 1, none⟩ = some (.int .i32 0) := (blk_cell BK216.out 1).trans rfl; have hcz16_2 : w15.cell? ⟨gb216, 2, none⟩ = some (.int .i32 0) := (blk_cell BK216.out 2).trans rfl; have hcz16_3 : w15.cell? ⟨gb216, 3, none⟩ = some (.bool false) := (blk_cell BK216.out 3).trans rfl; have hfz16_0 := blk_frozen BK216.out 0; have hfz16_1 := blk_frozen BK216.out 1; have hfz16_2 := blk_frozen BK216.out 2; have hfz16_3 := blk_frozen BK216.out 3))
       go_roundg k1
       case measure => have := HK1.out; omega
       case rel => exact ⟨(wrap64 (x7_1 + 1)), (by first | rfl | (simp; done) | (simp [*]; done) | (unfold bt; split <;> first | rfl | (exfalso; simp_all; done) | (exfalso; simp_all; omega))), H', ⟨by have := HK1.out; omega⟩, ⟨by (with_reducible repeat (first | apply Kd.R_alloc | apply Kd.R_drewN | apply Kd.R_drew)); exact Kd.R_mono (Kd.R_far (p := ⟨gb216, 3, none⟩) (Kd.R_far (p := ⟨gb216, 2, none⟩) (Kd.R_far (p := ⟨gb216, 1, none⟩) (Kd.R_far (p := ⟨gb216, 0, none⟩) (Kd.R_mono HO_5.out (fun k_ hk => (⟨hk, hk.2⟩ : _ ∧ k_ ≠ gb216))) (fun _ hk => hk.2) (.string ((rd_T75 t212 x7_1).f0))) (fun _ hk => hk.2) (.int .i32 ((rd_T75 t212 x7_1).f1))) (fun _ hk => hk.2) (.int .i32 ((rd_T75 t212 x7_1).f2))) (fun _ hk => hk.2) (.bool ((rd_T75 t212 x7_1).f3))) (fun _ hk => trivial)⟩, ⟨by repeat (first | (with_reducible first | exact HB.out | apply below_alloc | apply pw_below_drewN | apply below_drew1 | refine below_set ?_ GE216.out) | exact HB.out)⟩⟩
     ·rw [if_neg c7] at H
      exact absurd H (by simp)
    ·rw [if_neg c6] at H
     exact absurd H (by simp)
   ·rw [if_neg c5] at H
    have c5b0 : decide (x7_1 < (t212.length : Int)) = false := decide_eq_false c5
    clear c5
    obtain rfl := Option.some.inj H
    go_wp2
    go_ret
    exact ⟨by first | rfl | (simp [errW_none, errW_some] <;> rfl) | (simp [*, errW_none, errW_some] <;> rfl), by repeat (first | (with_reducible first | exact HB.out | apply below_alloc | apply pw_below_drewN | apply below_drew1) | exact HB.out)⟩

/-! ### entity_Longest: function 58 -/
mutual
def entity_Longest.l0 : Nat → ByteArray → Int → List Int → List (S75) → Int → Int → Option (Int × List Int)
 | 0, _, _, _, _, _, _ => none
 | k + 1, x0, x4, x5, x9, x10, x11 => if x11 < x10 then (if 0 ≤ x11 then (if x11 < (x9.length : Int) then ((strings_HasPrefix.f x0 ((rd_T75 x9 x11).f0)).bind fun t223 => (if t223 = true then (if (((rd_T75 x9 x11).f0).size : Int) < (x0.size : Int) then (if 0 ≤ (((rd_T75 x9 x11).f0).size : Int) then (entity_Longest.j1 k x0 x4 x5 (((rd_T75 x9 x11).f0).size : Int) x9 x10 x11 ((bt x0 (((rd_T75 x9 x11).f0).size : Int)) == 59) ((rd_T75 x9 x11).f0) ((rd_T75 x9 x11).f1) ((rd_T75 x9 x11).f2) ((rd_T75 x9 x11).f3)) else (none)) else (entity_Longest.j1 k x0 x4 x5 (((rd_T75 x9 x11).f0).size : Int) x9 x10 x11 false ((rd_T75 x9 x11).f0) ((rd_T75 x9 x11).f1) ((rd_T75 x9 x11).f2) ((rd_T75 x9 x11).f3))) else (entity_Longest.l0 k x0 x4 x5 x9 x10 (wrap64 (x11 + 1))))) else (none)) else (none)) else (some (x4, x5))
def entity_Longest.j1 : Nat → ByteArray → Int → List Int → Int → List (S75) → Int → Int → Bool → ByteArray → Int → Int → Bool → Option (Int × List Int)
 | 0, _, _, _, _, _, _, _, _, _, _, _, _ => none
 | k + 1, x0, x4, x5, x8, x9, x10, x11, x32, x223000, x223001, x223002, x223003 => if x32 = true then (if (wrap64 (x8 + 1)) > x4 then ((entity_says.f x223000 x223001 x223002 x223003).bind fun t224 => (entity_Longest.l0 k x0 (wrap64 (x8 + 1)) t224 x9 x10 (wrap64 (x11 + 1)))) else (entity_Longest.l0 k x0 x4 x5 x9 x10 (wrap64 (x11 + 1)))) else (if x223003 = true then (if x8 > x4 then ((entity_says.f x223000 x223001 x223002 x223003).bind fun t227 => (entity_Longest.l0 k x0 x8 t227 x9 x10 (wrap64 (x11 + 1)))) else (entity_Longest.l0 k x0 x4 x5 x9 x10 (wrap64 (x11 + 1)))) else (entity_Longest.l0 k x0 x4 x5 x9 x10 (wrap64 (x11 + 1))))
end
def entity_Longest.f (k : Nat) (a0 : ByteArray) : Option (Int × List Int) := (api_Entities.f).bind fun t218 => (entity_Longest.l0 k a0 0 ([] : List Int) t218 (t218.length : Int) 0)
theorem entity_Longest.mono_l : ∀ k, (∀ y0 y1 y2 y3 y4 y5, LeO (entity_Longest.l0 k y0 y1 y2 y3 y4 y5) (entity_Longest.l0 (k + 1) y0 y1 y2 y3 y4 y5)) ∧ (∀ y0 y1 y2 y3 y4 y5 y6 y7 y8 y9 y10 y11, LeO (entity_Longest.j1 k y0 y1 y2 y3 y4 y5 y6 y7 y8 y9 y10 y11) (entity_Longest.j1 (k + 1) y0 y1 y2 y3 y4 y5 y6 y7 y8 y9 y10 y11))
 | 0 => ⟨fun _ _ _ _ _ _ r h => by simp [entity_Longest.l0] at h, fun _ _ _ _ _ _ _ _ _ _ _ _ r h => by simp [entity_Longest.j1] at h⟩
 | k + 1 => by
  obtain ⟨ih0, ih1⟩ := entity_Longest.mono_l k
  refine ⟨?_, ?_⟩
  ·intro y0 y1 y2 y3 y4 y5
   unfold entity_Longest.l0
   repeat' first
   | (with_reducible exact ih0 _ _ _ _ _ _)
   | (with_reducible exact ih1 _ _ _ _ _ _ _ _ _ _ _ _)
   | (with_reducible exact LeO.refl _)
   | (with_reducible exact LeO.none _)
   | (with_reducible refine LeO.ite ?_ ?_)
   | (with_reducible refine LeO.bind ?_ (fun _ => ?_))
   | exact ih0 _ _ _ _ _ _
   | exact ih1 _ _ _ _ _ _ _ _ _ _ _ _
   | exact LeO.none _
   | refine LeO.ite ?_ ?_
   | refine LeO.bind ?_ (fun _ => ?_)
  ·intro y0 y1 y2 y3 y4 y5 y6 y7 y8 y9 y10 y11
   unfold entity_Longest.j1
   repeat' first
   | (with_reducible exact ih0 _ _ _ _ _ _)
   | (with_reducible exact ih1 _ _ _ _ _ _ _ _ _ _ _ _)
   | (with_reducible exact LeO.refl _)
   | (with_reducible exact LeO.none _)
   | (with_reducible refine LeO.ite ?_ ?_)
   | (with_reducible refine LeO.bind ?_ (fun _ => ?_))
   | exact ih0 _ _ _ _ _ _
   | exact ih1 _ _ _ _ _ _ _ _ _ _ _ _
   | exact LeO.none _
   | refine LeO.ite ?_ ?_
   | refine LeO.bind ?_ (fun _ => ?_)
theorem entity_Longest.mono : ∀ a0 k, LeO (entity_Longest.f k a0) (entity_Longest.f (k + 1) a0) := by
 intro a0 k
 obtain ⟨ih0, ih1⟩ := entity_Longest.mono_l k
 unfold entity_Longest.f
 repeat' first
   | (with_reducible exact ih0 _ _ _ _ _ _)
   | (with_reducible exact ih1 _ _ _ _ _ _ _ _ _ _ _ _)
   | (with_reducible exact LeO.refl _)
   | (with_reducible exact LeO.none _)
   | (with_reducible refine LeO.ite ?_ ?_)
   | (with_reducible refine LeO.bind ?_ (fun _ => ?_))
   | exact ih0 _ _ _ _ _ _
   | exact ih1 _ _ _ _ _ _ _ _ _ _ _ _
   | exact LeO.none _
   | refine LeO.ite ?_ ?_
   | refine LeO.bind ?_ (fun _ => ?_)
set_option maxHeartbeats 8000000 in
set_option maxRecDepth 100000 in
theorem entity_Longest.calls (k : Nat) (a0 : ByteArray) (r1 : Int) (r2 : List Int) (w : World) (h : entity_Longest.f k a0 = some (r1, r2)) :
  Calls Tryd.prog 58 #[.string a0] w fun e w' => ∃ v1_ : Value, e = .returned (.tuple #[.int .i64 r1, v1_]) ∧ Kd.R (Kd.int .i32) 21 w' w.heap.size (fun _ => True) v1_ r2 ∧ Below w.heap.size w w' := by
 have hu75 := Tryd.underlying75
 have HB := Aside0.mk (Below.refl w.heap.size w)
 have H : ((api_Entities.f).bind fun t218 => (entity_Longest.l0 k a0 0 ([] : List Int) t218 (t218.length : Int) 0)) = some (r1, r2) := h
 clear h
 replace H := Option.bind_eq_some_iff.mp H
 obtain ⟨t218, A20, H⟩ := H
 replace H : (entity_Longest.l0 k a0 0 ([] : List Int) t218 (t218.length : Int) 0) = some (r1, r2) := H
 have A2 := Aside0.mk A20
 clear A20
 have H' := Aside0.mk H
 clear H
 go_enter Tryd.func58, Tryd.ntmps58
 go_wp2_with (first | ((with_reducible refine gate_callee (f := 49) rfl ?_); refine goesL_ (some 9) rfl rfl Tryd.func49 (by kernel_rfl) rfl #[] rfl (by (try simp only [List.map_toArray, List.map_cons, List.map_nil]); first | done | rfl | (simp only [List.length_drop, List.length_take]; rfl) | (simp [*] <;> rfl)) ?_; (with_reducible refine (api_Entities.calls  t218 _ A2.out).mono ?_); rintro e w3 ⟨v219, rfl, ho0, hb⟩; refine ⟨_, rfl, ?_⟩; have n0_ := Aside0.mk (Kd.R_lower ho0 (below_size (by repeat (first | (with_reducible first | exact HB.out | apply below_alloc | apply pw_below_drewN | apply below_drew1) | exact HB.out)))); have n1_ := Aside0.mk (below_step (by repeat (first | (with_reducible first | exact HB.out | apply below_alloc | apply pw_below_drewN | apply below_drew1) | exact HB.out)) hb); clear HB; have HO220 := n0_; have HB := n1_; clear n0_ n1_; (try clear hb); (try clear hb2); (try clear hk); (try clear hi); (try clear ho0); obtain ⟨Ao4, co4, eo4⟩ := Kd.R_slice HO220.out; subst eo4))
 go_loopg [4, 5, 11] k (fun kq v4 v5 v11 w' => ∃ (x4_1 : Int) (x5_1 : List Int) (x11_1 : Int), v4 = .int .i64 x4_1 ∧ v11 = .int .i64 x11_1 ∧ Aside0 (entity_Longest.l0 kq a0 x4_1 x5_1 t218 (t218.length : Int) x11_1 = some (r1, r2)) ∧ Aside0 (kq ≤ k) ∧ Aside0 (Kd.R (Kd.int .i32) 21 w' w.heap.size (fun _ => True) v5 x5_1) ∧ Aside0 (Kd.R k75 75 w' w.heap.size (fun _ => True) (.slice Ao4 t218.length co4) t218) ∧ Aside0 (Below w.heap.size w w'))
 case atStart => exact ⟨(0), (([] : List Int)), (0), (by first | rfl | (simp; done) | (simp [*]; done) | (unfold bt; split <;> first | rfl | (exfalso; simp_all; done) | (exfalso; simp_all; omega))), (by first | rfl | (simp; done) | (simp [*]; done) | (unfold bt; split <;> first | rfl | (exfalso; simp_all; done) | (exfalso; simp_all; omega))), H', ⟨Nat.le_refl _⟩, ⟨by first | exact Kd.R_nil _ _ _ _ _ | exact Kd.N_nil _ _ _ _ _ | exact Kd.V_nil _ _ _ _ _ | exact Kd.Q_nil _ _ _ _ _ | exact Kd.S_nil _ _ _ _ _⟩, ⟨by (with_reducible repeat (first | apply Kd.R_alloc | apply Kd.R_drewN | apply Kd.R_drew)); exact HO220.out⟩, ⟨by repeat (first | (with_reducible first | exact HB.out | apply below_alloc | apply pw_below_drewN | apply below_drew1) | exact HB.out)⟩⟩
 case round =>
  clear H'
  try clear p2
  try clear c4
  obtain ⟨x4_1, x5_1, x11_1, rfl, rfl, HA, HK1, HO_5, HO_9, HB⟩ := hrel
  cases gk with
  | zero => exact absurd HA.out (by simp [entity_Longest.l0])
  | succ k1 =>
   have H := HA.out
   clear HA
   simp only [entity_Longest.l0] at H
   by_cases c5 : x11_1 < (t218.length : Int)
   ·rw [if_pos c5] at H
    have c5b0 : decide (x11_1 < (t218.length : Int)) = true := decide_eq_true c5
    clear c5
    by_cases c6 : 0 ≤ x11_1
    ·rw [if_pos c6] at H
     have c6b0 : decide (0 ≤ x11_1) = true := decide_eq_true c6
     clear c6
     by_cases c7 : x11_1 < (t218.length : Int)
     ·rw [if_pos c7] at H
      have c7b0 : decide (x11_1 < (t218.length : Int)) = true := decide_eq_true c7
      clear c7
      replace H := Option.bind_eq_some_iff.mp H
      obtain ⟨t223, A80, H⟩ := H
      replace H : (if t223 = true then (if (((rd_T75 t218 x11_1).f0).size : Int) < (a0.size : Int) then (if 0 ≤ (((rd_T75 t218 x11_1).f0).size : Int) then (entity_Longest.j1 k1 a0 x4_1 x5_1 (((rd_T75 t218 x11_1).f0).size : Int) t218 (t218.length : Int) x11_1 ((bt a0 (((rd_T75 t218 x11_1).f0).size : Int)) == 59) ((rd_T75 t218 x11_1).f0) ((rd_T75 t218 x11_1).f1) ((rd_T75 t218 x11_1).f2) ((rd_T75 t218 x11_1).f3)) else (none)) else (entity_Longest.j1 k1 a0 x4_1 x5_1 (((rd_T75 t218 x11_1).f0).size : Int) t218 (t218.length : Int) x11_1 false ((rd_T75 t218 x11_1).f0) ((rd_T75 t218 x11_1).f1) ((rd_T75 t218 x11_1).f2) ((rd_T75 t218 x11_1).f3))) else (entity_Longest.l0 k1 a0 x4_1 x5_1 t218 (t218.length : Int) (wrap64 (x11_1 + 1)))) = some (r1, r2) := H
      have A8 := Aside0.mk A80
      clear A80
      by_cases c9 : t223 = true
      ·subst c9
       have H1 : (if (((rd_T75 t218 x11_1).f0).size : Int) < (a0.size : Int) then (if 0 ≤ (((rd_T75 t218 x11_1).f0).size : Int) then (entity_Longest.j1 k1 a0 x4_1 x5_1 (((rd_T75 t218 x11_1).f0).size : Int) t218 (t218.length : Int) x11_1 ((bt a0 (((rd_T75 t218 x11_1).f0).size : Int)) == 59) ((rd_T75 t218 x11_1).f0) ((rd_T75 t218 x11_1).f1) ((rd_T75 t218 x11_1).f2) ((rd_T75 t218 x11_1).f3)) else (none)) else (entity_Longest.j1 k1 a0 x4_1 x5_1 (((rd_T75 t218 x11_1).f0).size : Int) t218 (t218.length : Int) x11_1 false ((rd_T75 t218 x11_1).f0) ((rd_T75 t218 x11_1).f1) ((rd_T75 t218 x11_1).f2) ((rd_T75 t218 x11_1).f3))) = some (r1, r2) := by rw [if_pos rfl] at H; exact H
       clear H
       have H := H1
       clear H1
       have HC10 := Aside0.mk H
       clear H
       have p221 : 0 ≤ (x11_1 : Int) := of_decide_eq_true (by first | (with_reducible assumption) | assumption)
       have q221 : x11_1 < (t218.length : Int) := of_decide_eq_true (by first | (with_reducible assumption) | assumption)
       obtain ⟨ad221, e221, hx221_0, hx221_1, hx221_2, hx221_3⟩ := at_T75 (Kd.R_reads' HO_9.out).2.2 x11_1 p221 q221
       cases e221
       replace p221 := eq_true p221
       replace q221 := eq_true q221
       go_upto_region 8 with (first | ((with_reducible refine gate_dst (N := 7) rfl ?_); refine box_event ?hg (N := 7) ?hd (cs := #[.string (⟨#[]⟩ : ByteArray), .int .i32 0, .int .i32 0, .bool false]) (t := 75) ?hr ?_; (case hd => rfl); (case hg => rfl); (case hr => first | (go_simp; done) | (go_simp; rfl)); intro gb222 hg w11 hbox hb; have n0_ := Aside0.mk (Kd.R_below (by (with_reducible repeat (first | apply Kd.R_alloc | apply Kd.R_drewN | apply Kd.R_drew)); exact HO_5.out) hb); have n1_ := Aside0.mk (Kd.R_below (Kd.R_elderB (by (with_reducible repeat (first | apply Kd.R_alloc | apply Kd.R_drewN | apply Kd.R_drew)); exact HO_9.out) gb222 (Nat.le_of_eq hg.symm)) hb); have n2_ := Aside0.mk (below_step (by repeat (first | (with_reducible first | exact HB.out | apply below_alloc | apply pw_below_drewN | apply below_drew1) | exact HB.out)) hb); have n3_ := Aside0.mk (hbox); have n4_ := Aside0.mk ((by rw [hg]; exact (below_size (by repeat (first | (with_reducible first | exact HB.out | apply below_alloc | apply pw_below_drewN | apply below_drew1) | exact HB.out))) : w.heap.size ≤ gb222)); have n5_ := Aside0.mk ((by rw [hg]; exact (below_size (by repeat (first | (with_reducible first | exact HB.out | apply below_alloc | apply pw_below_drewN | apply below_drew1) | exact HB.out))) : w.heap.size ≤ gb222)); clear HO_5; clear HO_9; clear HB; have HO_5 := n0_; have HO_9 := n1_; have HB := n2_; have BK222 := n3_; have GW222 := n4_; have GE222 := n5_; clear n0_ n1_ n2_ n3_ n4_ n5_; clear hb hbox hg; have hcz12_0 : w11.cell? ⟨gb222, 0, none⟩ = some (.string (⟨#[]⟩ : ByteArray)) := (blk_cell BK222.out 0).trans rfl; have hcz12_1 : w11.cell? ⟨gb222, 1, none⟩ = some (.int .i32 0) := (blk_cell BK222.out 1).trans rfl; have hcz12_2 : w11.cell? ⟨gb222, 2, none⟩ = some (.int .i32 0) := (blk_cell BK222.out 2).trans rfl; have hcz12_3 : w11.cell? ⟨gb222, 3, none⟩ = some (.bool false) := (blk_cell BK222.out 3).trans rfl; have hfz12_0 := blk_frozen BK222.out 0; have hfz12_1 := blk_frozen BK222.out 1; have hfz12_2 := blk_frozen BK222.out 2; have hfz12_3 := blk_frozen BK222.out 3) | ((with_reducible refine gate_callee (f := 75) rfl ?_); refine goesL_ (some 18) rfl rfl Tryd.func75 (by kernel_rfl) rfl #[.string a0, .string ((rd_T75 t218 x11_1).f0)] rfl (by (try simp only [List.map_toArray, List.map_cons, List.map_nil]); first | done | rfl | (simp only [List.length_drop, List.length_take]; rfl) | (simp [*] <;> rfl)) ?_; (with_reducible refine (strings_HasPrefix.calls a0 ((rd_T75 t218 x11_1).f0) true _ A8.out).mono ?_); rintro e w' ⟨rfl, ⟨nd, rfl⟩⟩; refine ⟨_, rfl, ?_⟩))
       (try simp only [Act.put, List.setIfInBounds_toArray, List.set_cons_zero, List.set_cons_succ])
       go_cut [32] (fun v32 wc => ∃ (kq : Nat) (x32_9 : Bool), v32 = .bool x32_9 ∧ Aside0 (entity_Longest.j1 kq a0 x4_1 x5_1 (((rd_T75 t218 x11_1).f0).size : Int) t218 (t218.length : Int) x11_1 x32_9 ((rd_T75 t218 x11_1).f0) ((rd_T75 t218 x11_1).f1) ((rd_T75 t218 x11_1).f2) ((rd_T75 t218 x11_1).f3) = some (r1, r2)) ∧ Aside0 (kq ≤ k1) ∧ Aside0 (Kd.R (Kd.int .i32) 21 wc w.heap.size (fun _ => True) u5 x5_1) ∧ Aside0 (Kd.R k75 75 wc w.heap.size (fun k_ => k_ ≠ gb222) (.slice (some ad221) t218.length co4) t218) ∧ Aside0 (wc.heap[gb222]? = some (.cells #[.string ((rd_T75 t218 x11_1).f0), .int .i32 ((rd_T75 t218 x11_1).f1), .int .i32 ((rd_T75 t218 x11_1).f2), .bool ((rd_T75 t218 x11_1).f3)] 75 (0, 0))) ∧ Aside0 (Below w.heap.size w wc))
       case first =>
        have H := HC10.out
        clear HC10
        by_cases c13 : (((rd_T75 t218 x11_1).f0).size : Int) < (a0.size : Int)
        ·rw [if_pos c13] at H
         have c13b0 : decide ((((rd_T75 t218 x11_1).f0).size : Int) < (a0.size : Int)) = true := decide_eq_true c13
         have c13b1 : decide (((rd_T75 t218 x11_1).f0).size < a0.size) = true := decide_eq_true (Int.ofNat_lt.mp c13)
         clear c13
         (first | rw [c13b0] | (simp only [i64_w, i32_w]; rw [c13b0]) | skip)
         by_cases c14 : 0 ≤ (((rd_T75 t218 x11_1).f0).size : Int)
         ·rw [if_pos c14] at H
          have c14b0 : decide (0 ≤ (((rd_T75 t218 x11_1).f0).size : Int)) = true := decide_eq_true c14
          have c14b1 : decide (0 ≤ ((rd_T75 t218 x11_1).f0).size) = true := decide_eq_true (by omega)
          clear c14
          have H' := Aside0.mk H
          clear H
          have p15 : 0 ≤ ((((rd_T75 t218 x11_1).f0).size : Int) : Int) := of_decide_eq_true (by first | (with_reducible assumption) | assumption)
          have q15 : (((rd_T75 t218 x11_1).f0).size : Int) < (a0.size : Int) := of_decide_eq_true (by first | (with_reducible assumption) | assumption)
          have hx15 := bt_at a0 (((rd_T75 t218 x11_1).f0).size : Int)
          have hx15z : ∀ h : ((rd_T75 t218 x11_1).f0).size < a0.size, ((a0[((rd_T75 t218 x11_1).f0).size]'h).toNat : Int) = bt a0 (((rd_T75 t218 x11_1).f0).size : Int) := bt_at a0 (((rd_T75 t218 x11_1).f0).size : Int)
          replace p15 := eq_true p15
          replace q15 := eq_true q15
          go_wp2
          go_meet
          case rel => exact ⟨_, (((bt a0 (((rd_T75 t218 x11_1).f0).size : Int)) == 59)), (by first | rfl | (simp; done) | (simp [*]; done) | (unfold bt; split <;> first | rfl | (exfalso; simp_all; done) | (exfalso; simp_all; omega))), H', ⟨by have := HK1.out; first | omega | exact Nat.le_refl _⟩, ⟨by (with_reducible repeat (first | apply Kd.R_alloc | apply Kd.R_drewN | apply Kd.R_drew)); exact Kd.R_mono (Kd.R_far (p := ⟨gb222, 3, none⟩) (Kd.R_far (p := ⟨gb222, 2, none⟩) (Kd.R_far (p := ⟨gb222, 1, none⟩) (Kd.R_far (p := ⟨gb222, 0, none⟩) (Kd.R_types HO_5.out BK222.out (by decide)) (fun _ hk => hk.2) (.string ((rd_T75 t218 x11_1).f0))) (fun _ hk => hk.2) (.int .i32 ((rd_T75 t218 x11_1).f1))) (fun _ hk => hk.2) (.int .i32 ((rd_T75 t218 x11_1).f2))) (fun _ hk => hk.2) (.bool ((rd_T75 t218 x11_1).f3))) (fun _ hk => trivial)⟩, ⟨by (with_reducible repeat (first | apply Kd.R_alloc | apply Kd.R_drewN | apply Kd.R_drew)); exact Kd.R_mono (Kd.R_far (p := ⟨gb222, 3, none⟩) (Kd.R_far (p := ⟨gb222, 2, none⟩) (Kd.R_far (p := ⟨gb222, 1, none⟩) (Kd.R_far (p := ⟨gb222, 0, none⟩) (Kd.R_mono HO_9.out (fun k_ hk => (⟨hk, hk.2⟩ : _ ∧ k_ ≠ gb222))) (fun _ hk => hk.2) (.string ((rd_T75 t218 x11_1).f0))) (fun _ hk => hk.2) (.int .i32 ((rd_T75 t218 x11_1).f1))) (fun _ hk => hk.2) (.int .i32 ((rd_T75 t218 x11_1).f2))) (fun _ hk => hk.2) (.bool ((rd_T75 t218 x11_1).f3))) (fun _ hk => hk.1.2)⟩, ⟨by (with_reducible repeat (first | refine blk_drewN ?_ _ | refine blk_drew ?_ | refine blk_alloc ?_ _)); refine blk_put (cs := #[.string ((rd_T75 t218 x11_1).f0), .int .i32 ((rd_T75 t218 x11_1).f1), .int .i32 ((rd_T75 t218 x11_1).f2), .bool false]) ?_ 3 _ rfl; (with_reducible repeat (first | refine blk_drewN ?_ _ | refine blk_drew ?_ | refine blk_alloc ?_ _)); refine blk_put (cs := #[.string ((rd_T75 t218 x11_1).f0), .int .i32 ((rd_T75 t218 x11_1).f1), .int .i32 0, .bool false]) ?_ 2 _ rfl; (with_reducible repeat (first | refine blk_drewN ?_ _ | refine blk_drew ?_ | refine blk_alloc ?_ _)); refine blk_put (cs := #[.string ((rd_T75 t218 x11_1).f0), .int .i32 0, .int .i32 0, .bool false]) ?_ 1 _ rfl; (with_reducible repeat (first | refine blk_drewN ?_ _ | refine blk_drew ?_ | refine blk_alloc ?_ _)); refine blk_put (cs := #[.string (⟨#[]⟩ : ByteArray), .int .i32 0, .int .i32 0, .bool false]) ?_ 0 _ rfl; (with_reducible repeat (first | refine blk_drewN ?_ _ | refine blk_drew ?_ | refine blk_alloc ?_ _)); exact BK222.out⟩, ⟨by repeat (first | (with_reducible first | exact HB.out | apply below_alloc | apply pw_below_drewN | apply below_drew1 | refine below_set ?_ GE222.out) | exact HB.out)⟩⟩
         ·rw [if_neg c14] at H
          exact absurd H (by simp)
        ·rw [if_neg c13] at H
         have c13b0 : decide ((((rd_T75 t218 x11_1).f0).size : Int) < (a0.size : Int)) = false := decide_eq_false c13
         have c13b1 : decide (((rd_T75 t218 x11_1).f0).size < a0.size) = false := decide_eq_false (fun h => c13 (Int.ofNat_lt.mpr h))
         clear c13
         (first | rw [c13b0] | (simp only [i64_w, i32_w]; rw [c13b0]) | skip)
         have H' := Aside0.mk H
         clear H
         go_wp2
         go_meet
         case rel => exact ⟨_, (false), (by first | rfl | (simp; done) | (simp [*]; done) | (unfold bt; split <;> first | rfl | (exfalso; simp_all; done) | (exfalso; simp_all; omega))), H', ⟨by have := HK1.out; first | omega | exact Nat.le_refl _⟩, ⟨by (with_reducible repeat (first | apply Kd.R_alloc | apply Kd.R_drewN | apply Kd.R_drew)); exact Kd.R_mono (Kd.R_far (p := ⟨gb222, 3, none⟩) (Kd.R_far (p := ⟨gb222, 2, none⟩) (Kd.R_far (p := ⟨gb222, 1, none⟩) (Kd.R_far (p := ⟨gb222, 0, none⟩) (Kd.R_types HO_5.out BK222.out (by decide)) (fun _ hk => hk.2) (.string ((rd_T75 t218 x11_1).f0))) (fun _ hk => hk.2) (.int .i32 ((rd_T75 t218 x11_1).f1))) (fun _ hk => hk.2) (.int .i32 ((rd_T75 t218 x11_1).f2))) (fun _ hk => hk.2) (.bool ((rd_T75 t218 x11_1).f3))) (fun _ hk => trivial)⟩, ⟨by (with_reducible repeat (first | apply Kd.R_alloc | apply Kd.R_drewN | apply Kd.R_drew)); exact Kd.R_mono (Kd.R_far (p := ⟨gb222, 3, none⟩) (Kd.R_far (p := ⟨gb222, 2, none⟩) (Kd.R_far (p := ⟨gb222, 1, none⟩) (Kd.R_far (p := ⟨gb222, 0, none⟩) (Kd.R_mono HO_9.out (fun k_ hk => (⟨hk, hk.2⟩ : _ ∧ k_ ≠ gb222))) (fun _ hk => hk.2) (.string ((rd_T75 t218 x11_1).f0))) (fun _ hk => hk.2) (.int .i32 ((rd_T75 t218 x11_1).f1))) (fun _ hk => hk.2) (.int .i32 ((rd_T75 t218 x11_1).f2))) (fun _ hk => hk.2) (.bool ((rd_T75 t218 x11_1).f3))) (fun _ hk => hk.1.2)⟩, ⟨by (with_reducible repeat (first | refine blk_drewN ?_ _ | refine blk_drew ?_ | refine blk_alloc ?_ _)); refine blk_put (cs := #[.string ((rd_T75 t218 x11_1).f0), .int .i32 ((rd_T75 t218 x11_1).f1), .int .i32 ((rd_T75 t218 x11_1).f2), .bool false]) ?_ 3 _ rfl; (with_reducible repeat (first | refine blk_drewN ?_ _ | refine blk_drew ?_ | refine blk_alloc ?_ _)); refine blk_put (cs := #[.string ((rd_T75 t218 x11_1).f0), .int .i32 ((rd_T75 t218 x11_1).f1), .int .i32 0, .bool false]) ?_ 2 _ rfl; (with_reducible repeat (first | refine blk_drewN ?_ _ | refine blk_drew ?_ | refine blk_alloc ?_ _)); refine blk_put (cs := #[.string ((rd_T75 t218 x11_1).f0), .int .i32 0, .int .i32 0, .bool false]) ?_ 1 _ rfl; (with_reducible repeat (first | refine blk_drewN ?_ _ | refine blk_drew ?_ | refine blk_alloc ?_ _)); refine blk_put (cs := #[.string (⟨#[]⟩ : ByteArray), .int .i32 0, .int .i32 0, .bool false]) ?_ 0 _ rfl; (with_reducible repeat (first | refine blk_drewN ?_ _ | refine blk_drew ?_ | refine blk_alloc ?_ _)); exact BK222.out⟩, ⟨by repeat (first | (with_reducible first | exact HB.out | apply below_alloc | apply pw_below_drewN | apply below_drew1 | refine below_set ?_ GE222.out) | exact HB.out)⟩⟩
       case rest =>
        clear HC10
        try clear c1
        try clear p1
        try clear q1
        try clear hx1
        try clear p2
        try clear q2
        try clear hx2
        try clear c4
        try clear c5
        try clear c5b0
        try clear c6
        try clear c6b0
        try clear p6
        try clear c7
        try clear c7b0
        try clear c9
        try clear c13
        try clear c13b0
        try clear c13b1
        try clear c14
        try clear c14b0
        try clear c14b1
        try clear p15
        try clear q15
        try clear hx15
        try clear hcz12_0
        try clear hcz12_1
        try clear hcz12_2
        try clear hcz12_3
        try clear hfz12_0
        try clear hfz12_1
        try clear hfz12_2
        try clear hfz12_3
        try clear hx221_0
        try clear hx221_1
        try clear hx221_2
        try clear hx221_3
        try clear p15
        try clear p2
        try clear p221
        try clear q15
        try clear q221
        obtain ⟨kq, x32_9, rfl, HA, HJ9, HO_5, HO_9, BK222, HB⟩ := hcut
        cases kq with
        | zero => exact absurd HA.out (by simp [entity_Longest.j1])
        | succ kj9 =>
         have H := HA.out
         clear HA
         simp only [entity_Longest.j1] at H
         by_cases c16 : x32_9 = true
         ·subst c16
          have H1 : (if (wrap64 ((((rd_T75 t218 x11_1).f0).size : Int) + 1)) > x4_1 then ((entity_says.f ((rd_T75 t218 x11_1).f0) ((rd_T75 t218 x11_1).f1) ((rd_T75 t218 x11_1).f2) ((rd_T75 t218 x11_1).f3)).bind fun t224 => (entity_Longest.l0 kj9 a0 (wrap64 ((((rd_T75 t218 x11_1).f0).size : Int) + 1)) t224 t218 (t218.length : Int) (wrap64 (x11_1 + 1)))) else (entity_Longest.l0 kj9 a0 x4_1 x5_1 t218 (t218.length : Int) (wrap64 (x11_1 + 1)))) = some (r1, r2) := by rw [if_pos rfl] at H; exact H
          clear H
          have H := H1
          clear H1
          by_cases c17 : (wrap64 ((((rd_T75 t218 x11_1).f0).size : Int) + 1)) > x4_1
          ·rw [if_pos c17] at H
           have c17b0 : decide (x4_1 < (wrap64 ((((rd_T75 t218 x11_1).f0).size : Int) + 1))) = true := decide_eq_true c17
           clear c17
           replace H := Option.bind_eq_some_iff.mp H
           obtain ⟨t224, A180, H⟩ := H
           replace H : (entity_Longest.l0 kj9 a0 (wrap64 ((((rd_T75 t218 x11_1).f0).size : Int) + 1)) t224 t218 (t218.length : Int) (wrap64 (x11_1 + 1))) = some (r1, r2) := H
           have A18 := Aside0.mk A180
           clear A180
           have H' := Aside0.mk H
           clear H
           have hcz19_0 : wc.cell? ⟨gb222, 0, none⟩ = some (.string ((rd_T75 t218 x11_1).f0)) := (blk_cell BK222.out 0).trans rfl
           have hcz19_1 : wc.cell? ⟨gb222, 1, none⟩ = some (.int .i32 ((rd_T75 t218 x11_1).f1)) := (blk_cell BK222.out 1).trans rfl
           have hcz19_2 : wc.cell? ⟨gb222, 2, none⟩ = some (.int .i32 ((rd_T75 t218 x11_1).f2)) := (blk_cell BK222.out 2).trans rfl
           have hcz19_3 : wc.cell? ⟨gb222, 3, none⟩ = some (.bool ((rd_T75 t218 x11_1).f3)) := (blk_cell BK222.out 3).trans rfl
           have hfz19_0 := blk_frozen BK222.out 0
           have hfz19_1 := blk_frozen BK222.out 1
           have hfz19_2 := blk_frozen BK222.out 2
           have hfz19_3 := blk_frozen BK222.out 3
           go_wp2_with (first | ((with_reducible refine gate_callee (f := 51) rfl ?_); refine goesL_ (some 43) rfl rfl Tryd.func51 (by kernel_rfl) rfl #[.agg #[.string ((rd_T75 t218 x11_1).f0), .int .i32 ((rd_T75 t218 x11_1).f1), .int .i32 ((rd_T75 t218 x11_1).f2), .bool ((rd_T75 t218 x11_1).f3)]] rfl (by (try simp only [List.map_toArray, List.map_cons, List.map_nil]); first | done | rfl | (simp only [List.length_drop, List.length_take]; rfl) | (simp [*] <;> rfl)) ?_; (with_reducible refine (entity_says.calls ((rd_T75 t218 x11_1).f0) ((rd_T75 t218 x11_1).f1) ((rd_T75 t218 x11_1).f2) ((rd_T75 t218 x11_1).f3) t224 _ A18.out).mono ?_); rintro e w20 ⟨v225, rfl, ho0, hb⟩; refine ⟨_, rfl, ?_⟩; have n0_ := Aside0.mk (Kd.R_elder' (by (with_reducible repeat (first | apply Kd.R_alloc | apply Kd.R_drewN | apply Kd.R_drew)); exact HO_5.out) (Kd.R_base ho0) hb); have n1_ := Aside0.mk (Kd.R_below (by (with_reducible repeat (first | apply Kd.R_alloc | apply Kd.R_drewN | apply Kd.R_drew)); exact HO_9.out) hb); have n2_ := Aside0.mk (Kd.R_lower (Kd.R_new' ho0 (Kd.R_lt (by (with_reducible repeat (first | apply Kd.R_alloc | apply Kd.R_drewN | apply Kd.R_drew)); exact HO_5.out))) (below_size (by repeat (first | (with_reducible first | exact HB.out | apply below_alloc | apply pw_below_drewN | apply below_drew1 | refine below_set ?_ GE222.out) | exact HB.out)))); have n3_ := Aside0.mk (blk_below (g := gb222) (o := .cells #[.string ((rd_T75 t218 x11_1).f0), .int .i32 ((rd_T75 t218 x11_1).f1), .int .i32 ((rd_T75 t218 x11_1).f2), .bool ((rd_T75 t218 x11_1).f3)] 75 (0, 0)) (by (with_reducible repeat (first | refine blk_drewN ?_ _ | refine blk_drew ?_ | refine blk_alloc ?_ _)); exact BK222.out) hb); have n4_ := Aside0.mk (below_step (by repeat (first | (with_reducible first | exact HB.out | apply below_alloc | apply pw_below_drewN | apply below_drew1 | refine below_set ?_ GE222.out) | exact HB.out)) hb); clear HO_5; clear HO_9; clear BK222; clear HB; have HO_5 := n0_; have HO_9 := n1_; have HO226 := n2_; have BK222 := n3_; have HB := n4_; clear n0_ n1_ n2_ n3_ n4_; (try clear hb); (try clear hb2); (try clear hk); (try clear hi); (try clear ho0)))
           go_roundg kj9
           case measure => have := HK1.out; have := HJ9.out; omega
           case rel => exact ⟨(wrap64 ((((rd_T75 t218 x11_1).f0).size : Int) + 1)), (t224), (wrap64 (x11_1 + 1)), (by first | rfl | (simp; done) | (simp [*]; done) | (unfold bt; split <;> first | rfl | (exfalso; simp_all; done) | (exfalso; simp_all; omega))), (by first | rfl | (simp; done) | (simp [*]; done) | (unfold bt; split <;> first | rfl | (exfalso; simp_all; done) | (exfalso; simp_all; omega))), H', ⟨by have := HK1.out; have := HJ9.out; omega⟩, ⟨by (with_reducible repeat (first | apply Kd.R_alloc | apply Kd.R_drewN | apply Kd.R_drew)); exact Kd.R_mono HO226.out (fun _ hk => trivial)⟩, ⟨by (with_reducible repeat (first | apply Kd.R_alloc | apply Kd.R_drewN | apply Kd.R_drew)); exact Kd.R_mono HO_9.out (fun _ hk => trivial)⟩, ⟨by repeat (first | (with_reducible first | exact HB.out | apply below_alloc | apply pw_below_drewN | apply below_drew1 | refine below_set ?_ GE222.out) | exact HB.out)⟩⟩
          ·rw [if_neg c17] at H
           have c17b0 : decide (x4_1 < (wrap64 ((((rd_T75 t218 x11_1).f0).size : Int) + 1))) = false := decide_eq_false c17
           clear c17
           have H' := Aside0.mk H
           clear H
           go_wp2
           go_roundg kj9
           case measure => have := HK1.out; have := HJ9.out; omega
           case rel => exact ⟨(x4_1), (x5_1), (wrap64 (x11_1 + 1)), (by first | rfl | (simp; done) | (simp [*]; done) | (unfold bt; split <;> first | rfl | (exfalso; simp_all; done) | (exfalso; simp_all; omega))), (by first | rfl | (simp; done) | (simp [*]; done) | (unfold bt; split <;> first | rfl | (exfalso; simp_all; done) | (exfalso; simp_all; omega))), H', ⟨by have := HK1.out; have := HJ9.out; omega⟩, ⟨by (with_reducible repeat (first | apply Kd.R_alloc | apply Kd.R_drewN | apply Kd.R_drew)); exact HO_5.out⟩, ⟨by (with_reducible repeat (first | apply Kd.R_alloc | apply Kd.R_drewN | apply Kd.R_drew)); exact Kd.R_mono HO_9.out (fun _ hk => trivial)⟩, ⟨by repeat (first | (with_reducible first | exact HB.out | apply below_alloc | apply pw_below_drewN | apply below_drew1 | refine below_set ?_ GE222.out) | exact HB.out)⟩⟩
         ·replace c16 := Bool.eq_false_iff.mpr c16
          subst c16
          have H1 : (if ((rd_T75 t218 x11_1).f3) = true then (if (((rd_T75 t218 x11_1).f0).size : Int) > x4_1 then ((entity_says.f ((rd_T75 t218 x11_1).f0) ((rd_T75 t218 x11_1).f1) ((rd_T75 t218 x11_1).f2) ((rd_T75 t218 x11_1).f3)).bind fun t227 => (entity_Longest.l0 kj9 a0 (((rd_T75 t218 x11_1).f0).size : Int) t227 t218 (t218.length : Int) (wrap64 (x11_1 + 1)))) else (entity_Longest.l0 kj9 a0 x4_1 x5_1 t218 (t218.length : Int) (wrap64 (x11_1 + 1)))) else (entity_Longest.l0 kj9 a0 x4_1 x5_1 t218 (t218.length : Int) (wrap64 (x11_1 + 1)))) = some (r1, r2) := by rw [if_neg (show ¬ (false = true) by decide)] at H; exact H
          clear H
          have H := H1
          clear H1
          by_cases c21 : ((rd_T75 t218 x11_1).f3) = true
          ·rw [if_pos c21] at H
           have c21b0 : ((rd_T75 t218 x11_1).f3) = true := c21
           clear c21
           by_cases c22 : (((rd_T75 t218 x11_1).f0).size : Int) > x4_1
           ·rw [if_pos c22] at H
            have c22b0 : decide (x4_1 < (((rd_T75 t218 x11_1).f0).size : Int)) = true := decide_eq_true c22
            clear c22
            replace H := Option.bind_eq_some_iff.mp H
            obtain ⟨t227, A230, H⟩ := H
            replace H : (entity_Longest.l0 kj9 a0 (((rd_T75 t218 x11_1).f0).size : Int) t227 t218 (t218.length : Int) (wrap64 (x11_1 + 1))) = some (r1, r2) := H
            have A23 := Aside0.mk A230
            clear A230
            have H' := Aside0.mk H
            clear H
            have hcz24_0 : wc.cell? ⟨gb222, 0, none⟩ = some (.string ((rd_T75 t218 x11_1).f0)) := (blk_cell BK222.out 0).trans rfl
            have hcz24_1 : wc.cell? ⟨gb222, 1, none⟩ = some (.int .i32 ((rd_T75 t218 x11_1).f1)) := (blk_cell BK222.out 1).trans rfl
            have hcz24_2 : wc.cell? ⟨gb222, 2, none⟩ = some (.int .i32 ((rd_T75 t218 x11_1).f2)) := (blk_cell BK222.out 2).trans rfl
            have hcz24_3 : wc.cell? ⟨gb222, 3, none⟩ = some (.bool ((rd_T75 t218 x11_1).f3)) := (blk_cell BK222.out 3).trans rfl
            have hfz24_0 := blk_frozen BK222.out 0
            have hfz24_1 := blk_frozen BK222.out 1
            have hfz24_2 := blk_frozen BK222.out 2
            have hfz24_3 := blk_frozen BK222.out 3
            go_wp2_with (first | ((with_reducible refine gate_callee (f := 51) rfl ?_); refine goesL_ (some 43) rfl rfl Tryd.func51 (by kernel_rfl) rfl #[.agg #[.string ((rd_T75 t218 x11_1).f0), .int .i32 ((rd_T75 t218 x11_1).f1), .int .i32 ((rd_T75 t218 x11_1).f2), .bool ((rd_T75 t218 x11_1).f3)]] rfl (by (try simp only [List.map_toArray, List.map_cons, List.map_nil]); first | done | rfl | (simp only [List.length_drop, List.length_take]; rfl) | (simp [*] <;> rfl)) ?_; (with_reducible refine (entity_says.calls ((rd_T75 t218 x11_1).f0) ((rd_T75 t218 x11_1).f1) ((rd_T75 t218 x11_1).f2) ((rd_T75 t218 x11_1).f3) t227 _ A23.out).mono ?_); rintro e w25 ⟨v228, rfl, ho0, hb⟩; refine ⟨_, rfl, ?_⟩; have n0_ := Aside0.mk (Kd.R_elder' (by (with_reducible repeat (first | apply Kd.R_alloc | apply Kd.R_drewN | apply Kd.R_drew)); exact HO_5.out) (Kd.R_base ho0) hb); have n1_ := Aside0.mk (Kd.R_below (by (with_reducible repeat (first | apply Kd.R_alloc | apply Kd.R_drewN | apply Kd.R_drew)); exact HO_9.out) hb); have n2_ := Aside0.mk (Kd.R_lower (Kd.R_new' ho0 (Kd.R_lt (by (with_reducible repeat (first | apply Kd.R_alloc | apply Kd.R_drewN | apply Kd.R_drew)); exact HO_5.out))) (below_size (by repeat (first | (with_reducible first | exact HB.out | apply below_alloc | apply pw_below_drewN | apply below_drew1 | refine below_set ?_ GE222.out) | exact HB.out)))); have n3_ := Aside0.mk (blk_below (g := gb222) (o := .cells #[.string ((rd_T75 t218 x11_1).f0), .int .i32 ((rd_T75 t218 x11_1).f1), .int .i32 ((rd_T75 t218 x11_1).f2), .bool ((rd_T75 t218 x11_1).f3)] 75 (0, 0)) (by (with_reducible repeat (first | refine blk_drewN ?_ _ | refine blk_drew ?_ | refine blk_alloc ?_ _)); exact BK222.out) hb); have n4_ := Aside0.mk (below_step (by repeat (first | (with_reducible first | exact HB.out | apply below_alloc | apply pw_below_drewN | apply below_drew1 | refine below_set ?_ GE222.out) | exact HB.out)) hb); clear HO_5; clear HO_9; clear BK222; clear HB; have HO_5 := n0_; have HO_9 := n1_; have HO229 := n2_; have BK222 := n3_; have HB := n4_; clear n0_ n1_ n2_ n3_ n4_; (try clear hb); (try clear hb2); (try clear hk); (try clear hi); (try clear ho0)))
            go_roundg kj9
            case measure => have := HK1.out; have := HJ9.out; omega
            case rel => exact ⟨((((rd_T75 t218 x11_1).f0).size : Int)), (t227), (wrap64 (x11_1 + 1)), (by first | rfl | (simp; done) | (simp [*]; done) | (unfold bt; split <;> first | rfl | (exfalso; simp_all; done) | (exfalso; simp_all; omega))), (by first | rfl | (simp; done) | (simp [*]; done) | (unfold bt; split <;> first | rfl | (exfalso; simp_all; done) | (exfalso; simp_all; omega))), H', ⟨by have := HK1.out; have := HJ9.out; omega⟩, ⟨by (with_reducible repeat (first | apply Kd.R_alloc | apply Kd.R_drewN | apply Kd.R_drew)); exact Kd.R_mono HO229.out (fun _ hk => trivial)⟩, ⟨by (with_reducible repeat (first | apply Kd.R_alloc | apply Kd.R_drewN | apply Kd.R_drew)); exact Kd.R_mono HO_9.out (fun _ hk => trivial)⟩, ⟨by repeat (first | (with_reducible first | exact HB.out | apply below_alloc | apply pw_below_drewN | apply below_drew1 | refine below_set ?_ GE222.out) | exact HB.out)⟩⟩
           ·rw [if_neg c22] at H
            have c22b0 : decide (x4_1 < (((rd_T75 t218 x11_1).f0).size : Int)) = false := decide_eq_false c22
            clear c22
            have H' := Aside0.mk H
            clear H
            have hcz26_0 : wc.cell? ⟨gb222, 0, none⟩ = some (.string ((rd_T75 t218 x11_1).f0)) := (blk_cell BK222.out 0).trans rfl
            have hcz26_1 : wc.cell? ⟨gb222, 1, none⟩ = some (.int .i32 ((rd_T75 t218 x11_1).f1)) := (blk_cell BK222.out 1).trans rfl
            have hcz26_2 : wc.cell? ⟨gb222, 2, none⟩ = some (.int .i32 ((rd_T75 t218 x11_1).f2)) := (blk_cell BK222.out 2).trans rfl
            have hcz26_3 : wc.cell? ⟨gb222, 3, none⟩ = some (.bool ((rd_T75 t218 x11_1).f3)) := (blk_cell BK222.out 3).trans rfl
            have hfz26_0 := blk_frozen BK222.out 0
            have hfz26_1 := blk_frozen BK222.out 1
            have hfz26_2 := blk_frozen BK222.out 2
            have hfz26_3 := blk_frozen BK222.out 3
            go_wp2
            go_roundg kj9
            case measure => have := HK1.out; have := HJ9.out; omega
            case rel => exact ⟨(x4_1), (x5_1), (wrap64 (x11_1 + 1)), (by first | rfl | (simp; done) | (simp [*]; done) | (unfold bt; split <;> first | rfl | (exfalso; simp_all; done) | (exfalso; simp_all; omega))), (by first | rfl | (simp; done) | (simp [*]; done) | (unfold bt; split <;> first | rfl | (exfalso; simp_all; done) | (exfalso; simp_all; omega))), H', ⟨by have := HK1.out; have := HJ9.out; omega⟩, ⟨by (with_reducible repeat (first | apply Kd.R_alloc | apply Kd.R_drewN | apply Kd.R_drew)); exact HO_5.out⟩, ⟨by (with_reducible repeat (first | apply Kd.R_alloc | apply Kd.R_drewN | apply Kd.R_drew)); exact Kd.R_mono HO_9.out (fun _ hk => trivial)⟩, ⟨by repeat (first | (with_reducible first | exact HB.out | apply below_alloc | apply pw_below_drewN | apply below_drew1 | refine below_set ?_ GE222.out) | exact HB.out)⟩⟩
          ·rw [if_neg c21] at H
           have c21b0 : ((rd_T75 t218 x11_1).f3) = false := by simpa using c21
           clear c21
           have H' := Aside0.mk H
           clear H
           have hcz27_0 : wc.cell? ⟨gb222, 0, none⟩ = some (.string ((rd_T75 t218 x11_1).f0)) := (blk_cell BK222.out 0).trans rfl
           have hcz27_1 : wc.cell? ⟨gb222, 1, none⟩ = some (.int .i32 ((rd_T75 t218 x11_1).f1)) := (blk_cell BK222.out 1).trans rfl
           have hcz27_2 : wc.cell? ⟨gb222, 2, none⟩ = some (.int .i32 ((rd_T75 t218 x11_1).f2)) := (blk_cell BK222.out 2).trans rfl
           have hcz27_3 : wc.cell? ⟨gb222, 3, none⟩ = some (.bool ((rd_T75 t218 x11_1).f3)) := (blk_cell BK222.out 3).trans rfl
           have hfz27_0 := blk_frozen BK222.out 0
           have hfz27_1 := blk_frozen BK222.out 1
           have hfz27_2 := blk_frozen BK222.out 2
           have hfz27_3 := blk_frozen BK222.out 3
           go_wp2
           go_roundg kj9
           case measure => have := HK1.out; have := HJ9.out; omega
           case rel => exact ⟨(x4_1), (x5_1), (wrap64 (x11_1 + 1)), (by first | rfl | (simp; done) | (simp [*]; done) | (unfold bt; split <;> first | rfl | (exfalso; simp_all; done) | (exfalso; simp_all; omega))), (by first | rfl | (simp; done) | (simp [*]; done) | (unfold bt; split <;> first | rfl | (exfalso; simp_all; done) | (exfalso; simp_all; omega))), H', ⟨by have := HK1.out; have := HJ9.out; omega⟩, ⟨by (with_reducible repeat (first | apply Kd.R_alloc | apply Kd.R_drewN | apply Kd.R_drew)); exact HO_5.out⟩, ⟨by (with_reducible repeat (first | apply Kd.R_alloc | apply Kd.R_drewN | apply Kd.R_drew)); exact Kd.R_mono HO_9.out (fun _ hk => trivial)⟩, ⟨by repeat (first | (with_reducible first | exact HB.out | apply below_alloc | apply pw_below_drewN | apply below_drew1 | refine below_set ?_ GE222.out) | exact HB.out)⟩⟩
      ·replace c9 := Bool.eq_false_iff.mpr c9
       subst c9
       have H1 : (entity_Longest.l0 k1 a0 x4_1 x5_1 t218 (t218.length : Int) (wrap64 (x11_1 + 1))) = some (r1, r2) := by rw [if_neg (show ¬ (false = true) by decide)] at H; exact H
       clear H
       have H := H1
       clear H1
       have H' := Aside0.mk H
       clear H
       have p221 : 0 ≤ (x11_1 : Int) := of_decide_eq_true (by first | (with_reducible assumption) | assumption)
       have q221 : x11_1 < (t218.length : Int) := of_decide_eq_true (by first | (with_reducible assumption) | assumption)
       obtain ⟨ad221, e221, hx221_0, hx221_1, hx221_2, hx221_3⟩ := at_T75 (Kd.R_reads' HO_9.out).2.2 x11_1 p221 q221
       cases e221
       replace p221 := eq_true p221
       replace q221 := eq_true q221
       go_wp2_with (first | ((with_reducible refine gate_dst (N := 7) rfl ?_); refine box_event ?hg (N := 7) ?hd (cs := #[.string (⟨#[]⟩ : ByteArray), .int .i32 0, .int .i32 0, .bool false]) (t := 75) ?hr ?_; (case hd => rfl); (case hg => rfl); (case hr => first | (go_simp; done) | (go_simp; rfl)); intro gb222 hg w28 hbox hb; have n0_ := Aside0.mk (Kd.R_below (by (with_reducible repeat (first | apply Kd.R_alloc | apply Kd.R_drewN | apply Kd.R_drew)); exact HO_5.out) hb); have n1_ := Aside0.mk (Kd.R_below (Kd.R_elderB (by (with_reducible repeat (first | apply Kd.R_alloc | apply Kd.R_drewN | apply Kd.R_drew)); exact HO_9.out) gb222 (Nat.le_of_eq hg.symm)) hb); have n2_ := Aside0.mk (below_step (by repeat (first | (with_reducible first | exact HB.out | apply below_alloc | apply pw_below_drewN | apply below_drew1) | exact HB.out)) hb); have n3_ := Aside0.mk (hbox); have n4_ := Aside0.mk ((by rw [hg]; exact (below_size (by repeat (first | (with_reducible first | exact HB.out | apply below_alloc | apply pw_below_drewN | apply below_drew1) | exact HB.out))) : w.heap.size ≤ gb222)); have n5_ := Aside0.mk ((by rw [hg]; exact (below_size (by repeat (first | (with_reducible first | exact HB.out | apply below_alloc | apply pw_below_drewN | apply below_drew1) | exact HB.out))) : w.heap.size ≤ gb222)); clear HO_5; clear HO_9; clear HB; have HO_5 := n0_; have HO_9 := n1_; have HB := n2_; have BK222 := n3_; have GW222 := n4_; have GE222 := n5_; clear n0_ n1_ n2_ n3_ n4_ n5_; clear hb hbox hg; have hcz29_0 : w28.cell? ⟨gb222, 0, none⟩ = some (.string (⟨#[]⟩ : ByteArray)) := (blk_cell BK222.out 0).trans rfl; have hcz29_1 : w28.cell? ⟨gb222, 1, none⟩ = some (.int .i32 0) := (blk_cell BK222.out 1).trans rfl; have hcz29_2 : w28.cell? ⟨gb222, 2, none⟩ = some (.int .i32 0) := (blk_cell BK222.out 2).trans rfl; have hcz29_3 : w28.cell? ⟨gb222, 3, none⟩ = some (.bool false) := (blk_cell BK222.out 3).trans rfl; have hfz29_0 := blk_frozen BK222.out 0; have hfz29_1 := blk_frozen BK222.out 1; have hfz29_2 := blk_frozen BK222.out 2; have hfz29_3 := blk_frozen BK222.out 3) | ((with_reducible refine gate_callee (f := 75) rfl ?_); refine goesL_ (some 18) rfl rfl Tryd.func75 (by kernel_rfl) rfl #[.string a0, .string ((rd_T75 t218 x11_1).f0)] rfl (by (try simp only [List.map_toArray, List.map_cons, List.map_nil]); first | done | rfl | (simp only [List.length_drop, List.length_take]; rfl) | (simp [*] <;> rfl)) ?_; (with_reducible refine (strings_HasPrefix.calls a0 ((rd_T75 t218 x11_1).f0) false _ A8.out).mono ?_); rintro e w' ⟨rfl, ⟨nd, rfl⟩⟩; refine ⟨_, rfl, ?_⟩))
       go_roundg k1
       case measure => have := HK1.out; omega
       case rel => exact ⟨(x4_1), (x5_1), (wrap64 (x11_1 + 1)), (by first | rfl | (simp; done) | (simp [*]; done) | (unfold bt; split <;> first | rfl | (exfalso; simp_all; done) | (exfalso; simp_all; omega))), (by first | rfl | (simp; done) | (simp [*]; done) | (unfold bt; split <;> first | rfl | (exfalso; simp_all; done) | (exfalso; simp_all; omega))), H', ⟨by have := HK1.out; omega⟩, ⟨by (with_reducible repeat (first | apply Kd.R_alloc | apply Kd.R_drewN | apply Kd.R_drew)); exact Kd.R_mono (Kd.R_far (p := ⟨gb222, 3, none⟩) (Kd.R_far (p := ⟨gb222, 2, none⟩) (Kd.R_far (p := ⟨gb222, 1, none⟩) (Kd.R_far (p := ⟨gb222, 0, none⟩) (Kd.R_types HO_5.out BK222.out (by decide)) (fun _ hk => hk.2) (.string ((rd_T75 t218 x11_1).f0))) (fun _ hk => hk.2) (.int .i32 ((rd_T75 t218 x11_1).f1))) (fun _ hk => hk.2) (.int .i32 ((rd_T75 t218 x11_1).f2))) (fun _ hk => hk.2) (.bool ((rd_T75 t218 x11_1).f3))) (fun _ hk => trivial)⟩, ⟨by (with_reducible repeat (first | apply Kd.R_alloc | apply Kd.R_drewN | apply Kd.R_drew)); exact Kd.R_mono (Kd.R_far (p := ⟨gb222, 3, none⟩) (Kd.R_far (p := ⟨gb222, 2, none⟩) (Kd.R_far (p := ⟨gb222, 1, none⟩) (Kd.R_far (p := ⟨gb222, 0, none⟩) (Kd.R_mono HO_9.out (fun k_ hk => (⟨hk, hk.2⟩ : _ ∧ k_ ≠ gb222))) (fun _ hk => hk.2) (.string ((rd_T75 t218 x11_1).f0))) (fun _ hk => hk.2) (.int .i32 ((rd_T75 t218 x11_1).f1))) (fun _ hk => hk.2) (.int .i32 ((rd_T75 t218 x11_1).f2))) (fun _ hk => hk.2) (.bool ((rd_T75 t218 x11_1).f3))) (fun _ hk => trivial)⟩, ⟨by repeat (first | (with_reducible first | exact HB.out | apply below_alloc | apply pw_below_drewN | apply below_drew1 | refine below_set ?_ GE222.out) | exact HB.out)⟩⟩
     ·rw [if_neg c7] at H
      exact absurd H (by simp)
    ·rw [if_neg c6] at H
     exact absurd H (by simp)
   ·rw [if_neg c5] at H
    have c5b0 : decide (x11_1 < (t218.length : Int)) = false := decide_eq_false c5
    clear c5
    simp only [Option.some.injEq, Prod.mk.injEq] at H
    obtain ⟨rfl, rfl⟩ := H
    go_wp2
    go_ret2
    exact ⟨_, by first | rfl | (simp [errW_none, errW_some] <;> rfl) | (simp [*, errW_none, errW_some] <;> rfl), by (with_reducible repeat (first | apply Kd.R_alloc | apply Kd.R_drewN | apply Kd.R_drew)); exact HO_5.out, by repeat (first | (with_reducible first | exact HB.out | apply below_alloc | apply pw_below_drewN | apply below_drew1) | exact HB.out)⟩

/-! ### charref_named: function 41 -/
mutual
def charref_named.j0 : Nat → ByteArray → Bool → Bool → Bool → Option (ByteArray × Int × Bool)
 | 0, _, _, _, _ => none
 | k + 1, x0, x1, x2, x14 => if x14 = true then (some ((⟨#[]⟩ : ByteArray), 0, false)) else ((entity_Longest.f k x0).bind fun bt232 => (if bt232.1 = 0 then (some ((⟨#[]⟩ : ByteArray), 0, true)) else (if x1 = true then (if 0 ≤ (wrap64 (bt232.1 - 1)) then (if (wrap64 (bt232.1 - 1)) < (x0.size : Int) then (charref_named.j1 k x0 x2 bt232.1 bt232.2 ((bt x0 (wrap64 (bt232.1 - 1))) != 59)) else (none)) else (none)) else (charref_named.j1 k x0 x2 bt232.1 bt232.2 false))))
def charref_named.j1 : Nat → ByteArray → Bool → Int → List Int → Bool → Option (ByteArray × Int × Bool)
 | 0, _, _, _, _, _ => none
 | k + 1, x0, x2, x7, x8, x31 => if x31 = true then (if x7 = (x0.size : Int) then (if x2 = true then (some (Hc_text x8, x7, true)) else (some ((⟨#[]⟩ : ByteArray), 0, false))) else (if 0 ≤ x7 then (if x7 < (x0.size : Int) then ((charref_word.f (bt x0 x7)).bind fun t236 => (if t236 = true then (some ((⟨#[]⟩ : ByteArray), 0, true)) else (if (bt x0 x7) = 61 then (some ((⟨#[]⟩ : ByteArray), 0, true)) else (some (Hc_text x8, x7, true))))) else (none)) else (none))) else (some (Hc_text x8, x7, true))
end
def charref_named.f (k : Nat) (a0 : ByteArray) (a1 : Bool) (a2 : Bool) : Option (ByteArray × Int × Bool) := if a2 = true then (charref_named.j0 k a0 a1 a2 false) else ((entity_Begins.f k a0).bind fun t231 => (charref_named.j0 k a0 a1 a2 t231))
theorem charref_named.mono_l : ∀ k, (∀ y0 y1 y2 y3, LeO (charref_named.j0 k y0 y1 y2 y3) (charref_named.j0 (k + 1) y0 y1 y2 y3)) ∧ (∀ y0 y1 y2 y3 y4, LeO (charref_named.j1 k y0 y1 y2 y3 y4) (charref_named.j1 (k + 1) y0 y1 y2 y3 y4))
 | 0 => ⟨fun _ _ _ _ r h => by simp [charref_named.j0] at h, fun _ _ _ _ _ r h => by simp [charref_named.j1] at h⟩
 | k + 1 => by
  obtain ⟨ih0, ih1⟩ := charref_named.mono_l k
  refine ⟨?_, ?_⟩
  ·intro y0 y1 y2 y3
   unfold charref_named.j0
   repeat' first
   | (with_reducible exact ih0 _ _ _ _)
   | (with_reducible exact ih1 _ _ _ _ _)
   | (with_reducible exact entity_Begins.mono _ _)
   | (with_reducible exact entity_Longest.mono _ _)
   | (with_reducible exact LeO.refl _)
   | (with_reducible exact LeO.none _)
   | (with_reducible refine LeO.ite ?_ ?_)
   | (with_reducible refine LeO.bind ?_ (fun _ => ?_))
   | exact ih0 _ _ _ _
   | exact ih1 _ _ _ _ _
   | exact entity_Begins.mono _ _
   | exact entity_Longest.mono _ _
   | exact LeO.none _
   | refine LeO.ite ?_ ?_
   | refine LeO.bind ?_ (fun _ => ?_)
  ·intro y0 y1 y2 y3 y4
   unfold charref_named.j1
   repeat' first
   | (with_reducible exact ih0 _ _ _ _)
   | (with_reducible exact ih1 _ _ _ _ _)
   | (with_reducible exact entity_Begins.mono _ _)
   | (with_reducible exact entity_Longest.mono _ _)
   | (with_reducible exact LeO.refl _)
   | (with_reducible exact LeO.none _)
   | (with_reducible refine LeO.ite ?_ ?_)
   | (with_reducible refine LeO.bind ?_ (fun _ => ?_))
   | exact ih0 _ _ _ _
   | exact ih1 _ _ _ _ _
   | exact entity_Begins.mono _ _
   | exact entity_Longest.mono _ _
   | exact LeO.none _
   | refine LeO.ite ?_ ?_
   | refine LeO.bind ?_ (fun _ => ?_)
theorem charref_named.mono : ∀ a0 a1 a2 k, LeO (charref_named.f k a0 a1 a2) (charref_named.f (k + 1) a0 a1 a2) := by
 intro a0 a1 a2 k
 obtain ⟨ih0, ih1⟩ := charref_named.mono_l k
 unfold charref_named.f
 repeat' first
   | (with_reducible exact ih0 _ _ _ _)
   | (with_reducible exact ih1 _ _ _ _ _)
   | (with_reducible exact entity_Begins.mono _ _)
   | (with_reducible exact entity_Longest.mono _ _)
   | (with_reducible exact LeO.refl _)
   | (with_reducible exact LeO.none _)
   | (with_reducible refine LeO.ite ?_ ?_)
   | (with_reducible refine LeO.bind ?_ (fun _ => ?_))
   | exact ih0 _ _ _ _
   | exact ih1 _ _ _ _ _
   | exact entity_Begins.mono _ _
   | exact entity_Longest.mono _ _
   | exact LeO.none _
   | refine LeO.ite ?_ ?_
   | refine LeO.bind ?_ (fun _ => ?_)
set_option maxHeartbeats 8000000 in
set_option maxRecDepth 100000 in
theorem charref_named.calls (k : Nat) (a0 : ByteArray) (a1 : Bool) (a2 : Bool) (r1 : ByteArray) (r2 : Int) (r3 : Bool) (w : World) (h : charref_named.f k a0 a1 a2 = some (r1, r2, r3)) :
  Calls Tryd.prog 41 #[.string a0, .bool a1, .bool a2] w fun e w' => e = .returned (.agg #[.string r1, .int .i64 r2, .bool r3]) ∧ Below w.heap.size w w' := by
 have hu38 := Tryd.underlying38
 have HB := Aside0.mk (Below.refl w.heap.size w)
 have H : (if a2 = true then (charref_named.j0 k a0 a1 a2 false) else ((entity_Begins.f k a0).bind fun t231 => (charref_named.j0 k a0 a1 a2 t231))) = some (r1, r2, r3) := h
 clear h
 have HC4 := Aside0.mk H
 clear H
 go_enter Tryd.func41, Tryd.ntmps41
 go_upto_region 1 with (first | ((with_reducible refine gate_dst (N := 6) rfl ?_); refine box_event ?hg (N := 6) ?hd (cs := #[.string (⟨#[]⟩ : ByteArray), .int .i64 0, .bool false]) (t := 38) ?hr ?_; (case hd => rfl); (case hg => rfl); (case hr => first | (go_simp; done) | (go_simp; rfl)); intro gb230 hg w5 hbox hb; have n0_ := Aside0.mk (below_step (by repeat (first | (with_reducible first | exact HB.out | apply below_alloc | apply pw_below_drewN | apply below_drew1) | exact HB.out)) hb); have n1_ := Aside0.mk (hbox); have n2_ := Aside0.mk ((by rw [hg]; exact (below_size (by repeat (first | (with_reducible first | exact HB.out | apply below_alloc | apply pw_below_drewN | apply below_drew1) | exact HB.out))) : w.heap.size ≤ gb230)); have n3_ := Aside0.mk ((by rw [hg]; exact (below_size (by repeat (first | (with_reducible first | exact HB.out | apply below_alloc | apply pw_below_drewN | apply below_drew1) | exact HB.out))) : w.heap.size ≤ gb230)); clear HB; have HB := n0_; have BK230 := n1_; have GW230 := n2_; have GE230 := n3_; clear n0_ n1_ n2_ n3_; clear hb hbox hg))
 (try simp only [Act.put, List.setIfInBounds_toArray, List.set_cons_zero, List.set_cons_succ])
 go_cut [14] (fun v14 wc => ∃ (kq : Nat) (x14_3 : Bool), v14 = .bool x14_3 ∧ Aside0 (charref_named.j0 kq a0 a1 a2 x14_3 = some (r1, r2, r3)) ∧ Aside0 (kq ≤ k) ∧ Aside0 (wc.heap[gb230]? = some (.cells #[.string (⟨#[]⟩ : ByteArray), .int .i64 0, .bool false] 38 (0, 0))) ∧ Aside0 (Below w.heap.size w wc))
 case first =>
  have H := HC4.out
  clear HC4
  by_cases c6 : a2 = true
  ·subst c6
   have H1 : (charref_named.j0 k a0 a1 true false) = some (r1, r2, r3) := by rw [if_pos rfl] at H; exact H
   clear H
   have H := H1
   clear H1
   have H' := Aside0.mk H
   clear H
   go_wp2
   go_meet
   case rel => exact ⟨_, (false), (by first | rfl | (simp; done) | (simp [*]; done) | (unfold bt; split <;> first | rfl | (exfalso; simp_all; done) | (exfalso; simp_all; omega))), H', ⟨by first | omega | exact Nat.le_refl _⟩, ⟨by (with_reducible repeat (first | refine blk_drewN ?_ _ | refine blk_drew ?_ | refine blk_alloc ?_ _)); exact BK230.out⟩, ⟨by repeat (first | (with_reducible first | exact HB.out | apply below_alloc | apply pw_below_drewN | apply below_drew1 | refine below_set ?_ GE230.out) | exact HB.out)⟩⟩
  ·replace c6 := Bool.eq_false_iff.mpr c6
   subst c6
   have H1 : ((entity_Begins.f k a0).bind fun t231 => (charref_named.j0 k a0 a1 false t231)) = some (r1, r2, r3) := by rw [if_neg (show ¬ (false = true) by decide)] at H; exact H
   clear H
   have H := H1
   clear H1
   replace H := Option.bind_eq_some_iff.mp H
   obtain ⟨t231, A70, H⟩ := H
   replace H : (charref_named.j0 k a0 a1 false t231) = some (r1, r2, r3) := H
   have A7 := Aside0.mk A70
   clear A70
   have H' := Aside0.mk H
   clear H
   go_wp2_with (first | (go_at_call 57; (with_reducible refine (entity_Begins.calls k a0 t231 _ A7.out).mono ?_); rintro e w8 ⟨rfl, hb⟩; have n0_ := Aside0.mk (blk_below (g := gb230) (o := .cells #[.string (⟨#[]⟩ : ByteArray), .int .i64 0, .bool false] 38 (0, 0)) (by (with_reducible repeat (first | refine blk_drewN ?_ _ | refine blk_drew ?_ | refine blk_alloc ?_ _)); exact BK230.out) hb); have n1_ := Aside0.mk (below_step (by repeat (first | (with_reducible first | exact HB.out | apply below_alloc | apply pw_below_drewN | apply below_drew1 | refine below_set ?_ GE230.out) | exact HB.out)) hb); clear BK230; clear HB; have BK230 := n0_; have HB := n1_; clear n0_ n1_; (try clear hb); (try clear hb2); (try clear hk); (try clear hi)))
   go_meet
   case rel => exact ⟨_, (t231), (by first | rfl | (simp; done) | (simp [*]; done) | (unfold bt; split <;> first | rfl | (exfalso; simp_all; done) | (exfalso; simp_all; omega))), H', ⟨by first | omega | exact Nat.le_refl _⟩, ⟨by (with_reducible repeat (first | refine blk_drewN ?_ _ | refine blk_drew ?_ | refine blk_alloc ?_ _)); exact BK230.out⟩, ⟨by repeat (first | (with_reducible first | exact HB.out | apply below_alloc | apply pw_below_drewN | apply below_drew1 | refine below_set ?_ GE230.out) | exact HB.out)⟩⟩
 case rest =>
  clear HC4
  try clear p2
  try clear c4
  try clear c6
  obtain ⟨kq, x14_3, rfl, HA, HJ3, BK230, HB⟩ := hcut
  cases kq with
  | zero => exact absurd HA.out (by simp [charref_named.j0])
  | succ kj3 =>
   have H := HA.out
   clear HA
   simp only [charref_named.j0] at H
   by_cases c9 : x14_3 = true
   ·subst c9
    have H1 : (some ((⟨#[]⟩ : ByteArray), 0, false)) = some (r1, r2, r3) := by rw [if_pos rfl] at H; exact H
    clear H
    have H := H1
    clear H1
    simp only [Option.some.injEq, Prod.mk.injEq] at H
    obtain ⟨rfl, rfl, rfl⟩ := H
    have hcz10_0 : wc.cell? ⟨gb230, 0, none⟩ = some (.string (⟨#[]⟩ : ByteArray)) := (blk_cell BK230.out 0).trans rfl
    have hcz10_1 : wc.cell? ⟨gb230, 1, none⟩ = some (.int .i64 0) := (blk_cell BK230.out 1).trans rfl
    have hcz10_2 : wc.cell? ⟨gb230, 2, none⟩ = some (.bool false) := (blk_cell BK230.out 2).trans rfl
    have hfz10_0 := blk_frozen BK230.out 0
    have hfz10_1 := blk_frozen BK230.out 1
    have hfz10_2 := blk_frozen BK230.out 2
    go_wp2
    refine bodyPost_ret (results_cell_row rfl _ _ gb230 38 #[.string (⟨#[]⟩ : ByteArray), .int .i64 0, .bool false] (0, 0) _ rfl (by (with_reducible repeat (first | refine blk_drewN ?_ _ | refine blk_drew ?_ | refine blk_alloc ?_ _)); refine blk_put (cs := #[.string (⟨#[]⟩ : ByteArray), .int .i64 0, .bool false]) ?_ 2 _ rfl; (with_reducible repeat (first | refine blk_drewN ?_ _ | refine blk_drew ?_ | refine blk_alloc ?_ _)); refine blk_put (cs := #[.string (⟨#[]⟩ : ByteArray), .int .i64 0, .bool false]) ?_ 1 _ rfl; (with_reducible repeat (first | refine blk_drewN ?_ _ | refine blk_drew ?_ | refine blk_alloc ?_ _)); refine blk_put (cs := #[.string (⟨#[]⟩ : ByteArray), .int .i64 0, .bool false]) ?_ 0 _ rfl; (with_reducible repeat (first | refine blk_drewN ?_ _ | refine blk_drew ?_ | refine blk_alloc ?_ _)); exact BK230.out) Tryd.underlying38 rfl (by kernel_rfl)) rfl ?_
    exact ⟨by first | rfl | (simp [errW_none, errW_some] <;> rfl) | (simp [*, errW_none, errW_some] <;> rfl), by repeat (first | (with_reducible first | exact HB.out | apply below_alloc | apply pw_below_drewN | apply below_drew1 | refine below_set ?_ GE230.out) | exact HB.out)⟩
   ·replace c9 := Bool.eq_false_iff.mpr c9
    subst c9
    have H1 : ((entity_Longest.f kj3 a0).bind fun bt232 => (if bt232.1 = 0 then (some ((⟨#[]⟩ : ByteArray), 0, true)) else (if a1 = true then (if 0 ≤ (wrap64 (bt232.1 - 1)) then (if (wrap64 (bt232.1 - 1)) < (a0.size : Int) then (charref_named.j1 kj3 a0 a2 bt232.1 bt232.2 ((bt a0 (wrap64 (bt232.1 - 1))) != 59)) else (none)) else (none)) else (charref_named.j1 kj3 a0 a2 bt232.1 bt232.2 false)))) = some (r1, r2, r3) := by rw [if_neg (show ¬ (false = true) by decide)] at H; exact H
    clear H
    have H := H1
    clear H1
    replace H := Option.bind_eq_some_iff.mp H
    obtain ⟨⟨t232, t233⟩, A110, H⟩ := H
    replace H : (if t232 = 0 then (some ((⟨#[]⟩ : ByteArray), 0, true)) else (if a1 = true then (if 0 ≤ (wrap64 (t232 - 1)) then (if (wrap64 (t232 - 1)) < (a0.size : Int) then (charref_named.j1 kj3 a0 a2 t232 t233 ((bt a0 (wrap64 (t232 - 1))) != 59)) else (none)) else (none)) else (charref_named.j1 kj3 a0 a2 t232 t233 false))) = some (r1, r2, r3) := H
    have A11 := Aside0.mk A110
    clear A110
    by_cases c12 : t232 = 0
    ·rw [if_pos c12] at H
     have c12b0 : (t232 == 0) = true := beq_iff_eq.mpr c12
     have c12b1 : (t232 != 0) = false := bne_eq_false_iff_eq.mpr c12
     clear c12
     simp only [Option.some.injEq, Prod.mk.injEq] at H
     obtain ⟨rfl, rfl, rfl⟩ := H
     go_wp2_with (first | ((with_reducible refine gate_callee (f := 58) rfl ?_); refine goesL_ (some 18) rfl rfl Tryd.func58 (by kernel_rfl) rfl #[.string a0] rfl (by (try simp only [List.map_toArray, List.map_cons, List.map_nil]); first | done | rfl | (simp only [List.length_drop, List.length_take]; rfl) | (simp [*] <;> rfl)) ?_; (with_reducible refine (entity_Longest.calls kj3 a0 t232 t233 _ A11.out).mono ?_); rintro e w13 ⟨v234, rfl, ho0, hb⟩; refine ⟨_, rfl, ?_⟩; have n0_ := Aside0.mk (Kd.R_lower ho0 (below_size (by repeat (first | (with_reducible first | exact HB.out | apply below_alloc | apply pw_below_drewN | apply below_drew1 | refine below_set ?_ GE230.out) | exact HB.out)))); have n1_ := Aside0.mk (blk_below (g := gb230) (o := .cells #[.string (⟨#[]⟩ : ByteArray), .int .i64 0, .bool false] 38 (0, 0)) (by (with_reducible repeat (first | refine blk_drewN ?_ _ | refine blk_drew ?_ | refine blk_alloc ?_ _)); exact BK230.out) hb); have n2_ := Aside0.mk (below_step (by repeat (first | (with_reducible first | exact HB.out | apply below_alloc | apply pw_below_drewN | apply below_drew1 | refine below_set ?_ GE230.out) | exact HB.out)) hb); clear BK230; clear HB; have HO235 := n0_; have BK230 := n1_; have HB := n2_; clear n0_ n1_ n2_; (try clear hb); (try clear hb2); (try clear hk); (try clear hi); (try clear ho0); have hcz14_0 : w13.cell? ⟨gb230, 0, none⟩ = some (.string (⟨#[]⟩ : ByteArray)) := (blk_cell BK230.out 0).trans rfl; have hcz14_1 : w13.cell? ⟨gb230, 1, none⟩ = some (.int .i64 0) := (blk_cell BK230.out 1).trans rfl; have hcz14_2 : w13.cell? ⟨gb230, 2, none⟩ = some (.bool false) := (blk_cell BK230.out 2).trans rfl; have hfz14_0 := blk_frozen BK230.out 0; have hfz14_1 := blk_frozen BK230.out 1; have hfz14_2 := blk_frozen BK230.out 2))
     refine bodyPost_ret (results_cell_row rfl _ _ gb230 38 #[.string (⟨#[]⟩ : ByteArray), .int .i64 0, .bool true] (0, 0) _ rfl (by (with_reducible repeat (first | refine blk_drewN ?_ _ | refine blk_drew ?_ | refine blk_alloc ?_ _)); refine blk_put (cs := #[.string (⟨#[]⟩ : ByteArray), .int .i64 0, .bool false]) ?_ 2 _ rfl; (with_reducible repeat (first | refine blk_drewN ?_ _ | refine blk_drew ?_ | refine blk_alloc ?_ _)); refine blk_put (cs := #[.string (⟨#[]⟩ : ByteArray), .int .i64 0, .bool false]) ?_ 1 _ rfl; (with_reducible repeat (first | refine blk_drewN ?_ _ | refine blk_drew ?_ | refine blk_alloc ?_ _)); refine blk_put (cs := #[.string (⟨#[]⟩ : ByteArray), .int .i64 0, .bool false]) ?_ 0 _ rfl; (with_reducible repeat (first | refine blk_drewN ?_ _ | refine blk_drew ?_ | refine blk_alloc ?_ _)); exact BK230.out) Tryd.underlying38 rfl (by kernel_rfl)) rfl ?_
     exact ⟨by first | rfl | (simp [errW_none, errW_some] <;> rfl) | (simp [*, errW_none, errW_some] <;> rfl), by repeat (first | (with_reducible first | exact HB.out | apply below_alloc | apply pw_below_drewN | apply below_drew1 | refine below_set ?_ GE230.out) | exact HB.out)⟩
    ·rw [if_neg c12] at H
     have c12b0 : (t232 == 0) = false := beq_eq_false_iff_ne.mpr c12
     have c12b1 : (t232 != 0) = true := bne_iff_ne.mpr c12
     have HC15 := Aside0.mk H
     clear H
     go_upto_region 6 with (first | ((with_reducible refine gate_callee (f := 58) rfl ?_); refine goesL_ (some 18) rfl rfl Tryd.func58 (by kernel_rfl) rfl #[.string a0] rfl (by (try simp only [List.map_toArray, List.map_cons, List.map_nil]); first | done | rfl | (simp only [List.length_drop, List.length_take]; rfl) | (simp [*] <;> rfl)) ?_; (with_reducible refine (entity_Longest.calls kj3 a0 t232 t233 _ A11.out).mono ?_); rintro e w16 ⟨v234, rfl, ho0, hb⟩; refine ⟨_, rfl, ?_⟩; have n0_ := Aside0.mk (Kd.R_lower ho0 (below_size (by repeat (first | (with_reducible first | exact HB.out | apply below_alloc | apply pw_below_drewN | apply below_drew1 | refine below_set ?_ GE230.out) | exact HB.out)))); have n1_ := Aside0.mk (blk_below (g := gb230) (o := .cells #[.string (⟨#[]⟩ : ByteArray), .int .i64 0, .bool false] 38 (0, 0)) (by (with_reducible repeat (first | refine blk_drewN ?_ _ | refine blk_drew ?_ | refine blk_alloc ?_ _)); exact BK230.out) hb); have n2_ := Aside0.mk (below_step (by repeat (first | (with_reducible first | exact HB.out | apply below_alloc | apply pw_below_drewN | apply below_drew1 | refine below_set ?_ GE230.out) | exact HB.out)) hb); clear BK230; clear HB; have HO235 := n0_; have BK230 := n1_; have HB := n2_; clear n0_ n1_ n2_; (try clear hb); (try clear hb2); (try clear hk); (try clear hi); (try clear ho0)))
     (try simp only [Act.put, List.setIfInBounds_toArray, List.set_cons_zero, List.set_cons_succ])
     go_cut [31] (fun v31 wc => ∃ (kq : Nat) (x31_14 : Bool), v31 = .bool x31_14 ∧ Aside0 (charref_named.j1 kq a0 a2 t232 t233 x31_14 = some (r1, r2, r3)) ∧ Aside0 (kq ≤ kj3) ∧ Aside0 (Kd.R (Kd.int .i32) 21 wc w.heap.size (fun _ => True) v234 t233) ∧ Aside0 (wc.heap[gb230]? = some (.cells #[.string (⟨#[]⟩ : ByteArray), .int .i64 0, .bool false] 38 (0, 0))) ∧ Aside0 (Below w.heap.size w wc))
     case first =>
      have H := HC15.out
      clear HC15
      by_cases c17 : a1 = true
      ·subst c17
       have H1 : (if 0 ≤ (wrap64 (t232 - 1)) then (if (wrap64 (t232 - 1)) < (a0.size : Int) then (charref_named.j1 kj3 a0 a2 t232 t233 ((bt a0 (wrap64 (t232 - 1))) != 59)) else (none)) else (none)) = some (r1, r2, r3) := by rw [if_pos rfl] at H; exact H
       clear H
       have H := H1
       clear H1
       obtain ⟨ji18, hji18⟩ : ∃ j_ : Int, (wrap64 (t232 - 1)) = j_ := ⟨_, rfl⟩
       replace H : (if 0 ≤ (ji18) then (if (ji18) < (a0.size : Int) then (charref_named.j1 kj3 a0 a2 t232 t233 ((bt a0 (ji18)) != 59)) else (none)) else (none)) = some (r1, r2, r3) := by first | (rw [hji18] at H; exact H) | (simp only [hji18] at H ⊢; exact H)
       have hji18w : (IntKind.i64.wrap (t232 - 1)) = ji18 := (i64_w _).trans hji18
       by_cases c19 : 0 ≤ (ji18)
       ·rw [if_pos c19] at H
        have c19b0 : decide (0 ≤ (ji18)) = true := decide_eq_true c19
        clear c19
        (first | rw [c19b0] | (simp only [i64_w, i32_w]; rw [c19b0]) | skip)
        by_cases c20 : (ji18) < (a0.size : Int)
        ·rw [if_pos c20] at H
         have c20b0 : decide ((ji18) < (a0.size : Int)) = true := decide_eq_true c20
         clear c20
         have H' := Aside0.mk H
         clear H
         have p21 : 0 ≤ ((ji18) : Int) := of_decide_eq_true (by first | (with_reducible assumption) | assumption)
         have q21 : (ji18) < (a0.size : Int) := of_decide_eq_true (by first | (with_reducible assumption) | assumption)
         have hx21 := bt_at a0 (ji18)
         replace p21 := eq_true p21
         replace q21 := eq_true q21
         go_wp2
         go_meet
         case rel => exact ⟨_, (((bt a0 (ji18)) != 59)), (by first | rfl | (simp; done) | (simp only [← hji18] <;> (first | rfl | simp)) | (simp [*]; done)), H', ⟨by have := HJ3.out; first | omega | exact Nat.le_refl _⟩, ⟨by (with_reducible repeat (first | apply Kd.R_alloc | apply Kd.R_drewN | apply Kd.R_drew)); exact HO235.out⟩, ⟨by (with_reducible repeat (first | refine blk_drewN ?_ _ | refine blk_drew ?_ | refine blk_alloc ?_ _)); exact BK230.out⟩, ⟨by repeat (first | (with_reducible first | exact HB.out | apply below_alloc | apply pw_below_drewN | apply below_drew1 | refine below_set ?_ GE230.out) | exact HB.out)⟩⟩
        ·rw [if_neg c20] at H
         exact absurd H (by simp)
       ·rw [if_neg c19] at H
        exact absurd H (by simp)
      ·replace c17 := Bool.eq_false_iff.mpr c17
       subst c17
       have H1 : (charref_named.j1 kj3 a0 a2 t232 t233 false) = some (r1, r2, r3) := by rw [if_neg (show ¬ (false = true) by decide)] at H; exact H
       clear H
       have H := H1
       clear H1
       have H' := Aside0.mk H
       clear H
       go_wp2
       go_meet
       case rel => exact ⟨_, (false), (by first | rfl | (simp; done) | (simp [*]; done) | (unfold bt; split <;> first | rfl | (exfalso; simp_all; done) | (exfalso; simp_all; omega))), H', ⟨by have := HJ3.out; first | omega | exact Nat.le_refl _⟩, ⟨by (with_reducible repeat (first | apply Kd.R_alloc | apply Kd.R_drewN | apply Kd.R_drew)); exact HO235.out⟩, ⟨by (with_reducible repeat (first | refine blk_drewN ?_ _ | refine blk_drew ?_ | refine blk_alloc ?_ _)); exact BK230.out⟩, ⟨by repeat (first | (with_reducible first | exact HB.out | apply below_alloc | apply pw_below_drewN | apply below_drew1 | refine below_set ?_ GE230.out) | exact HB.out)⟩⟩
     case rest =>
      clear HC15
      try clear c1
      try clear c2
      try clear p2
      try clear q2
      try clear hx2
      try clear c4
      try clear c5
      try clear c6
      try clear p6
      try clear c9
      try clear c12
      try clear c12b0
      try clear c12b1
      try clear c17
      try clear c19
      try clear c19b0
      try clear c20
      try clear c20b0
      try clear p21
      try clear q21
      try clear hx21
      try clear hcz10_0
      try clear hcz10_1
      try clear hcz10_2
      try clear hcz14_0
      try clear hcz14_1
      try clear hcz14_2
      try clear hfz10_0
      try clear hfz10_1
      try clear hfz10_2
      try clear hfz14_0
      try clear hfz14_1
      try clear hfz14_2
      try clear p2
      try clear p21
      try clear q21
      obtain ⟨kq, x31_14, rfl, HA, HJ14, HO_8, BK230, HB⟩ := hcut
      cases kq with
      | zero => exact absurd HA.out (by simp [charref_named.j1])
      | succ kj14 =>
       have H := HA.out
       clear HA
       simp only [charref_named.j1] at H
       by_cases c22 : x31_14 = true
       ·subst c22
        have H1 : (if t232 = (a0.size : Int) then (if a2 = true then (some (Hc_text t233, t232, true)) else (some ((⟨#[]⟩ : ByteArray), 0, false))) else (if 0 ≤ t232 then (if t232 < (a0.size : Int) then ((charref_word.f (bt a0 t232)).bind fun t236 => (if t236 = true then (some ((⟨#[]⟩ : ByteArray), 0, true)) else (if (bt a0 t232) = 61 then (some ((⟨#[]⟩ : ByteArray), 0, true)) else (some (Hc_text t233, t232, true))))) else (none)) else (none))) = some (r1, r2, r3) := by rw [if_pos rfl] at H; exact H
        clear H
        have H := H1
        clear H1
        by_cases c23 : t232 = (a0.size : Int)
        ·rw [if_pos c23] at H
         have c23b0 : (t232 == (a0.size : Int)) = true := beq_iff_eq.mpr c23
         have c23b1 : (t232 != (a0.size : Int)) = false := bne_eq_false_iff_eq.mpr c23
         clear c23
         by_cases c24 : a2 = true
         ·subst c24
          have H1 : (some (Hc_text t233, t232, true)) = some (r1, r2, r3) := by rw [if_pos rfl] at H; exact H
          clear H
          have H := H1
          clear H1
          simp only [Option.some.injEq, Prod.mk.injEq] at H
          obtain ⟨rfl, rfl, rfl⟩ := H
          have hcv25 := Hc_own_runes (P := Tryd.prog) Tryd.underlying44 Tryd.underlying21 Tryd.underlying9 (Kd.own_of_R HO_8.out)
          have hcz26_0 : wc.cell? ⟨gb230, 0, none⟩ = some (.string (⟨#[]⟩ : ByteArray)) := (blk_cell BK230.out 0).trans rfl
          have hcz26_1 : wc.cell? ⟨gb230, 1, none⟩ = some (.int .i64 0) := (blk_cell BK230.out 1).trans rfl
          have hcz26_2 : wc.cell? ⟨gb230, 2, none⟩ = some (.bool false) := (blk_cell BK230.out 2).trans rfl
          have hfz26_0 := blk_frozen BK230.out 0
          have hfz26_1 := blk_frozen BK230.out 1
          have hfz26_2 := blk_frozen BK230.out 2
          go_wp2
          refine bodyPost_ret (results_cell_row rfl _ _ gb230 38 #[.string (Hc_text t233), .int .i64 t232, .bool true] (0, 0) _ rfl (by (with_reducible repeat (first | refine blk_drewN ?_ _ | refine blk_drew ?_ | refine blk_alloc ?_ _)); refine blk_put (cs := #[.string (Hc_text t233), .int .i64 t232, .bool false]) ?_ 2 _ rfl; (with_reducible repeat (first | refine blk_drewN ?_ _ | refine blk_drew ?_ | refine blk_alloc ?_ _)); refine blk_put (cs := #[.string (Hc_text t233), .int .i64 0, .bool false]) ?_ 1 _ rfl; (with_reducible repeat (first | refine blk_drewN ?_ _ | refine blk_drew ?_ | refine blk_alloc ?_ _)); refine blk_put (cs := #[.string (⟨#[]⟩ : ByteArray), .int .i64 0, .bool false]) ?_ 0 _ rfl; (with_reducible repeat (first | refine blk_drewN ?_ _ | refine blk_drew ?_ | refine blk_alloc ?_ _)); exact BK230.out) Tryd.underlying38 rfl (by kernel_rfl)) rfl ?_
          exact ⟨by first | rfl | (simp [errW_none, errW_some] <;> rfl) | (simp [*, errW_none, errW_some] <;> rfl), by repeat (first | (with_reducible first | exact HB.out | apply below_alloc | apply pw_below_drewN | apply below_drew1 | refine below_set ?_ GE230.out) | exact HB.out)⟩
         ·replace c24 := Bool.eq_false_iff.mpr c24
          subst c24
          have H1 : (some ((⟨#[]⟩ : ByteArray), 0, false)) = some (r1, r2, r3) := by rw [if_neg (show ¬ (false = true) by decide)] at H; exact H
          clear H
          have H := H1
          clear H1
          simp only [Option.some.injEq, Prod.mk.injEq] at H
          obtain ⟨rfl, rfl, rfl⟩ := H
          have hcz27_0 : wc.cell? ⟨gb230, 0, none⟩ = some (.string (⟨#[]⟩ : ByteArray)) := (blk_cell BK230.out 0).trans rfl
          have hcz27_1 : wc.cell? ⟨gb230, 1, none⟩ = some (.int .i64 0) := (blk_cell BK230.out 1).trans rfl
          have hcz27_2 : wc.cell? ⟨gb230, 2, none⟩ = some (.bool false) := (blk_cell BK230.out 2).trans rfl
          have hfz27_0 := blk_frozen BK230.out 0
          have hfz27_1 := blk_frozen BK230.out 1
          have hfz27_2 := blk_frozen BK230.out 2
          go_wp2
          refine bodyPost_ret (results_cell_row rfl _ _ gb230 38 #[.string (⟨#[]⟩ : ByteArray), .int .i64 0, .bool false] (0, 0) _ rfl (by (with_reducible repeat (first | refine blk_drewN ?_ _ | refine blk_drew ?_ | refine blk_alloc ?_ _)); refine blk_put (cs := #[.string (⟨#[]⟩ : ByteArray), .int .i64 0, .bool false]) ?_ 2 _ rfl; (with_reducible repeat (first | refine blk_drewN ?_ _ | refine blk_drew ?_ | refine blk_alloc ?_ _)); refine blk_put (cs := #[.string (⟨#[]⟩ : ByteArray), .int .i64 0, .bool false]) ?_ 1 _ rfl; (with_reducible repeat (first | refine blk_drewN ?_ _ | refine blk_drew ?_ | refine blk_alloc ?_ _)); refine blk_put (cs := #[.string (⟨#[]⟩ : ByteArray), .int .i64 0, .bool false]) ?_ 0 _ rfl; (with_reducible repeat (first | refine blk_drewN ?_ _ | refine blk_drew ?_ | refine blk_alloc ?_ _)); exact BK230.out) Tryd.underlying38 rfl (by kernel_rfl)) rfl ?_
          exact ⟨by first | rfl | (simp [errW_none, errW_some] <;> rfl) | (simp [*, errW_none, errW_some] <;> rfl), by repeat (first | (with_reducible first | exact HB.out | apply below_alloc | apply pw_below_drewN | apply below_drew1 | refine below_set ?_ GE230.out) | exact HB.out)⟩
        ·rw [if_neg c23] at H
         have c23b0 : (t232 == (a0.size : Int)) = false := beq_eq_false_iff_ne.mpr c23
         have c23b1 : (t232 != (a0.size : Int)) = true := bne_iff_ne.mpr c23
         by_cases c28 : 0 ≤ t232
         ·rw [if_pos c28] at H
          have c28b0 : decide (0 ≤ t232) = true := decide_eq_true c28
          clear c28
          by_cases c29 : t232 < (a0.size : Int)
          ·rw [if_pos c29] at H
           have c29b0 : decide (t232 < (a0.size : Int)) = true := decide_eq_true c29
           clear c29
           replace H := Option.bind_eq_some_iff.mp H
           obtain ⟨t236, A310, H⟩ := H
           replace H : (if t236 = true then (some ((⟨#[]⟩ : ByteArray), 0, true)) else (if (bt a0 t232) = 61 then (some ((⟨#[]⟩ : ByteArray), 0, true)) else (some (Hc_text t233, t232, true)))) = some (r1, r2, r3) := H
           have A31 := Aside0.mk A310
           clear A310
           by_cases c32 : t236 = true
           ·subst c32
            have H1 : (some ((⟨#[]⟩ : ByteArray), 0, true)) = some (r1, r2, r3) := by rw [if_pos rfl] at H; exact H
            clear H
            have H := H1
            clear H1
            simp only [Option.some.injEq, Prod.mk.injEq] at H
            obtain ⟨rfl, rfl, rfl⟩ := H
            have p30 : 0 ≤ (t232 : Int) := of_decide_eq_true (by first | (with_reducible assumption) | assumption)
            have q30 : t232 < (a0.size : Int) := of_decide_eq_true (by first | (with_reducible assumption) | assumption)
            have hx30 := bt_at a0 t232
            replace p30 := eq_true p30
            replace q30 := eq_true q30
            go_wp2_with (first | ((with_reducible refine gate_callee (f := 59) rfl ?_); refine goesL_ (some 42) rfl rfl Tryd.func59 (by kernel_rfl) rfl #[.int .u8 (bt a0 t232)] rfl (by (try simp only [List.map_toArray, List.map_cons, List.map_nil]); first | done | rfl | (simp only [List.length_drop, List.length_take]; rfl) | (simp [*] <;> rfl)) ?_; (with_reducible refine (charref_word.calls (bt a0 t232) true _ A31.out).mono ?_); rintro e w' ⟨rfl, ⟨nd, rfl⟩⟩; refine ⟨_, rfl, ?_⟩; (try (rw [drewN_self wc]; generalize hq_ : World.drewN wc _ = wc; have n0_ : Aside0 (Kd.R (Kd.int .i32) 21 wc w.heap.size (fun _ => True) v234 t233) := ⟨by rw [← hq_]; exact (by (with_reducible repeat (first | apply Kd.R_alloc | apply Kd.R_drewN | apply Kd.R_drew)); exact HO_8.out)⟩; have n1_ : Aside0 (wc.heap[gb230]? = some (.cells #[.string (⟨#[]⟩ : ByteArray), .int .i64 0, .bool false] 38 (0, 0))) := ⟨by rw [← hq_]; exact (by (with_reducible repeat (first | refine blk_drewN ?_ _ | refine blk_drew ?_ | refine blk_alloc ?_ _)); exact BK230.out)⟩; have n2_ : Aside0 (Below w.heap.size w wc) := ⟨by rw [← hq_]; exact (by repeat (first | (with_reducible first | exact HB.out | apply below_alloc | apply pw_below_drewN | apply below_drew1 | refine below_set ?_ GE230.out) | exact HB.out))⟩; clear HO_8 BK230 HB hq_; have HO_8 := n0_; have BK230 := n1_; have HB := n2_; clear n0_ n1_ n2_)); have hcz33_0 : wc.cell? ⟨gb230, 0, none⟩ = some (.string (⟨#[]⟩ : ByteArray)) := (blk_cell BK230.out 0).trans rfl; have hcz33_1 : wc.cell? ⟨gb230, 1, none⟩ = some (.int .i64 0) := (blk_cell BK230.out 1).trans rfl; have hcz33_2 : wc.cell? ⟨gb230, 2, none⟩ = some (.bool false) := (blk_cell BK230.out 2).trans rfl; have hfz33_0 := blk_frozen BK230.out 0; have hfz33_1 := blk_frozen BK230.out 1; have hfz33_2 := blk_frozen BK230.out 2))
            refine bodyPost_ret (results_cell_row rfl _ _ gb230 38 #[.string (⟨#[]⟩ : ByteArray), .int .i64 0, .bool true] (0, 0) _ rfl (by (with_reducible repeat (first | refine blk_drewN ?_ _ | refine blk_drew ?_ | refine blk_alloc ?_ _)); refine blk_put (cs := #[.string (⟨#[]⟩ : ByteArray), .int .i64 0, .bool false]) ?_ 2 _ rfl; (with_reducible repeat (first | refine blk_drewN ?_ _ | refine blk_drew ?_ | refine blk_alloc ?_ _)); refine blk_put (cs := #[.string (⟨#[]⟩ : ByteArray), .int .i64 0, .bool false]) ?_ 1 _ rfl; (with_reducible repeat (first | refine blk_drewN ?_ _ | refine blk_drew ?_ | refine blk_alloc ?_ _)); refine blk_put (cs := #[.string (⟨#[]⟩ : ByteArray), .int .i64 0, .bool false]) ?_ 0 _ rfl; (with_reducible repeat (first | refine blk_drewN ?_ _ | refine blk_drew ?_ | refine blk_alloc ?_ _)); exact BK230.out) Tryd.underlying38 rfl (by kernel_rfl)) rfl ?_
            exact ⟨by first | rfl | (simp [errW_none, errW_some] <;> rfl) | (simp [*, errW_none, errW_some] <;> rfl), by repeat (first | (with_reducible first | exact HB.out | apply below_alloc | apply pw_below_drewN | apply below_drew1 | refine below_set ?_ GE230.out) | exact HB.out)⟩
           ·replace c32 := Bool.eq_false_iff.mpr c32
            subst c32
            have H1 : (if (bt a0 t232) = 61 then (some ((⟨#[]⟩ : ByteArray), 0, true)) else (some (Hc_text t233, t232, true))) = some (r1, r2, r3) := by rw [if_neg (show ¬ (false = true) by decide)] at H; exact H
            clear H
            have H := H1
            clear H1
            by_cases c35 : (bt a0 t232) = 61
            ·rw [if_pos c35] at H
             have c35b0 : ((bt a0 t232) == 61) = true := beq_iff_eq.mpr c35
             have c35b1 : ((bt a0 t232) != 61) = false := bne_eq_false_iff_eq.mpr c35
             clear c35
             simp only [Option.some.injEq, Prod.mk.injEq] at H
             obtain ⟨rfl, rfl, rfl⟩ := H
             have p30 : 0 ≤ (t232 : Int) := of_decide_eq_true (by first | (with_reducible assumption) | assumption)
             have q30 : t232 < (a0.size : Int) := of_decide_eq_true (by first | (with_reducible assumption) | assumption)
             have hx30 := bt_at a0 t232
             replace p30 := eq_true p30
             replace q30 := eq_true q30
             go_wp2_with (first | ((with_reducible refine gate_callee (f := 59) rfl ?_); refine goesL_ (some 42) rfl rfl Tryd.func59 (by kernel_rfl) rfl #[.int .u8 (bt a0 t232)] rfl (by (try simp only [List.map_toArray, List.map_cons, List.map_nil]); first | done | rfl | (simp only [List.length_drop, List.length_take]; rfl) | (simp [*] <;> rfl)) ?_; (with_reducible refine (charref_word.calls (bt a0 t232) false _ A31.out).mono ?_); rintro e w' ⟨rfl, ⟨nd, rfl⟩⟩; refine ⟨_, rfl, ?_⟩; (try (rw [drewN_self wc]; generalize hq_ : World.drewN wc _ = wc; have n0_ : Aside0 (Kd.R (Kd.int .i32) 21 wc w.heap.size (fun _ => True) v234 t233) := ⟨by rw [← hq_]; exact (by (with_reducible repeat (first | apply Kd.R_alloc | apply Kd.R_drewN | apply Kd.R_drew)); exact HO_8.out)⟩; have n1_ : Aside0 (wc.heap[gb230]? = some (.cells #[.string (⟨#[]⟩ : ByteArray), .int .i64 0, .bool false] 38 (0, 0))) := ⟨by rw [← hq_]; exact (by (with_reducible repeat (first | refine blk_drewN ?_ _ | refine blk_drew ?_ | refine blk_alloc ?_ _)); exact BK230.out)⟩; have n2_ : Aside0 (Below w.heap.size w wc) := ⟨by rw [← hq_]; exact (by repeat (first | (with_reducible first | exact HB.out | apply below_alloc | apply pw_below_drewN | apply below_drew1 | refine below_set ?_ GE230.out) | exact HB.out))⟩; clear HO_8 BK230 HB hq_; have HO_8 := n0_; have BK230 := n1_; have HB := n2_; clear n0_ n1_ n2_)); have p34 : 0 ≤ (t232 : Int) := of_decide_eq_true (by first | (with_reducible assumption) | assumption); have q34 : t232 < (a0.size : Int) := of_decide_eq_true (by first | (with_reducible assumption) | assumption); have hx34 := bt_at a0 t232; replace p34 := eq_true p34; replace q34 := eq_true q34; have hcz36_0 : wc.cell? ⟨gb230, 0, none⟩ = some (.string (⟨#[]⟩ : ByteArray)) := (blk_cell BK230.out 0).trans rfl; have hcz36_1 : wc.cell? ⟨gb230, 1, none⟩ = some (.int .i64 0) := (blk_cell BK230.out 1).trans rfl; have hcz36_2 : wc.cell? ⟨gb230, 2, none⟩ = some (.bool false) := (blk_cell BK230.out 2).trans rfl; have hfz36_0 := blk_frozen BK230.out 0; have hfz36_1 := blk_frozen BK230.out 1; have hfz36_2 := blk_frozen BK230.out 2))
             refine bodyPost_ret (results_cell_row rfl _ _ gb230 38 #[.string (⟨#[]⟩ : ByteArray), .int .i64 0, .bool true] (0, 0) _ rfl (by (with_reducible repeat (first | refine blk_drewN ?_ _ | refine blk_drew ?_ | refine blk_alloc ?_ _)); refine blk_put (cs := #[.string (⟨#[]⟩ : ByteArray), .int .i64 0, .bool false]) ?_ 2 _ rfl; (with_reducible repeat (first | refine blk_drewN ?_ _ | refine blk_drew ?_ | refine blk_alloc ?_ _)); refine blk_put (cs := #[.string (⟨#[]⟩ : ByteArray), .int .i64 0, .bool false]) ?_ 1 _ rfl; (with_reducible repeat (first | refine blk_drewN ?_ _ | refine blk_drew ?_ | refine blk_alloc ?_ _)); refine blk_put (cs := #[.string (⟨#[]⟩ : ByteArray), .int .i64 0, .bool false]) ?_ 0 _ rfl; (with_reducible repeat (first | refine blk_drewN ?_ _ | refine blk_drew ?_ | refine blk_alloc ?_ _)); exact BK230.out) Tryd.underlying38 rfl (by kernel_rfl)) rfl ?_
             exact ⟨by first | rfl | (simp [errW_none, errW_some] <;> rfl) | (simp [*, errW_none, errW_some] <;> rfl), by repeat (first | (with_reducible first | exact HB.out | apply below_alloc | apply pw_below_drewN | apply below_drew1 | refine below_set ?_ GE230.out) | exact HB.out)⟩
            ·rw [if_neg c35] at H
             have c35b0 : ((bt a0 t232) == 61) = false := beq_eq_false_iff_ne.mpr c35
             have c35b1 : ((bt a0 t232) != 61) = true := bne_iff_ne.mpr c35
             simp only [Option.some.injEq, Prod.mk.injEq] at H
             obtain ⟨rfl, rfl, rfl⟩ := H
             have p30 : 0 ≤ (t232 : Int) := of_decide_eq_true (by first | (with_reducible assumption) | assumption)
             have q30 : t232 < (a0.size : Int) := of_decide_eq_true (by first | (with_reducible assumption) | assumption)
             have hx30 := bt_at a0 t232
             replace p30 := eq_true p30
             replace q30 := eq_true q30
             go_wp2_with (first | ((with_reducible refine gate_callee (f := 59) rfl ?_); refine goesL_ (some 42) rfl rfl Tryd.func59 (by kernel_rfl) rfl #[.int .u8 (bt a0 t232)] rfl (by (try simp only [List.map_toArray, List.map_cons, List.map_nil]); first | done | rfl | (simp only [List.length_drop, List.length_take]; rfl) | (simp [*] <;> rfl)) ?_; (with_reducible refine (charref_word.calls (bt a0 t232) false _ A31.out).mono ?_); rintro e w' ⟨rfl, ⟨nd, rfl⟩⟩; refine ⟨_, rfl, ?_⟩; (try (rw [drewN_self wc]; generalize hq_ : World.drewN wc _ = wc; have n0_ : Aside0 (Kd.R (Kd.int .i32) 21 wc w.heap.size (fun _ => True) v234 t233) := ⟨by rw [← hq_]; exact (by (with_reducible repeat (first | apply Kd.R_alloc | apply Kd.R_drewN | apply Kd.R_drew)); exact HO_8.out)⟩; have n1_ : Aside0 (wc.heap[gb230]? = some (.cells #[.string (⟨#[]⟩ : ByteArray), .int .i64 0, .bool false] 38 (0, 0))) := ⟨by rw [← hq_]; exact (by (with_reducible repeat (first | refine blk_drewN ?_ _ | refine blk_drew ?_ | refine blk_alloc ?_ _)); exact BK230.out)⟩; have n2_ : Aside0 (Below w.heap.size w wc) := ⟨by rw [← hq_]; exact (by repeat (first | (with_reducible first | exact HB.out | apply below_alloc | apply pw_below_drewN | apply below_drew1 | refine below_set ?_ GE230.out) | exact HB.out))⟩; clear HO_8 BK230 HB hq_; have HO_8 := n0_; have BK230 := n1_; have HB := n2_; clear n0_ n1_ n2_)); have p34 : 0 ≤ (t232 : Int) := of_decide_eq_true (by first | (with_reducible assumption) | assumption); have q34 : t232 < (a0.size : Int) := of_decide_eq_true (by first | (with_reducible assumption) | assumption); have hx34 := bt_at a0 t232; replace p34 := eq_true p34; replace q34 := eq_true q34; have hcv37 := Hc_own_runes (P := Tryd.prog) Tryd.underlying44 Tryd.underlying21 Tryd.underlying9 (Kd.own_of_R HO_8.out); have hcz38_0 : wc.cell? ⟨gb230, 0, none⟩ = some (.string (⟨#[]⟩ : ByteArray)) := (blk_cell BK230.out 0).trans rfl; have hcz38_1 : wc.cell? ⟨gb230, 1, none⟩ = some (.int .i64 0) := (blk_cell BK230.out 1).trans rfl; have hcz38_2 : wc.cell? ⟨gb230, 2, none⟩ = some (.bool false) := (blk_cell BK230.out 2).trans rfl; have hfz38_0 := blk_frozen BK230.out 0; have hfz38_1 := blk_frozen BK230.out 1; have hfz38_2 := blk_frozen BK230.out 2))
             refine bodyPost_ret (results_cell_row rfl _ _ gb230 38 #[.string (Hc_text t233), .int .i64 t232, .bool true] (0, 0) _ rfl (by (with_reducible repeat (first | refine blk_drewN ?_ _ | refine blk_drew ?_ | refine blk_alloc ?_ _)); refine blk_put (cs := #[.string (Hc_text t233), .int .i64 t232, .bool false]) ?_ 2 _ rfl; (with_reducible repeat (first | refine blk_drewN ?_ _ | refine blk_drew ?_ | refine blk_alloc ?_ _)); refine blk_put (cs := #[.string (Hc_text t233), .int .i64 0, .bool false]) ?_ 1 _ rfl; (with_reducible repeat (first | refine blk_drewN ?_ _ | refine blk_drew ?_ | refine blk_alloc ?_ _)); refine blk_put (cs := #[.string (⟨#[]⟩ : ByteArray), .int .i64 0, .bool false]) ?_ 0 _ rfl; (with_reducible repeat (first | refine blk_drewN ?_ _ | refine blk_drew ?_ | refine blk_alloc ?_ _)); exact BK230.out) Tryd.underlying38 rfl (by kernel_rfl)) rfl ?_
             exact ⟨by first | rfl | (simp [errW_none, errW_some] <;> rfl) | (simp [*, errW_none, errW_some] <;> rfl), by repeat (first | (with_reducible first | exact HB.out | apply below_alloc | apply pw_below_drewN | apply below_drew1 | refine below_set ?_ GE230.out) | exact HB.out)⟩
          ·rw [if_neg c29] at H
           exact absurd H (by simp)
         ·rw [if_neg c28] at H
          exact absurd H (by simp)
       ·replace c22 := Bool.eq_false_iff.mpr c22
        subst c22
        have H1 : (some (Hc_text t233, t232, true)) = some (r1, r2, r3) := by rw [if_neg (show ¬ (false = true) by decide)] at H; exact H
        clear H
        have H := H1
        clear H1
        simp only [Option.some.injEq, Prod.mk.injEq] at H
        obtain ⟨rfl, rfl, rfl⟩ := H
        have hcv39 := Hc_own_runes (P := Tryd.prog) Tryd.underlying44 Tryd.underlying21 Tryd.underlying9 (Kd.own_of_R HO_8.out)
        have hcz40_0 : wc.cell? ⟨gb230, 0, none⟩ = some (.string (⟨#[]⟩ : ByteArray)) := (blk_cell BK230.out 0).trans rfl
        have hcz40_1 : wc.cell? ⟨gb230, 1, none⟩ = some (.int .i64 0) := (blk_cell BK230.out 1).trans rfl
        have hcz40_2 : wc.cell? ⟨gb230, 2, none⟩ = some (.bool false) := (blk_cell BK230.out 2).trans rfl
        have hfz40_0 := blk_frozen BK230.out 0
        have hfz40_1 := blk_frozen BK230.out 1
        have hfz40_2 := blk_frozen BK230.out 2
        go_wp2
        refine bodyPost_ret (results_cell_row rfl _ _ gb230 38 #[.string (Hc_text t233), .int .i64 t232, .bool true] (0, 0) _ rfl (by (with_reducible repeat (first | refine blk_drewN ?_ _ | refine blk_drew ?_ | refine blk_alloc ?_ _)); refine blk_put (cs := #[.string (Hc_text t233), .int .i64 t232, .bool false]) ?_ 2 _ rfl; (with_reducible repeat (first | refine blk_drewN ?_ _ | refine blk_drew ?_ | refine blk_alloc ?_ _)); refine blk_put (cs := #[.string (Hc_text t233), .int .i64 0, .bool false]) ?_ 1 _ rfl; (with_reducible repeat (first | refine blk_drewN ?_ _ | refine blk_drew ?_ | refine blk_alloc ?_ _)); refine blk_put (cs := #[.string (⟨#[]⟩ : ByteArray), .int .i64 0, .bool false]) ?_ 0 _ rfl; (with_reducible repeat (first | refine blk_drewN ?_ _ | refine blk_drew ?_ | refine blk_alloc ?_ _)); exact BK230.out) Tryd.underlying38 rfl (by kernel_rfl)) rfl ?_
        exact ⟨by first | rfl | (simp [errW_none, errW_some] <;> rfl) | (simp [*, errW_none, errW_some] <;> rfl), by repeat (first | (with_reducible first | exact HB.out | apply below_alloc | apply pw_below_drewN | apply below_drew1 | refine below_set ?_ GE230.out) | exact HB.out)⟩

-- NOT PRINTED: function 31 (entity_Name)

-- NOT PRINTED: function 15 (charref_Ascii)

end Go.Proofs.YthmbbkbmlnaghaaDoor.P
end
section
/-
  charref.numeric: what a numeric reference says: a label and a goto.
-/
namespace Go.Proofs.YthmbbkbmlnaghaaDoor.P
open Go.RowKit Go.Proofs.YthmbbkbmlnaghaaDoorW.PrintWords Go.Proofs.YthmbbkbmlnaghaaDoorW.PrintLast Go.Proofs.YthmbbkbmlnaghaaDoorW.PrintMore
set_option linter.unusedVariables false
set_option linter.unusedSimpArgs false

/-! ### plain -/
def digV (b : Nat) : Int := if 48 ≤ b ∧ b ≤ 57 then (b : Int) - 48 else if 97 ≤ b ∧ b ≤ 102 then (b : Int) - 87 else if 65 ≤ b ∧ b ≤ 70 then (b : Int) - 55 else -1
theorem digV_all : ∀ b : Fin 256, names_Value.f 9 (wrap32 ((b.val : Nat) : Int)) = some (digV b.val) := by decide +kernel
/-- is a byte a digit of a number? -/
def isDig (hex : Bool) (b : UInt8) : Bool := decide (0 ≤ digV b.toNat) && (hex || decide (digV b.toNat < 10))
/-- how many digits stand at the head -/
def nDig (hex : Bool) : List UInt8 → Nat
  | [] => 0
  | b :: t => if isDig hex b = true then nDig hex t + 1 else 0
theorem nDig_le (hex : Bool) : ∀ l : List UInt8, nDig hex l ≤ l.length
  | [] => Nat.le_refl _
  | b :: t => by
    unfold nDig
    have := nDig_le hex t
    split <;> simp only [List.length_cons] <;> omega
def numHex (s : ByteArray) : Bool := (bt s 1 == 120) || (bt s 1 == 88)
def numFrom (s : ByteArray) : Nat := if numHex s = true then 2 else 1
def numAt (s : ByteArray) : Nat := numFrom s + nDig (numHex s) (s.data.toList.drop (numFrom s))

def charref_numeric.f (k : Nat) (s : ByteArray) (e : Bool) : Option (ByteArray × Int × Bool) :=
  if s.size ≤ 35184372088831 ∧ 1 ≤ s.size then
    (if s.size = 1 then some ((⟨#[]⟩ : ByteArray), 0, e)
     else if numAt s = s.size ∧ e = false then some ((⟨#[]⟩ : ByteArray), 0, false)
     else if numAt s = numFrom s then some ((⟨#[]⟩ : ByteArray), 0, true)
     else (charref_Number.f k (s.extract (numFrom s) (numAt s)) (numHex s)).bind fun n =>
       some (Utf8.encode n.1, ((if numAt s < s.size ∧ bt s (numAt s : Nat) = 59 then numAt s + 1 else numAt s : Nat) : Int), true))
  else none
theorem charref_numeric.mono : ∀ s e k, LeO (charref_numeric.f k s e) (charref_numeric.f (k + 1) s e) := by
  intro s e k
  unfold charref_numeric.f
  repeat' first
      | (with_reducible exact charref_Number.mono _ _ _)
      | (with_reducible exact LeO.refl _)
      | (with_reducible exact LeO.none _)
      | (with_reducible refine LeO.ite ?_ ?_)
      | (with_reducible refine LeO.bind ?_ (fun _ => ?_))

theorem nDig_at (s : ByteArray) (hex : Bool) (p : Nat) (h : p < s.size) :
    p + nDig hex (s.data.toList.drop p) = if isDig hex (s.data.toList.getD p 0) = true then (p + 1) + nDig hex (s.data.toList.drop (p + 1)) else p := by
  have hl : p < s.data.toList.length := by simpa using h
  rw [List.drop_eq_getElem_cons hl]
  have : s.data.toList.getD p 0 = s.data.toList[p] := by rw [List.getD_eq_getElem?_getD, List.getElem?_eq_getElem hl]; rfl
  rw [this]
  show p + (if isDig hex s.data.toList[p] = true then nDig hex (s.data.toList.drop (p + 1)) + 1 else 0) = _
  split <;> omega
theorem bt_list (s : ByteArray) (p : Nat) (h : p < s.size) : bt s (p : Int) = ((s.data.toList.getD p 0).toNat : Int) := by
  have hl : p < s.data.toList.length := by simpa using h
  have : s.data.toList.getD p 0 = s.data.toList[p] := by rw [List.getD_eq_getElem?_getD, List.getElem?_eq_getElem hl]; rfl
  rw [this]
  unfold bt
  simp only [Int.toNat_natCast]
  rw [dif_pos h]
  rfl

/-! ### the walk -/
theorem scope_pass {P : Program} {a : Act} {w : World} {Q : Exit → Act → World → Prop} {c rest : Code} (l : Nat) (J : Act → World → Prop) (μ : Act → World → Nat) (hf : findLabel c l = some (Code.skip.seq rest))
    (pass : ∀ a w, J a w → rest.wp P (Exit.jump l (fun a' w' => J a' w' ∧ μ a' w' < μ a w) Q) a w)
    (first : (∀ a w, J a w → rest.wp P (Exit.jump l J Q) a w) → c.wp P (Exit.jump l J Q) a w) : (Code.scope c).wp P Q a w := by
  refine wp_scope_jumps l J μ hf (first fun a w hJ => wp_mono (pass a w hJ) ?_) (fun a w hJ => wp_seq (wp_skip (pass a w hJ)))
  intro e a' w' h
  cases e <;> first | exact h | exact ⟨h.1, h.2.1⟩
def numF (s : ByteArray) (e : Bool) (gb : Nat) (hex : Bool) (q : Nat) (u : Nat → Value) (p : Nat) : Act := { tmps := List.toArray (.string s :: .bool e :: u 2 :: u 3 :: .pointer (some ⟨gb, 0, none⟩) :: .int .i64 (p : Nat) :: .bool hex :: .int .i64 (q : Nat) :: u 8 :: u 9 :: u 10 :: u 11 :: u 12 :: u 13 :: u 14 :: u 15 :: u 16 :: u 17 :: u 18 :: u 19 :: u 20 :: u 21 :: u 22 :: u 23 :: u 24 :: u 25 :: u 26 :: u 27 :: u 28 :: u 29 :: u 30 :: u 31 :: u 32 :: u 33 :: u 34 :: u 35 :: u 36 :: u 37 :: u 38 :: u 39 :: u 40 :: u 41 :: u 42 :: u 43 :: u 44 :: u 45 :: u 46 :: u 47 :: u 48 :: u 49 :: u 50 :: u 51 :: u 52 :: u 53 :: u 54 :: u 55 :: u 56 :: u 57 :: u 58 :: u 59 :: u 60 :: u 61 :: u 62 :: u 63 :: u 64 :: u 65 :: u 66 :: u 67 :: u 68 :: u 69 :: u 70 :: u 71 :: u 72 :: u 73 :: u 74 :: u 75 :: u 76 :: u 77 :: u 78 :: u 79 :: u 80 :: u 81 :: u 82 :: u 83 :: u 84 :: u 85 :: u 86 :: u 87 :: []), defers := [] }
def numJ (s : ByteArray) (e : Bool) (gb : Nat) (w : World) (a : Act) (W : World) : Prop :=
  ∃ (p : Nat) (u : Nat → Value), a = numF s e gb (numHex s) (numFrom s) u p ∧ Aside0 (p ≤ s.size ∧ s.size ≠ 1) ∧ Aside0 (p + nDig (numHex s) (s.data.toList.drop p) = numAt s) ∧
    Aside0 (W.heap[gb]? = some (.cells #[.string (⟨#[]⟩ : ByteArray), .int .i64 0, .bool false] 38 (0, 0))) ∧ Aside0 (Below w.heap.size w W)
theorem numJ_of {s : ByteArray} {e : Bool} {gb : Nat} {w : World} {a : Act} {W : World} (p : Nat) (h : a = numF s e gb (numHex s) (numFrom s) (fun i => a.tmps.getD i undef) p) (h1 : p ≤ s.size ∧ s.size ≠ 1) (h2 : p + nDig (numHex s) (s.data.toList.drop p) = numAt s)
    (h3 : W.heap[gb]? = some (.cells #[.string (⟨#[]⟩ : ByteArray), .int .i64 0, .bool false] 38 (0, 0))) (h4 : Below w.heap.size w W) : numJ s e gb w a W :=
  ⟨p, _, h, ⟨h1⟩, ⟨h2⟩, ⟨h3⟩, ⟨h4⟩⟩
set_option maxRecDepth 100000 in
set_option maxHeartbeats 8000000 in
theorem charref_numeric.calls (k : Nat) (s : ByteArray) (e : Bool) (r1 : ByteArray) (r2 : Int) (r3 : Bool) (w : World) (h : charref_numeric.f k s e = some (r1, r2, r3)) :
    Calls Tryd.prog 40 #[.string s, .bool e] w fun e w' => e = .returned (.agg #[.string r1, .int .i64 r2, .bool r3]) ∧ Below w.heap.size w w' := by
  unfold charref_numeric.f at h
  by_cases hsz : s.size ≤ 35184372088831 ∧ 1 ≤ s.size
  case neg => rw [if_neg hsz] at h; cases h
  rw [if_pos hsz] at h
  obtain ⟨hs1, hs2⟩ := hsz
  have HH := Aside0.mk h
  clear h
  have hu60 := Tryd.underlying38
  have HB := Aside0.mk (Below.refl w.heap.size w)
  go_enter Tryd.func40, Tryd.ntmps40
  go_wp2_with (first | ((with_reducible refine gate_dst (N := 4) rfl ?_); refine box_event ?hg (N := 4) ?hd (cs := #[.string (⟨#[]⟩ : ByteArray), .int .i64 0, .bool false]) (t := 38) ?hr ?_; (case hd => rfl); (case hg => rfl); (case hr => first | (go_simp; done) | (go_simp; rfl)); intro gb hg w5 hbox hb; have n0_ := Aside0.mk (below_step (by repeat (first | (with_reducible first | exact HB.out | apply below_alloc | apply pw_below_drewN | apply below_drew1) | exact HB.out)) hb); have n1_ := Aside0.mk (hbox); have n2_ := Aside0.mk ((by rw [hg]; exact (below_size (by repeat (first | (with_reducible first | exact HB.out | apply below_alloc | apply pw_below_drewN | apply below_drew1) | exact HB.out))) : w.heap.size ≤ gb)); clear HB; have HB := n0_; have BK := n1_; have GW := n2_; clear n0_ n1_ n2_; clear hb hbox hg))
  refine scope_pass 0 (numJ s e gb w) (fun a _ => s.size - (intOf (a.tmps.getD 5 undef)).toNat) rfl ?pass ?first
  case pass =>
    rintro a W ⟨p, u, rfl, hp, hnd, BK', HB'⟩
    unfold numF
    refine wp_seq_k ?_
    intro K hK
    cases hh : numHex s with
    | true =>
      have HX := Aside0.mk hh
      clear hh
      go_cut [5] (fun v5 wc => v5 = .int .i64 (p : Nat) ∧ Aside0 (p = numAt s) ∧ Aside0 (wc.heap[gb]? = some (.cells #[.string (⟨#[]⟩ : ByteArray), .int .i64 0, .bool false] 38 (0, 0))) ∧ Aside0 (Below w.heap.size w wc))
      case first =>
        by_cases hlt : p < s.size
        · have hx0 : ∀ h : p < s.size, ((s[p]'h).toNat : Int) = bt s (p : Int) := bt_at s (p : Int)
          have hl1 : ((p : Int) < (s.size : Int)) = True := eq_true (by omega)
          have hl2 : ((0 : Int) ≤ (p : Int)) = True := eq_true (by omega)
          have hb := bt_list s p hlt
          have hnd1 := nDig_at s (numHex s) p hlt
          have hw1 : IntKind.i64.wrap ((p : Int) + 1) = ((p + 1 : Nat) : Int) := by rw [IntWalk.i64_in _ (by omega)]; omega
          have hval : names_Value.f 9 (wrap32 (bt s (p : Int))) = some (digV (s.data.toList.getD p 0).toNat) := by rw [hb]; exact digV_all ⟨_, UInt8.toNat_lt _⟩
          have hdig : isDig (numHex s) (s.data.toList.getD p 0) = (decide (0 ≤ digV (s.data.toList.getD p 0).toNat) && (numHex s || decide (digV (s.data.toList.getD p 0).toNat < 10))) := rfl
          generalize digV (s.data.toList.getD p 0).toNat = v at hval hdig
          have HVAL := Aside0.mk hval
          have HND1 := Aside0.mk hnd1
          have HDIG := Aside0.mk hdig
          clear hval hnd1 hdig hb
          by_cases cv : 0 ≤ v
          · have cv1 : decide (v ≥ 0) = true := decide_eq_true cv
            have cv2 : decide (0 ≤ v) = true := decide_eq_true cv
            have hd : isDig (numHex s) (s.data.toList.getD p 0) = true := by rw [HDIG.out, cv2, HX.out]; rfl
            have hpp := HND1.out
            rw [if_pos hd] at hpp
            have HPP := Aside0.mk hpp
            clear hpp hd
            go_wp2_with (go_at_call 17; refine (names_Value.calls 9 (wrap32 (bt s (p : Int))) v _ HVAL.out).mono ?_; rintro e1 w' ⟨rfl, ⟨nd, rfl⟩⟩)
            go_step3
            refine ⟨rfl, ?_, ?_⟩
            · refine numJ_of (p + 1) ?_ ⟨by omega, hp.out.2⟩ ?_ BK'.out (pw_below_drewN HB'.out nd)
              · rw [HX.out]
                rfl
              · rw [← hnd.out, HPP.out]
            · simp [intOf]
              omega
          · have cv1 : decide (v ≥ 0) = false := decide_eq_false cv
            have cv2 : decide (0 ≤ v) = false := decide_eq_false cv
            have hd : isDig (numHex s) (s.data.toList.getD p 0) = false := by rw [HDIG.out, cv2, Bool.false_and]
            have hpp := HND1.out
            rw [hd, if_neg (by decide), hnd.out] at hpp
            have HPE := Aside0.mk hpp.symm
            clear hpp hd
            go_wp2_with (go_at_call 17; refine (names_Value.calls 9 (wrap32 (bt s (p : Int))) v _ HVAL.out).mono ?_; rintro e1 w' ⟨rfl, ⟨nd, rfl⟩⟩)
            go_meet
            case rel => exact ⟨rfl, ⟨HPE.out⟩, ⟨BK'.out⟩, ⟨pw_below_drewN HB'.out nd⟩⟩
        · have hpe : p = s.size := by have := hp.out.1; omega
          have hpp := hnd.out
          rw [hpe, List.drop_eq_nil_of_le (by simp), nDig] at hpp
          have HPE := Aside0.mk ((hpe.trans hpp : p = numAt s))
          clear hpp hpe
          have hl1 : ((p : Int) < (s.size : Int)) = False := eq_false (by omega)
          go_wp2
          go_meet
          case rel => exact ⟨rfl, ⟨HPE.out⟩, BK', HB'⟩
      case rest =>
        obtain ⟨rfl, hpe, BK2, HB2⟩ := hcut
        have hpe := hpe.out
        have hp := hp.out
        subst hpe
        have HH' := HH.out
        rw [if_neg hp.2] at HH'
        clear HH
        refine hK _ _ ?_
        by_cases c1 : numAt s = s.size
        · have k1 : ((numAt s : Int) == (s.size : Int)) = true := beq_iff_eq.2 (by omega)
          have k3 : ((numAt s : Int) < (s.size : Int)) = False := eq_false (by omega)
          cases e with
          | false =>
            rw [if_pos ⟨c1, rfl⟩] at HH'
            simp only [Option.some.injEq, Prod.mk.injEq] at HH'
            obtain ⟨rfl, rfl, rfl⟩ := HH'
            clear c1
            have hcz0 : wc.cell? ⟨gb, 0, none⟩ = some (.string (⟨#[]⟩ : ByteArray)) := (blk_cell BK2.out 0).trans rfl
            have hcz1 : wc.cell? ⟨gb, 1, none⟩ = some (.int .i64 0) := (blk_cell BK2.out 1).trans rfl
            have hcz2 : wc.cell? ⟨gb, 2, none⟩ = some (.bool false) := (blk_cell BK2.out 2).trans rfl
            have hfz0 := blk_frozen BK2.out 0
            have hfz1 := blk_frozen BK2.out 1
            have hfz2 := blk_frozen BK2.out 2
            go_wp2
            (try simp only [Exit.jump])
            refine bodyPost_ret (results_cell_row rfl _ _ gb 38 #[.string (⟨#[]⟩ : ByteArray), .int .i64 0, .bool false] (0, 0) _ rfl (by (with_reducible repeat (first | refine blk_drewN ?_ _ | refine blk_drew ?_ | refine blk_alloc ?_ _)); refine blk_put (cs := #[.string (⟨#[]⟩ : ByteArray), .int .i64 0, .bool false]) ?_ 2 _ rfl; (with_reducible repeat (first | refine blk_drewN ?_ _ | refine blk_drew ?_ | refine blk_alloc ?_ _)); refine blk_put (cs := #[.string (⟨#[]⟩ : ByteArray), .int .i64 0, .bool false]) ?_ 1 _ rfl; (with_reducible repeat (first | refine blk_drewN ?_ _ | refine blk_drew ?_ | refine blk_alloc ?_ _)); refine blk_put (cs := #[.string (⟨#[]⟩ : ByteArray), .int .i64 0, .bool false]) ?_ 0 _ rfl; (with_reducible repeat (first | refine blk_drewN ?_ _ | refine blk_drew ?_ | refine blk_alloc ?_ _)); exact BK2.out) Tryd.underlying38 rfl (by kernel_rfl)) rfl ?_
            exact ⟨rfl, by repeat (first | (with_reducible first | exact HB2.out | apply below_alloc | apply pw_below_drewN | apply below_drew1 | refine below_set ?_ GW.out) | exact HB2.out)⟩
          | true =>
            rw [if_neg (by rintro ⟨_, h⟩; cases h)] at HH'
            by_cases c2 : numAt s = numFrom s
            · have k4 : ((numAt s : Int) == (numFrom s : Int)) = true := beq_iff_eq.2 (by omega)
              rw [if_pos c2] at HH'
              simp only [Option.some.injEq, Prod.mk.injEq] at HH'
              obtain ⟨rfl, rfl, rfl⟩ := HH'
              clear c2
              have hcz0 : wc.cell? ⟨gb, 0, none⟩ = some (.string (⟨#[]⟩ : ByteArray)) := (blk_cell BK2.out 0).trans rfl
              have hcz1 : wc.cell? ⟨gb, 1, none⟩ = some (.int .i64 0) := (blk_cell BK2.out 1).trans rfl
              have hcz2 : wc.cell? ⟨gb, 2, none⟩ = some (.bool false) := (blk_cell BK2.out 2).trans rfl
              have hfz0 := blk_frozen BK2.out 0
              have hfz1 := blk_frozen BK2.out 1
              have hfz2 := blk_frozen BK2.out 2
              go_wp2
              (try simp only [Exit.jump])
              refine bodyPost_ret (results_cell_row rfl _ _ gb 38 #[.string (⟨#[]⟩ : ByteArray), .int .i64 0, .bool true] (0, 0) _ rfl (by (with_reducible repeat (first | refine blk_drewN ?_ _ | refine blk_drew ?_ | refine blk_alloc ?_ _)); refine blk_put (cs := #[.string (⟨#[]⟩ : ByteArray), .int .i64 0, .bool false]) ?_ 2 _ rfl; (with_reducible repeat (first | refine blk_drewN ?_ _ | refine blk_drew ?_ | refine blk_alloc ?_ _)); refine blk_put (cs := #[.string (⟨#[]⟩ : ByteArray), .int .i64 0, .bool false]) ?_ 1 _ rfl; (with_reducible repeat (first | refine blk_drewN ?_ _ | refine blk_drew ?_ | refine blk_alloc ?_ _)); refine blk_put (cs := #[.string (⟨#[]⟩ : ByteArray), .int .i64 0, .bool false]) ?_ 0 _ rfl; (with_reducible repeat (first | refine blk_drewN ?_ _ | refine blk_drew ?_ | refine blk_alloc ?_ _)); exact BK2.out) Tryd.underlying38 rfl (by kernel_rfl)) rfl ?_
              exact ⟨rfl, by repeat (first | (with_reducible first | exact HB2.out | apply below_alloc | apply pw_below_drewN | apply below_drew1 | refine below_set ?_ GW.out) | exact HB2.out)⟩
            · have k4 : ((numAt s : Int) == (numFrom s : Int)) = false := beq_eq_false_iff_ne.2 (by omega)
              rw [if_neg c2, HX.out] at HH'
              obtain ⟨⟨n1, n2⟩, hN, heq⟩ := Option.bind_eq_some_iff.1 HH'
              clear HH' c2
              have HN := Aside0.mk hN
              clear hN
              simp only [Option.some.injEq, Prod.mk.injEq] at heq
              obtain ⟨rfl, he2, rfl⟩ := heq
              have hfa : numFrom s ≤ numAt s := by unfold numAt; omega
              have j1 : ((0 : Int) ≤ (numFrom s : Int)) = True := eq_true (by omega)
              have j2 : ((numFrom s : Int) ≤ (numAt s : Int)) = True := eq_true (by omega)
              have j3 : ((numAt s : Int) ≤ (s.size : Int)) = True := eq_true (by omega)
              have hat : ((if numAt s < s.size ∧ bt s (numAt s : Nat) = 59 then numAt s + 1 else numAt s : Nat) : Int) = (numAt s : Int) := by rw [if_neg (fun h => absurd h.1 (by omega))]
              rw [hat] at he2
              subst he2
              clear hat c1
              go_wp2_with (go_at_call 7; refine (charref_Number.calls k (s.extract (numFrom s) (numAt s)) true n1 n2 _ HN.out).mono ?_; rintro e1 w7 ⟨rfl, hb⟩; have BK3 := Aside0.mk (blk_below (g := gb) (o := .cells #[.string (⟨#[]⟩ : ByteArray), .int .i64 0, .bool false] 38 (0, 0)) BK2.out hb); have HB3 := Aside0.mk (below_step HB2.out hb); clear hb; have hcz0 : w7.cell? ⟨gb, 0, none⟩ = some (.string (⟨#[]⟩ : ByteArray)) := (blk_cell BK3.out 0).trans rfl; have hcz1 : w7.cell? ⟨gb, 1, none⟩ = some (.int .i64 0) := (blk_cell BK3.out 1).trans rfl; have hcz2 : w7.cell? ⟨gb, 2, none⟩ = some (.bool false) := (blk_cell BK3.out 2).trans rfl; have hfz0 := blk_frozen BK3.out 0; have hfz1 := blk_frozen BK3.out 1; have hfz2 := blk_frozen BK3.out 2)
              (try simp only [Exit.jump])
              refine bodyPost_ret (results_cell_row rfl _ _ gb 38 #[.string (Utf8.encode n1), .int .i64 ((numAt s : Nat) : Int), .bool true] (0, 0) _ rfl (by (with_reducible repeat (first | refine blk_drewN ?_ _ | refine blk_drew ?_ | refine blk_alloc ?_ _)); refine blk_put (cs := #[.string (Utf8.encode n1), .int .i64 ((numAt s : Nat) : Int), .bool false]) ?_ 2 _ rfl; (with_reducible repeat (first | refine blk_drewN ?_ _ | refine blk_drew ?_ | refine blk_alloc ?_ _)); refine blk_put (cs := #[.string (Utf8.encode n1), .int .i64 0, .bool false]) ?_ 1 _ rfl; (with_reducible repeat (first | refine blk_drewN ?_ _ | refine blk_drew ?_ | refine blk_alloc ?_ _)); refine blk_put (cs := #[.string (⟨#[]⟩ : ByteArray), .int .i64 0, .bool false]) ?_ 0 _ rfl; (with_reducible repeat (first | refine blk_drewN ?_ _ | refine blk_drew ?_ | refine blk_alloc ?_ _)); exact BK3.out) Tryd.underlying38 rfl (by kernel_rfl)) rfl ?_
              exact ⟨rfl, by repeat (first | (with_reducible first | exact HB3.out | apply below_alloc | apply pw_below_drewN | apply below_drew1 | refine below_set ?_ GW.out) | exact HB3.out)⟩
        · have k1 : ((numAt s : Int) == (s.size : Int)) = false := beq_eq_false_iff_ne.2 (by omega)
          have k3 : ((numAt s : Int) < (s.size : Int)) = True := eq_true (by omega)
          have k3' : (numAt s < s.size) = True := eq_true (by omega)
          rw [if_neg (fun h => c1 h.1)] at HH'
          by_cases c2 : numAt s = numFrom s
          · have k4 : ((numAt s : Int) == (numFrom s : Int)) = true := beq_iff_eq.2 (by omega)
            rw [if_pos c2] at HH'
            simp only [Option.some.injEq, Prod.mk.injEq] at HH'
            obtain ⟨rfl, rfl, rfl⟩ := HH'
            clear c2
            have hcz0 : wc.cell? ⟨gb, 0, none⟩ = some (.string (⟨#[]⟩ : ByteArray)) := (blk_cell BK2.out 0).trans rfl
            have hcz1 : wc.cell? ⟨gb, 1, none⟩ = some (.int .i64 0) := (blk_cell BK2.out 1).trans rfl
            have hcz2 : wc.cell? ⟨gb, 2, none⟩ = some (.bool false) := (blk_cell BK2.out 2).trans rfl
            have hfz0 := blk_frozen BK2.out 0
            have hfz1 := blk_frozen BK2.out 1
            have hfz2 := blk_frozen BK2.out 2
            go_wp2
            (try simp only [Exit.jump])
            refine bodyPost_ret (results_cell_row rfl _ _ gb 38 #[.string (⟨#[]⟩ : ByteArray), .int .i64 0, .bool true] (0, 0) _ rfl (by (with_reducible repeat (first | refine blk_drewN ?_ _ | refine blk_drew ?_ | refine blk_alloc ?_ _)); refine blk_put (cs := #[.string (⟨#[]⟩ : ByteArray), .int .i64 0, .bool false]) ?_ 2 _ rfl; (with_reducible repeat (first | refine blk_drewN ?_ _ | refine blk_drew ?_ | refine blk_alloc ?_ _)); refine blk_put (cs := #[.string (⟨#[]⟩ : ByteArray), .int .i64 0, .bool false]) ?_ 1 _ rfl; (with_reducible repeat (first | refine blk_drewN ?_ _ | refine blk_drew ?_ | refine blk_alloc ?_ _)); refine blk_put (cs := #[.string (⟨#[]⟩ : ByteArray), .int .i64 0, .bool false]) ?_ 0 _ rfl; (with_reducible repeat (first | refine blk_drewN ?_ _ | refine blk_drew ?_ | refine blk_alloc ?_ _)); exact BK2.out) Tryd.underlying38 rfl (by kernel_rfl)) rfl ?_
            exact ⟨rfl, by repeat (first | (with_reducible first | exact HB2.out | apply below_alloc | apply pw_below_drewN | apply below_drew1 | refine below_set ?_ GW.out) | exact HB2.out)⟩
          · have k4 : ((numAt s : Int) == (numFrom s : Int)) = false := beq_eq_false_iff_ne.2 (by omega)
            rw [if_neg c2, HX.out] at HH'
            obtain ⟨⟨n1, n2⟩, hN, heq⟩ := Option.bind_eq_some_iff.1 HH'
            clear HH' c2
            have HN := Aside0.mk hN
            clear hN
            simp only [Option.some.injEq, Prod.mk.injEq] at heq
            obtain ⟨rfl, he2, rfl⟩ := heq
            have hfa : numFrom s ≤ numAt s := by unfold numAt; omega
            have j1 : ((0 : Int) ≤ (numFrom s : Int)) = True := eq_true (by omega)
            have j2 : ((numFrom s : Int) ≤ (numAt s : Int)) = True := eq_true (by omega)
            have j3 : ((numAt s : Int) ≤ (s.size : Int)) = True := eq_true (by omega)
            have hx0 : ∀ h : numAt s < s.size, ((s[numAt s]'h).toNat : Int) = bt s (numAt s : Int) := bt_at s (numAt s : Int)
            have j4 : ((0 : Int) ≤ (numAt s : Int)) = True := eq_true (by omega)
            have hw2 : IntKind.i64.wrap ((numAt s : Int) + 1) = (numAt s : Int) + 1 := IntWalk.i64_in _ (by omega)
            by_cases c4 : bt s (numAt s : Int) = 59
            · have k5 : (bt s (numAt s : Int) == 59) = true := beq_iff_eq.2 c4
              have hat : ((if numAt s < s.size ∧ bt s (numAt s : Nat) = 59 then numAt s + 1 else numAt s : Nat) : Int) = (numAt s : Int) + 1 := by rw [if_pos ⟨by omega, c4⟩]; omega
              rw [hat] at he2
              subst he2
              clear hat
              go_wp2_with (go_at_call 7; refine (charref_Number.calls k (s.extract (numFrom s) (numAt s)) true n1 n2 _ HN.out).mono ?_; rintro e1 w7 ⟨rfl, hb⟩; have BK3 := Aside0.mk (blk_below (g := gb) (o := .cells #[.string (⟨#[]⟩ : ByteArray), .int .i64 0, .bool false] 38 (0, 0)) BK2.out hb); have HB3 := Aside0.mk (below_step HB2.out hb); clear hb; have hcz0 : w7.cell? ⟨gb, 0, none⟩ = some (.string (⟨#[]⟩ : ByteArray)) := (blk_cell BK3.out 0).trans rfl; have hcz1 : w7.cell? ⟨gb, 1, none⟩ = some (.int .i64 0) := (blk_cell BK3.out 1).trans rfl; have hcz2 : w7.cell? ⟨gb, 2, none⟩ = some (.bool false) := (blk_cell BK3.out 2).trans rfl; have hfz0 := blk_frozen BK3.out 0; have hfz1 := blk_frozen BK3.out 1; have hfz2 := blk_frozen BK3.out 2)
              (try simp only [Exit.jump])
              refine bodyPost_ret (results_cell_row rfl _ _ gb 38 #[.string (Utf8.encode n1), .int .i64 ((numAt s : Int) + 1), .bool true] (0, 0) _ rfl (by (with_reducible repeat (first | refine blk_drewN ?_ _ | refine blk_drew ?_ | refine blk_alloc ?_ _)); refine blk_put (cs := #[.string (Utf8.encode n1), .int .i64 ((numAt s : Int) + 1), .bool false]) ?_ 2 _ rfl; (with_reducible repeat (first | refine blk_drewN ?_ _ | refine blk_drew ?_ | refine blk_alloc ?_ _)); refine blk_put (cs := #[.string (Utf8.encode n1), .int .i64 0, .bool false]) ?_ 1 _ rfl; (with_reducible repeat (first | refine blk_drewN ?_ _ | refine blk_drew ?_ | refine blk_alloc ?_ _)); refine blk_put (cs := #[.string (⟨#[]⟩ : ByteArray), .int .i64 0, .bool false]) ?_ 0 _ rfl; (with_reducible repeat (first | refine blk_drewN ?_ _ | refine blk_drew ?_ | refine blk_alloc ?_ _)); exact BK3.out) Tryd.underlying38 rfl (by kernel_rfl)) rfl ?_
              exact ⟨rfl, by repeat (first | (with_reducible first | exact HB3.out | apply below_alloc | apply pw_below_drewN | apply below_drew1 | refine below_set ?_ GW.out) | exact HB3.out)⟩
            · have k5 : (bt s (numAt s : Int) == 59) = false := beq_eq_false_iff_ne.2 c4
              have hat : ((if numAt s < s.size ∧ bt s (numAt s : Nat) = 59 then numAt s + 1 else numAt s : Nat) : Int) = (numAt s : Int) := by rw [if_neg (fun h => c4 h.2)]
              rw [hat] at he2
              subst he2
              clear hat
              go_wp2_with (go_at_call 7; refine (charref_Number.calls k (s.extract (numFrom s) (numAt s)) true n1 n2 _ HN.out).mono ?_; rintro e1 w7 ⟨rfl, hb⟩; have BK3 := Aside0.mk (blk_below (g := gb) (o := .cells #[.string (⟨#[]⟩ : ByteArray), .int .i64 0, .bool false] 38 (0, 0)) BK2.out hb); have HB3 := Aside0.mk (below_step HB2.out hb); clear hb; have hcz0 : w7.cell? ⟨gb, 0, none⟩ = some (.string (⟨#[]⟩ : ByteArray)) := (blk_cell BK3.out 0).trans rfl; have hcz1 : w7.cell? ⟨gb, 1, none⟩ = some (.int .i64 0) := (blk_cell BK3.out 1).trans rfl; have hcz2 : w7.cell? ⟨gb, 2, none⟩ = some (.bool false) := (blk_cell BK3.out 2).trans rfl; have hfz0 := blk_frozen BK3.out 0; have hfz1 := blk_frozen BK3.out 1; have hfz2 := blk_frozen BK3.out 2)
              (try simp only [Exit.jump])
              refine bodyPost_ret (results_cell_row rfl _ _ gb 38 #[.string (Utf8.encode n1), .int .i64 ((numAt s : Nat) : Int), .bool true] (0, 0) _ rfl (by (with_reducible repeat (first | refine blk_drewN ?_ _ | refine blk_drew ?_ | refine blk_alloc ?_ _)); refine blk_put (cs := #[.string (Utf8.encode n1), .int .i64 ((numAt s : Nat) : Int), .bool false]) ?_ 2 _ rfl; (with_reducible repeat (first | refine blk_drewN ?_ _ | refine blk_drew ?_ | refine blk_alloc ?_ _)); refine blk_put (cs := #[.string (Utf8.encode n1), .int .i64 0, .bool false]) ?_ 1 _ rfl; (with_reducible repeat (first | refine blk_drewN ?_ _ | refine blk_drew ?_ | refine blk_alloc ?_ _)); refine blk_put (cs := #[.string (⟨#[]⟩ : ByteArray), .int .i64 0, .bool false]) ?_ 0 _ rfl; (with_reducible repeat (first | refine blk_drewN ?_ _ | refine blk_drew ?_ | refine blk_alloc ?_ _)); exact BK3.out) Tryd.underlying38 rfl (by kernel_rfl)) rfl ?_
              exact ⟨rfl, by repeat (first | (with_reducible first | exact HB3.out | apply below_alloc | apply pw_below_drewN | apply below_drew1 | refine below_set ?_ GW.out) | exact HB3.out)⟩
    | false =>
      have HX := Aside0.mk hh
      clear hh
      go_cut [5] (fun v5 wc => v5 = .int .i64 (p : Nat) ∧ Aside0 (p = numAt s) ∧ Aside0 (wc.heap[gb]? = some (.cells #[.string (⟨#[]⟩ : ByteArray), .int .i64 0, .bool false] 38 (0, 0))) ∧ Aside0 (Below w.heap.size w wc))
      case first =>
        by_cases hlt : p < s.size
        · have hx0 : ∀ h : p < s.size, ((s[p]'h).toNat : Int) = bt s (p : Int) := bt_at s (p : Int)
          have hl1 : ((p : Int) < (s.size : Int)) = True := eq_true (by omega)
          have hl2 : ((0 : Int) ≤ (p : Int)) = True := eq_true (by omega)
          have hb := bt_list s p hlt
          have hnd1 := nDig_at s (numHex s) p hlt
          have hw1 : IntKind.i64.wrap ((p : Int) + 1) = ((p + 1 : Nat) : Int) := by rw [IntWalk.i64_in _ (by omega)]; omega
          have hval : names_Value.f 9 (wrap32 (bt s (p : Int))) = some (digV (s.data.toList.getD p 0).toNat) := by rw [hb]; exact digV_all ⟨_, UInt8.toNat_lt _⟩
          have hdig : isDig (numHex s) (s.data.toList.getD p 0) = (decide (0 ≤ digV (s.data.toList.getD p 0).toNat) && (numHex s || decide (digV (s.data.toList.getD p 0).toNat < 10))) := rfl
          generalize digV (s.data.toList.getD p 0).toNat = v at hval hdig
          have HVAL := Aside0.mk hval
          have HND1 := Aside0.mk hnd1
          have HDIG := Aside0.mk hdig
          clear hval hnd1 hdig hb
          by_cases cv : 0 ≤ v
          · have cv1 : decide (v ≥ 0) = true := decide_eq_true cv
            have cv2 : decide (0 ≤ v) = true := decide_eq_true cv
            by_cases cx : v < 10
            · have cx1 : decide (v < 10) = true := decide_eq_true cx
              have hd : isDig (numHex s) (s.data.toList.getD p 0) = true := by rw [HDIG.out, cv2, HX.out, cx1]; rfl
              have hpp := HND1.out
              rw [if_pos hd] at hpp
              have HPP := Aside0.mk hpp
              clear hpp hd
              go_wp2_with (go_at_call 17; refine (names_Value.calls 9 (wrap32 (bt s (p : Int))) v _ HVAL.out).mono ?_; rintro e1 w' ⟨rfl, ⟨nd, rfl⟩⟩)
              go_step3
              refine ⟨rfl, ?_, ?_⟩
              · refine numJ_of (p + 1) ?_ ⟨by omega, hp.out.2⟩ ?_ BK'.out (pw_below_drewN HB'.out nd)
                · rw [HX.out]
                  rfl
                · rw [← hnd.out, HPP.out]
              · simp [intOf]
                omega
            · have cx1 : decide (v < 10) = false := decide_eq_false cx
              have hd : isDig (numHex s) (s.data.toList.getD p 0) = false := by rw [HDIG.out, cv2, HX.out, cx1]; rfl
              have hpp := HND1.out
              rw [hd, if_neg (by decide), hnd.out] at hpp
              have HPE := Aside0.mk hpp.symm
              clear hpp hd
              go_wp2_with (go_at_call 17; refine (names_Value.calls 9 (wrap32 (bt s (p : Int))) v _ HVAL.out).mono ?_; rintro e1 w' ⟨rfl, ⟨nd, rfl⟩⟩)
              go_meet
              case rel => exact ⟨rfl, ⟨HPE.out⟩, ⟨BK'.out⟩, ⟨pw_below_drewN HB'.out nd⟩⟩
          · have cv1 : decide (v ≥ 0) = false := decide_eq_false cv
            have cv2 : decide (0 ≤ v) = false := decide_eq_false cv
            have hd : isDig (numHex s) (s.data.toList.getD p 0) = false := by rw [HDIG.out, cv2, Bool.false_and]
            have hpp := HND1.out
            rw [hd, if_neg (by decide), hnd.out] at hpp
            have HPE := Aside0.mk hpp.symm
            clear hpp hd
            go_wp2_with (go_at_call 17; refine (names_Value.calls 9 (wrap32 (bt s (p : Int))) v _ HVAL.out).mono ?_; rintro e1 w' ⟨rfl, ⟨nd, rfl⟩⟩)
            go_meet
            case rel => exact ⟨rfl, ⟨HPE.out⟩, ⟨BK'.out⟩, ⟨pw_below_drewN HB'.out nd⟩⟩
        · have hpe : p = s.size := by have := hp.out.1; omega
          have hpp := hnd.out
          rw [hpe, List.drop_eq_nil_of_le (by simp), nDig] at hpp
          have HPE := Aside0.mk ((hpe.trans hpp : p = numAt s))
          clear hpp hpe
          have hl1 : ((p : Int) < (s.size : Int)) = False := eq_false (by omega)
          go_wp2
          go_meet
          case rel => exact ⟨rfl, ⟨HPE.out⟩, BK', HB'⟩
      case rest =>
        obtain ⟨rfl, hpe, BK2, HB2⟩ := hcut
        have hpe := hpe.out
        have hp := hp.out
        subst hpe
        have HH' := HH.out
        rw [if_neg hp.2] at HH'
        clear HH
        refine hK _ _ ?_
        by_cases c1 : numAt s = s.size
        · have k1 : ((numAt s : Int) == (s.size : Int)) = true := beq_iff_eq.2 (by omega)
          have k3 : ((numAt s : Int) < (s.size : Int)) = False := eq_false (by omega)
          cases e with
          | false =>
            rw [if_pos ⟨c1, rfl⟩] at HH'
            simp only [Option.some.injEq, Prod.mk.injEq] at HH'
            obtain ⟨rfl, rfl, rfl⟩ := HH'
            clear c1
            have hcz0 : wc.cell? ⟨gb, 0, none⟩ = some (.string (⟨#[]⟩ : ByteArray)) := (blk_cell BK2.out 0).trans rfl
            have hcz1 : wc.cell? ⟨gb, 1, none⟩ = some (.int .i64 0) := (blk_cell BK2.out 1).trans rfl
            have hcz2 : wc.cell? ⟨gb, 2, none⟩ = some (.bool false) := (blk_cell BK2.out 2).trans rfl
            have hfz0 := blk_frozen BK2.out 0
            have hfz1 := blk_frozen BK2.out 1
            have hfz2 := blk_frozen BK2.out 2
            go_wp2
            (try simp only [Exit.jump])
            refine bodyPost_ret (results_cell_row rfl _ _ gb 38 #[.string (⟨#[]⟩ : ByteArray), .int .i64 0, .bool false] (0, 0) _ rfl (by (with_reducible repeat (first | refine blk_drewN ?_ _ | refine blk_drew ?_ | refine blk_alloc ?_ _)); refine blk_put (cs := #[.string (⟨#[]⟩ : ByteArray), .int .i64 0, .bool false]) ?_ 2 _ rfl; (with_reducible repeat (first | refine blk_drewN ?_ _ | refine blk_drew ?_ | refine blk_alloc ?_ _)); refine blk_put (cs := #[.string (⟨#[]⟩ : ByteArray), .int .i64 0, .bool false]) ?_ 1 _ rfl; (with_reducible repeat (first | refine blk_drewN ?_ _ | refine blk_drew ?_ | refine blk_alloc ?_ _)); refine blk_put (cs := #[.string (⟨#[]⟩ : ByteArray), .int .i64 0, .bool false]) ?_ 0 _ rfl; (with_reducible repeat (first | refine blk_drewN ?_ _ | refine blk_drew ?_ | refine blk_alloc ?_ _)); exact BK2.out) Tryd.underlying38 rfl (by kernel_rfl)) rfl ?_
            exact ⟨rfl, by repeat (first | (with_reducible first | exact HB2.out | apply below_alloc | apply pw_below_drewN | apply below_drew1 | refine below_set ?_ GW.out) | exact HB2.out)⟩
          | true =>
            rw [if_neg (by rintro ⟨_, h⟩; cases h)] at HH'
            by_cases c2 : numAt s = numFrom s
            · have k4 : ((numAt s : Int) == (numFrom s : Int)) = true := beq_iff_eq.2 (by omega)
              rw [if_pos c2] at HH'
              simp only [Option.some.injEq, Prod.mk.injEq] at HH'
              obtain ⟨rfl, rfl, rfl⟩ := HH'
              clear c2
              have hcz0 : wc.cell? ⟨gb, 0, none⟩ = some (.string (⟨#[]⟩ : ByteArray)) := (blk_cell BK2.out 0).trans rfl
              have hcz1 : wc.cell? ⟨gb, 1, none⟩ = some (.int .i64 0) := (blk_cell BK2.out 1).trans rfl
              have hcz2 : wc.cell? ⟨gb, 2, none⟩ = some (.bool false) := (blk_cell BK2.out 2).trans rfl
              have hfz0 := blk_frozen BK2.out 0
              have hfz1 := blk_frozen BK2.out 1
              have hfz2 := blk_frozen BK2.out 2
              go_wp2
              (try simp only [Exit.jump])
              refine bodyPost_ret (results_cell_row rfl _ _ gb 38 #[.string (⟨#[]⟩ : ByteArray), .int .i64 0, .bool true] (0, 0) _ rfl (by (with_reducible repeat (first | refine blk_drewN ?_ _ | refine blk_drew ?_ | refine blk_alloc ?_ _)); refine blk_put (cs := #[.string (⟨#[]⟩ : ByteArray), .int .i64 0, .bool false]) ?_ 2 _ rfl; (with_reducible repeat (first | refine blk_drewN ?_ _ | refine blk_drew ?_ | refine blk_alloc ?_ _)); refine blk_put (cs := #[.string (⟨#[]⟩ : ByteArray), .int .i64 0, .bool false]) ?_ 1 _ rfl; (with_reducible repeat (first | refine blk_drewN ?_ _ | refine blk_drew ?_ | refine blk_alloc ?_ _)); refine blk_put (cs := #[.string (⟨#[]⟩ : ByteArray), .int .i64 0, .bool false]) ?_ 0 _ rfl; (with_reducible repeat (first | refine blk_drewN ?_ _ | refine blk_drew ?_ | refine blk_alloc ?_ _)); exact BK2.out) Tryd.underlying38 rfl (by kernel_rfl)) rfl ?_
              exact ⟨rfl, by repeat (first | (with_reducible first | exact HB2.out | apply below_alloc | apply pw_below_drewN | apply below_drew1 | refine below_set ?_ GW.out) | exact HB2.out)⟩
            · have k4 : ((numAt s : Int) == (numFrom s : Int)) = false := beq_eq_false_iff_ne.2 (by omega)
              rw [if_neg c2, HX.out] at HH'
              obtain ⟨⟨n1, n2⟩, hN, heq⟩ := Option.bind_eq_some_iff.1 HH'
              clear HH' c2
              have HN := Aside0.mk hN
              clear hN
              simp only [Option.some.injEq, Prod.mk.injEq] at heq
              obtain ⟨rfl, he2, rfl⟩ := heq
              have hfa : numFrom s ≤ numAt s := by unfold numAt; omega
              have j1 : ((0 : Int) ≤ (numFrom s : Int)) = True := eq_true (by omega)
              have j2 : ((numFrom s : Int) ≤ (numAt s : Int)) = True := eq_true (by omega)
              have j3 : ((numAt s : Int) ≤ (s.size : Int)) = True := eq_true (by omega)
              have hat : ((if numAt s < s.size ∧ bt s (numAt s : Nat) = 59 then numAt s + 1 else numAt s : Nat) : Int) = (numAt s : Int) := by rw [if_neg (fun h => absurd h.1 (by omega))]
              rw [hat] at he2
              subst he2
              clear hat c1
              go_wp2_with (go_at_call 7; refine (charref_Number.calls k (s.extract (numFrom s) (numAt s)) false n1 n2 _ HN.out).mono ?_; rintro e1 w7 ⟨rfl, hb⟩; have BK3 := Aside0.mk (blk_below (g := gb) (o := .cells #[.string (⟨#[]⟩ : ByteArray), .int .i64 0, .bool false] 38 (0, 0)) BK2.out hb); have HB3 := Aside0.mk (below_step HB2.out hb); clear hb; have hcz0 : w7.cell? ⟨gb, 0, none⟩ = some (.string (⟨#[]⟩ : ByteArray)) := (blk_cell BK3.out 0).trans rfl; have hcz1 : w7.cell? ⟨gb, 1, none⟩ = some (.int .i64 0) := (blk_cell BK3.out 1).trans rfl; have hcz2 : w7.cell? ⟨gb, 2, none⟩ = some (.bool false) := (blk_cell BK3.out 2).trans rfl; have hfz0 := blk_frozen BK3.out 0; have hfz1 := blk_frozen BK3.out 1; have hfz2 := blk_frozen BK3.out 2)
              (try simp only [Exit.jump])
              refine bodyPost_ret (results_cell_row rfl _ _ gb 38 #[.string (Utf8.encode n1), .int .i64 ((numAt s : Nat) : Int), .bool true] (0, 0) _ rfl (by (with_reducible repeat (first | refine blk_drewN ?_ _ | refine blk_drew ?_ | refine blk_alloc ?_ _)); refine blk_put (cs := #[.string (Utf8.encode n1), .int .i64 ((numAt s : Nat) : Int), .bool false]) ?_ 2 _ rfl; (with_reducible repeat (first | refine blk_drewN ?_ _ | refine blk_drew ?_ | refine blk_alloc ?_ _)); refine blk_put (cs := #[.string (Utf8.encode n1), .int .i64 0, .bool false]) ?_ 1 _ rfl; (with_reducible repeat (first | refine blk_drewN ?_ _ | refine blk_drew ?_ | refine blk_alloc ?_ _)); refine blk_put (cs := #[.string (⟨#[]⟩ : ByteArray), .int .i64 0, .bool false]) ?_ 0 _ rfl; (with_reducible repeat (first | refine blk_drewN ?_ _ | refine blk_drew ?_ | refine blk_alloc ?_ _)); exact BK3.out) Tryd.underlying38 rfl (by kernel_rfl)) rfl ?_
              exact ⟨rfl, by repeat (first | (with_reducible first | exact HB3.out | apply below_alloc | apply pw_below_drewN | apply below_drew1 | refine below_set ?_ GW.out) | exact HB3.out)⟩
        · have k1 : ((numAt s : Int) == (s.size : Int)) = false := beq_eq_false_iff_ne.2 (by omega)
          have k3 : ((numAt s : Int) < (s.size : Int)) = True := eq_true (by omega)
          have k3' : (numAt s < s.size) = True := eq_true (by omega)
          rw [if_neg (fun h => c1 h.1)] at HH'
          by_cases c2 : numAt s = numFrom s
          · have k4 : ((numAt s : Int) == (numFrom s : Int)) = true := beq_iff_eq.2 (by omega)
            rw [if_pos c2] at HH'
            simp only [Option.some.injEq, Prod.mk.injEq] at HH'
            obtain ⟨rfl, rfl, rfl⟩ := HH'
            clear c2
            have hcz0 : wc.cell? ⟨gb, 0, none⟩ = some (.string (⟨#[]⟩ : ByteArray)) := (blk_cell BK2.out 0).trans rfl
            have hcz1 : wc.cell? ⟨gb, 1, none⟩ = some (.int .i64 0) := (blk_cell BK2.out 1).trans rfl
            have hcz2 : wc.cell? ⟨gb, 2, none⟩ = some (.bool false) := (blk_cell BK2.out 2).trans rfl
            have hfz0 := blk_frozen BK2.out 0
            have hfz1 := blk_frozen BK2.out 1
            have hfz2 := blk_frozen BK2.out 2
            go_wp2
            (try simp only [Exit.jump])
            refine bodyPost_ret (results_cell_row rfl _ _ gb 38 #[.string (⟨#[]⟩ : ByteArray), .int .i64 0, .bool true] (0, 0) _ rfl (by (with_reducible repeat (first | refine blk_drewN ?_ _ | refine blk_drew ?_ | refine blk_alloc ?_ _)); refine blk_put (cs := #[.string (⟨#[]⟩ : ByteArray), .int .i64 0, .bool false]) ?_ 2 _ rfl; (with_reducible repeat (first | refine blk_drewN ?_ _ | refine blk_drew ?_ | refine blk_alloc ?_ _)); refine blk_put (cs := #[.string (⟨#[]⟩ : ByteArray), .int .i64 0, .bool false]) ?_ 1 _ rfl; (with_reducible repeat (first | refine blk_drewN ?_ _ | refine blk_drew ?_ | refine blk_alloc ?_ _)); refine blk_put (cs := #[.string (⟨#[]⟩ : ByteArray), .int .i64 0, .bool false]) ?_ 0 _ rfl; (with_reducible repeat (first | refine blk_drewN ?_ _ | refine blk_drew ?_ | refine blk_alloc ?_ _)); exact BK2.out) Tryd.underlying38 rfl (by kernel_rfl)) rfl ?_
            exact ⟨rfl, by repeat (first | (with_reducible first | exact HB2.out | apply below_alloc | apply pw_below_drewN | apply below_drew1 | refine below_set ?_ GW.out) | exact HB2.out)⟩
          · have k4 : ((numAt s : Int) == (numFrom s : Int)) = false := beq_eq_false_iff_ne.2 (by omega)
            rw [if_neg c2, HX.out] at HH'
            obtain ⟨⟨n1, n2⟩, hN, heq⟩ := Option.bind_eq_some_iff.1 HH'
            clear HH' c2
            have HN := Aside0.mk hN
            clear hN
            simp only [Option.some.injEq, Prod.mk.injEq] at heq
            obtain ⟨rfl, he2, rfl⟩ := heq
            have hfa : numFrom s ≤ numAt s := by unfold numAt; omega
            have j1 : ((0 : Int) ≤ (numFrom s : Int)) = True := eq_true (by omega)
            have j2 : ((numFrom s : Int) ≤ (numAt s : Int)) = True := eq_true (by omega)
            have j3 : ((numAt s : Int) ≤ (s.size : Int)) = True := eq_true (by omega)
            have hx0 : ∀ h : numAt s < s.size, ((s[numAt s]'h).toNat : Int) = bt s (numAt s : Int) := bt_at s (numAt s : Int)
            have j4 : ((0 : Int) ≤ (numAt s : Int)) = True := eq_true (by omega)
            have hw2 : IntKind.i64.wrap ((numAt s : Int) + 1) = (numAt s : Int) + 1 := IntWalk.i64_in _ (by omega)
            by_cases c4 : bt s (numAt s : Int) = 59
            · have k5 : (bt s (numAt s : Int) == 59) = true := beq_iff_eq.2 c4
              have hat : ((if numAt s < s.size ∧ bt s (numAt s : Nat) = 59 then numAt s + 1 else numAt s : Nat) : Int) = (numAt s : Int) + 1 := by rw [if_pos ⟨by omega, c4⟩]; omega
              rw [hat] at he2
              subst he2
              clear hat
              go_wp2_with (go_at_call 7; refine (charref_Number.calls k (s.extract (numFrom s) (numAt s)) false n1 n2 _ HN.out).mono ?_; rintro e1 w7 ⟨rfl, hb⟩; have BK3 := Aside0.mk (blk_below (g := gb) (o := .cells #[.string (⟨#[]⟩ : ByteArray), .int .i64 0, .bool false] 38 (0, 0)) BK2.out hb); have HB3 := Aside0.mk (below_step HB2.out hb); clear hb; have hcz0 : w7.cell? ⟨gb, 0, none⟩ = some (.string (⟨#[]⟩ : ByteArray)) := (blk_cell BK3.out 0).trans rfl; have hcz1 : w7.cell? ⟨gb, 1, none⟩ = some (.int .i64 0) := (blk_cell BK3.out 1).trans rfl; have hcz2 : w7.cell? ⟨gb, 2, none⟩ = some (.bool false) := (blk_cell BK3.out 2).trans rfl; have hfz0 := blk_frozen BK3.out 0; have hfz1 := blk_frozen BK3.out 1; have hfz2 := blk_frozen BK3.out 2)
              (try simp only [Exit.jump])
              refine bodyPost_ret (results_cell_row rfl _ _ gb 38 #[.string (Utf8.encode n1), .int .i64 ((numAt s : Int) + 1), .bool true] (0, 0) _ rfl (by (with_reducible repeat (first | refine blk_drewN ?_ _ | refine blk_drew ?_ | refine blk_alloc ?_ _)); refine blk_put (cs := #[.string (Utf8.encode n1), .int .i64 ((numAt s : Int) + 1), .bool false]) ?_ 2 _ rfl; (with_reducible repeat (first | refine blk_drewN ?_ _ | refine blk_drew ?_ | refine blk_alloc ?_ _)); refine blk_put (cs := #[.string (Utf8.encode n1), .int .i64 0, .bool false]) ?_ 1 _ rfl; (with_reducible repeat (first | refine blk_drewN ?_ _ | refine blk_drew ?_ | refine blk_alloc ?_ _)); refine blk_put (cs := #[.string (⟨#[]⟩ : ByteArray), .int .i64 0, .bool false]) ?_ 0 _ rfl; (with_reducible repeat (first | refine blk_drewN ?_ _ | refine blk_drew ?_ | refine blk_alloc ?_ _)); exact BK3.out) Tryd.underlying38 rfl (by kernel_rfl)) rfl ?_
              exact ⟨rfl, by repeat (first | (with_reducible first | exact HB3.out | apply below_alloc | apply pw_below_drewN | apply below_drew1 | refine below_set ?_ GW.out) | exact HB3.out)⟩
            · have k5 : (bt s (numAt s : Int) == 59) = false := beq_eq_false_iff_ne.2 c4
              have hat : ((if numAt s < s.size ∧ bt s (numAt s : Nat) = 59 then numAt s + 1 else numAt s : Nat) : Int) = (numAt s : Int) := by rw [if_neg (fun h => c4 h.2)]
              rw [hat] at he2
              subst he2
              clear hat
              go_wp2_with (go_at_call 7; refine (charref_Number.calls k (s.extract (numFrom s) (numAt s)) false n1 n2 _ HN.out).mono ?_; rintro e1 w7 ⟨rfl, hb⟩; have BK3 := Aside0.mk (blk_below (g := gb) (o := .cells #[.string (⟨#[]⟩ : ByteArray), .int .i64 0, .bool false] 38 (0, 0)) BK2.out hb); have HB3 := Aside0.mk (below_step HB2.out hb); clear hb; have hcz0 : w7.cell? ⟨gb, 0, none⟩ = some (.string (⟨#[]⟩ : ByteArray)) := (blk_cell BK3.out 0).trans rfl; have hcz1 : w7.cell? ⟨gb, 1, none⟩ = some (.int .i64 0) := (blk_cell BK3.out 1).trans rfl; have hcz2 : w7.cell? ⟨gb, 2, none⟩ = some (.bool false) := (blk_cell BK3.out 2).trans rfl; have hfz0 := blk_frozen BK3.out 0; have hfz1 := blk_frozen BK3.out 1; have hfz2 := blk_frozen BK3.out 2)
              (try simp only [Exit.jump])
              refine bodyPost_ret (results_cell_row rfl _ _ gb 38 #[.string (Utf8.encode n1), .int .i64 ((numAt s : Nat) : Int), .bool true] (0, 0) _ rfl (by (with_reducible repeat (first | refine blk_drewN ?_ _ | refine blk_drew ?_ | refine blk_alloc ?_ _)); refine blk_put (cs := #[.string (Utf8.encode n1), .int .i64 ((numAt s : Nat) : Int), .bool false]) ?_ 2 _ rfl; (with_reducible repeat (first | refine blk_drewN ?_ _ | refine blk_drew ?_ | refine blk_alloc ?_ _)); refine blk_put (cs := #[.string (Utf8.encode n1), .int .i64 0, .bool false]) ?_ 1 _ rfl; (with_reducible repeat (first | refine blk_drewN ?_ _ | refine blk_drew ?_ | refine blk_alloc ?_ _)); refine blk_put (cs := #[.string (⟨#[]⟩ : ByteArray), .int .i64 0, .bool false]) ?_ 0 _ rfl; (with_reducible repeat (first | refine blk_drewN ?_ _ | refine blk_drew ?_ | refine blk_alloc ?_ _)); exact BK3.out) Tryd.underlying38 rfl (by kernel_rfl)) rfl ?_
              exact ⟨rfl, by repeat (first | (with_reducible first | exact HB3.out | apply below_alloc | apply pw_below_drewN | apply below_drew1 | refine below_set ?_ GW.out) | exact HB3.out)⟩
  case first =>
    intro PASS
    have PASS' := Aside0.mk PASS
    clear PASS
    by_cases h1 : s.size = 1
    · have HH' := HH.out
      rw [if_pos h1] at HH'
      simp only [Option.some.injEq, Prod.mk.injEq] at HH'
      obtain ⟨rfl, rfl, rfl⟩ := HH'
      clear HH
      have hcz0 : w5.cell? ⟨gb, 0, none⟩ = some (.string (⟨#[]⟩ : ByteArray)) := (blk_cell BK.out 0).trans rfl
      have hcz1 : w5.cell? ⟨gb, 1, none⟩ = some (.int .i64 0) := (blk_cell BK.out 1).trans rfl
      have hcz2 : w5.cell? ⟨gb, 2, none⟩ = some (.bool false) := (blk_cell BK.out 2).trans rfl
      have hfz0 := blk_frozen BK.out 0
      have hfz1 := blk_frozen BK.out 1
      have hfz2 := blk_frozen BK.out 2
      have hk : ((1 : Int) == (s.size : Int)) = true := beq_iff_eq.2 (by omega)
      go_wp2
      (try simp only [Exit.jump])
      refine bodyPost_ret (results_cell_row rfl _ _ gb 38 #[.string (⟨#[]⟩ : ByteArray), .int .i64 0, .bool e] (0, 0) _ rfl (by (with_reducible repeat (first | refine blk_drewN ?_ _ | refine blk_drew ?_ | refine blk_alloc ?_ _)); refine blk_put (cs := #[.string (⟨#[]⟩ : ByteArray), .int .i64 0, .bool false]) ?_ 2 _ rfl; (with_reducible repeat (first | refine blk_drewN ?_ _ | refine blk_drew ?_ | refine blk_alloc ?_ _)); refine blk_put (cs := #[.string (⟨#[]⟩ : ByteArray), .int .i64 0, .bool false]) ?_ 1 _ rfl; (with_reducible repeat (first | refine blk_drewN ?_ _ | refine blk_drew ?_ | refine blk_alloc ?_ _)); refine blk_put (cs := #[.string (⟨#[]⟩ : ByteArray), .int .i64 0, .bool false]) ?_ 0 _ rfl; (with_reducible repeat (first | refine blk_drewN ?_ _ | refine blk_drew ?_ | refine blk_alloc ?_ _)); exact BK.out) Tryd.underlying38 rfl (by kernel_rfl)) rfl ?_
      exact ⟨rfl, by repeat (first | (with_reducible first | exact HB.out | apply below_alloc | apply pw_below_drewN | apply below_drew1 | refine below_set ?_ GW.out) | exact HB.out)⟩
    · have hk : ((1 : Int) == (s.size : Int)) = false := beq_eq_false_iff_ne.2 (by omega)
      have hx0 : ∀ h : 1 < s.size, ((s[1]'h).toNat : Int) = bt s 1 := bt_at s 1
      have hlt : ((1 : Int) < (s.size : Int)) = True := eq_true (by omega)
      have hlt' : (1 < s.size) = True := eq_true (by omega)
      by_cases c1 : bt s 1 = 120
      · have hh : numHex s = true := by simp [numHex, c1]
        have hf : numFrom s = 2 := by simp [numFrom, hh]
        have k1 : (bt s 1 == 120) = true := beq_iff_eq.2 c1
        go_wp2
        go_step3
        simp only [Exit.then]
        apply_assumption
        refine PASS'.out _ _ ?_
        refine numJ_of 2 ?_ ⟨by omega, h1⟩ (by unfold numAt; rw [hf]) BK.out HB.out
        rw [hh, hf]
        rfl
      have k1 : (bt s 1 == 120) = false := beq_eq_false_iff_ne.2 c1
      by_cases c2 : bt s 1 = 88
      · have hh : numHex s = true := by simp [numHex, c2]
        have hf : numFrom s = 2 := by simp [numFrom, hh]
        have k2 : (bt s 1 == 88) = true := beq_iff_eq.2 c2
        go_wp2
        go_step3
        simp only [Exit.then]
        apply_assumption
        refine PASS'.out _ _ ?_
        refine numJ_of 2 ?_ ⟨by omega, h1⟩ (by unfold numAt; rw [hf]) BK.out HB.out
        rw [hh, hf]
        rfl
      · have k2 : (bt s 1 == 88) = false := beq_eq_false_iff_ne.2 c2
        have hh : numHex s = false := by simp [numHex, c1, c2]
        have hf : numFrom s = 1 := by simp [numFrom, hh]
        go_wp2
        go_step3
        simp only [Exit.then]
        apply_assumption
        refine PASS'.out _ _ ?_
        refine numJ_of 1 ?_ ⟨by omega, h1⟩ (by unfold numAt; rw [hf]) BK.out HB.out
        rw [hh, hf]
        rfl
end Go.Proofs.YthmbbkbmlnaghaaDoor.P
end
