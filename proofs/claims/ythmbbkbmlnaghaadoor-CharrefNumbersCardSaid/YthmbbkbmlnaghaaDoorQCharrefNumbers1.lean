/-
  Part 2 of 4 of the proof's texts, joined: PA0, PA2, Lencode, Shelf, Hencode, Lw, PA1, Hent, Hsays, Hconv.
  (Where a joined text began as one that the kit's print.sh printed, it is trimmed here to what this claim uses, by this session's pack.py.)
-/
import Derived.Test.YthmbbkbmlnaghaaDoorQCharrefNumbers0
import Derived.Test.YthmbbkbmlnaghaaDoorProg
import Derived.Below
import Derived.Deep.Draws
import Derived.Deep.AppendLies
import Derived.Maps.AppendAt
import Derived.OwnWalk
import Derived.Laws.BytesArg
import Derived.Laws.MakeOwn
import Derived.Laws.OwnMore
import Derived.Deep.OwnRows
import Derived.Tactics
import Derived.Lib.ConvBytes
import Derived.Laws.Slices
import Derived.WalkKit
import Derived.KernelRfl
import Derived.RowKit3
import Derived.Deep.LoopGhost
import Derived.Deep.QuietTactic
import Derived.BigQuiet
import Derived.WideLaws
import Derived.Deep.DeepCutAuto
import Derived.Deep.CutBlock
import Derived.Deep.RegionHeld3
import Derived.Laws.Rows
import Derived.Lib.AppendStr
import Derived.ArgAppend
import Derived.Laws.IdiomCopy
import Derived.OrdersHeld
import Derived.Laws.BitsLemmas
import Derived.RowKit
import Derived.Lib.ItoaNum
import Derived.Shelf.Strings.Builder1
import Derived.Shelf.Strings.Builder2
import Derived.Shelf.Small.Utf8
import Derived.Shelf.Strings.BuilderF
import Derived.Shelf.Strings.BuilderK
import Derived.Shelf.Strconv.Itoa0
import Derived.Shelf.Strconv.Itoa1
import Derived.Shelf.LaysM
import Derived.Shelf.Strconv.Itoa2
import Derived.Shelf.Strconv.Itoa3
import Derived.Shelf.Strconv.Itoa4
import Derived.Shelf.Unicode.Latin
import Derived.Shelf.Unicode.Decode
import Derived.Shelf.Unicode.DecodeSlow
import Derived.Shelf.Unicode.DecodeAny
import Derived.Shelf.Unicode.CaseLookup
import Derived.Shelf.Unicode.CaseConvert
import Derived.Shelf.Unicode.CaseTo
import Derived.Shelf.Unicode.CaseLaid
import Derived.Lib.ItoaLen
import Derived.Lib.ItoaMem
import Derived.Deep.WholeRow
import Derived.Laws.Cover4
section
namespace Go.Proofs.YthmbbkbmlnaghaaDoor.P
open Go.RowKit Go.Proofs.YthmbbkbmlnaghaaDoorW.PrintWords Go.Proofs.YthmbbkbmlnaghaaDoorW.PrintLast Go.Proofs.YthmbbkbmlnaghaaDoorW.PrintMore
attribute [local go_sem] max2_int min2_int max_two min_two max_three min_three max_four min_four   -- for this text's walks alone
set_option linter.unusedVariables false
set_option linter.unusedSimpArgs false



def errW : Option Int → Value
 | none => .nilIface
 | some c => .iface 0 (.int .i64 c)
theorem errW_none : errW none = .nilIface := rfl
theorem errW_some (c : Int) : errW (some c) = .iface 0 (.int .i64 c) := rfl

theorem info5 : (Tryd.prog.info? 5).map (fun i => (i.zero, i.size, i.bytes)) = some (some (.int .u8 0), 1, 1) := by kernel_rfl
theorem info21 : (Tryd.prog.info? 21).map (fun i => (i.zero, i.size, i.bytes)) = some (some (.int .i32 0), 1, 4) := by kernel_rfl
-- the values' own types
/-! #### struct type 70 -/
structure S70 where
 f0 : Int
 f1 : Int
 f2 : Int
 f3 : Bool
def z70 : S70 := ⟨(0 : Int), (0 : Int), (0 : Int), false⟩
/-! #### struct type 75 -/
structure S75 where
 f0 : ByteArray
 f1 : Int
 f2 : Int
 f3 : Bool
def z75 : S75 := ⟨(⟨#[]⟩ : ByteArray), (0 : Int), (0 : Int), false⟩
def k75 : Kd S75 := Kd.iso (Kd.pair Kd.string (Kd.pair (Kd.int .i32) (Kd.pair (Kd.int .i32) Kd.bool))) (fun x : S75 => (x.f0, x.f1, x.f2, x.f3))
theorem k75_open {w : World} {x : S75} {cs : List Value} (h : k75.K w x cs) : cs = [.string x.f0, .int .i32 x.f1, .int .i32 x.f2, .bool x.f3] := by
 obtain ⟨_, _, rfl, rfl, ⟨_, _, rfl, rfl, ⟨_, _, rfl, rfl, rfl⟩⟩⟩ := h
 exact rfl
theorem k75_mkM (w : World) (base : Nat) (ok : Nat → Prop) (x : S75)  : k75.M w base ok x [.string x.f0, .int .i32 x.f1, .int .i32 x.f2, .bool x.f3] := ⟨[.string x.f0], [.int .i32 x.f1, .int .i32 x.f2, .bool x.f3], rfl, rfl, ⟨[.int .i32 x.f1], [.int .i32 x.f2, .bool x.f3], rfl, rfl, ⟨[.int .i32 x.f2], [.bool x.f3], rfl, rfl, rfl⟩⟩⟩
def rd_T75 (xs : List S75) (i : Int) : S75 := xs.getD i.toNat z75
theorem at_T75 {w : World} {A : Option Addr} {n : Nat} {xs : List S75} (h : Kd.C k75 w A n xs) (i : Int) (h0 : 0 ≤ i) (h1 : i < n) : ∃ ad , A = some ad ∧ w.cell? (ad.add (i.toNat * 4)) = some (.string (rd_T75 xs i).f0) ∧ w.cell? ⟨(ad.add (i.toNat * 4)).block, (ad.add (i.toNat * 4)).off + 1, none⟩ = some (.int .i32 (rd_T75 xs i).f1) ∧ w.cell? ⟨(ad.add (i.toNat * 4)).block, (ad.add (i.toNat * 4)).off + 2, none⟩ = some (.int .i32 (rd_T75 xs i).f2) ∧ w.cell? ⟨(ad.add (i.toNat * 4)).block, (ad.add (i.toNat * 4)).off + 3, none⟩ = some (.bool (rd_T75 xs i).f3) := by
 obtain ⟨ad, c, e, _, hK, hc0⟩ := Kd.C_get h z75 i h0 h1
 have hc : ∀ j u, c[j]? = some u → w.cell? (ad.add (i.toNat * 4 + j)) = some u := hc0
 obtain rfl := k75_open hK
 exact ⟨ad, e, hc 0 _ rfl, by rw [← add_field _ _ 1 (by omega)]; exact hc 1 _ rfl, by rw [← add_field _ _ 2 (by omega)]; exact hc 2 _ rfl, by rw [← add_field _ _ 3 (by omega)]; exact hc 3 _ rfl⟩

end Go.Proofs.YthmbbkbmlnaghaaDoor.P
end
section
namespace Go.Proofs.YthmbbkbmlnaghaaDoor.P
open Go.RowKit Go.Proofs.YthmbbkbmlnaghaaDoorW.PrintWords Go.Proofs.YthmbbkbmlnaghaaDoorW.PrintLast Go.Proofs.YthmbbkbmlnaghaaDoorW.PrintMore
attribute [local go_sem] max2_int min2_int max_two min_two max_three min_three max_four min_four   -- for this text's walks alone
set_option linter.unusedVariables false
set_option linter.unusedSimpArgs false

/-! ### sieveref04_Digit: function 38 -/
def sieveref04_Digit.f (a0 : Int) : Option (Bool) := if a0 ≥ 48 then (some (decide (a0 ≤ 57))) else (some false)
set_option maxHeartbeats 8000000 in
set_option maxRecDepth 100000 in
theorem sieveref04_Digit.calls (a0 : Int) (r : Bool) (w : World) (h : sieveref04_Digit.f a0 = some r) :
  Calls Tryd.prog 38 #[.int .i32 a0] w fun e w' => e = .returned (.bool r) ∧ Drawn0 w w' := by
 have H : (if a0 ≥ 48 then (some (decide (a0 ≤ 57))) else (some false)) = some r := h
 clear h
 by_cases c2 : a0 ≥ 48
 ·rw [if_pos c2] at H
  have c2b0 : decide (48 ≤ a0) = true := decide_eq_true c2
  clear c2
  obtain rfl := Option.some.inj H
  go_enter Tryd.func38, Tryd.ntmps38
  go_wp2
  go_ret
  exact ⟨by first | rfl | (simp; done) | (simp [*]; done), by repeat (first | exact Drawn0.refl _ | apply Drawn0.step)⟩
 ·rw [if_neg c2] at H
  have c2b0 : decide (48 ≤ a0) = false := decide_eq_false c2
  clear c2
  obtain rfl := Option.some.inj H
  go_enter Tryd.func38, Tryd.ntmps38
  go_wp2
  go_ret
  exact ⟨by first | rfl | (simp; done) | (simp [*]; done), by repeat (first | exact Drawn0.refl _ | apply Drawn0.step)⟩

/-! ### sieveref04_Value: function 19 -/
def sieveref04_Value.j0 : Nat → Int → Bool → Option (Int)
 | 0, _, _ => none
 | k + 1, x0, x9 => if x9 = true then (some (wrap64 ((wrap64 (wrap32 (x0 - 97))) + 10))) else (if x0 ≥ 65 then (if x0 ≤ 70 then (some (wrap64 ((wrap64 (wrap32 (x0 - 65))) + 10))) else (some (-1))) else (some (-1)))
def sieveref04_Value.f (k : Nat) (a0 : Int) : Option (Int) := (sieveref04_Digit.f a0).bind fun t140 => (if t140 = true then (some (wrap64 (wrap32 (a0 - 48)))) else (if a0 ≥ 97 then (sieveref04_Value.j0 k a0 (decide (a0 ≤ 102))) else (sieveref04_Value.j0 k a0 false)))
set_option maxHeartbeats 8000000 in
set_option maxRecDepth 100000 in
theorem sieveref04_Value.calls (k : Nat) (a0 : Int) (r : Int) (w : World) (h : sieveref04_Value.f k a0 = some r) :
  Calls Tryd.prog 19 #[.int .i32 a0] w fun e w' => e = .returned (.int .i64 r) ∧ Drawn0 w w' := by
 have H : ((sieveref04_Digit.f a0).bind fun t140 => (if t140 = true then (some (wrap64 (wrap32 (a0 - 48)))) else (if a0 ≥ 97 then (sieveref04_Value.j0 k a0 (decide (a0 ≤ 102))) else (sieveref04_Value.j0 k a0 false)))) = some r := h
 clear h
 replace H := Option.bind_eq_some_iff.mp H
 obtain ⟨t140, A20, H⟩ := H
 replace H : (if t140 = true then (some (wrap64 (wrap32 (a0 - 48)))) else (if a0 ≥ 97 then (sieveref04_Value.j0 k a0 (decide (a0 ≤ 102))) else (sieveref04_Value.j0 k a0 false))) = some r := H
 have A2 := Aside0.mk A20
 clear A20
 by_cases c3 : t140 = true
 ·subst c3
  have H1 : (some (wrap64 (wrap32 (a0 - 48)))) = some r := by rw [if_pos rfl] at H; exact H
  clear H
  have H := H1
  clear H1
  obtain rfl := Option.some.inj H
  go_enter Tryd.func19, Tryd.ntmps19
  go_wp2_with (first | ((with_reducible refine gate_callee (f := 38) rfl ?_); refine goesL_ (some 5) rfl rfl Tryd.func38 (by kernel_rfl) rfl #[.int .i32 a0] rfl (by (try simp only [List.map_toArray, List.map_cons, List.map_nil]); first | done | rfl | (simp only [List.length_drop, List.length_take]; rfl) | (simp [*] <;> rfl)) ?_; (with_reducible refine (sieveref04_Digit.calls a0 true _ A2.out).mono ?_); rintro e w' ⟨rfl, ⟨nd, rfl⟩⟩; refine ⟨_, rfl, ?_⟩))
  go_ret
  exact ⟨by first | rfl | (simp; done) | (simp [*]; done), by repeat (first | exact Drawn0.refl _ | apply Drawn0.step)⟩
 ·replace c3 := Bool.eq_false_iff.mpr c3
  subst c3
  have H1 : (if a0 ≥ 97 then (sieveref04_Value.j0 k a0 (decide (a0 ≤ 102))) else (sieveref04_Value.j0 k a0 false)) = some r := by rw [if_neg (show ¬ (false = true) by decide)] at H; exact H
  clear H
  have H := H1
  clear H1
  have HC4 := Aside0.mk H
  clear H
  go_enter Tryd.func19, Tryd.ntmps19
  go_upto_region 3 with (first | ((with_reducible refine gate_callee (f := 38) rfl ?_); refine goesL_ (some 5) rfl rfl Tryd.func38 (by kernel_rfl) rfl #[.int .i32 a0] rfl (by (try simp only [List.map_toArray, List.map_cons, List.map_nil]); first | done | rfl | (simp only [List.length_drop, List.length_take]; rfl) | (simp [*] <;> rfl)) ?_; (with_reducible refine (sieveref04_Digit.calls a0 false _ A2.out).mono ?_); rintro e w' ⟨rfl, ⟨nd, rfl⟩⟩; refine ⟨_, rfl, ?_⟩))
  (try simp only [Act.put, List.setIfInBounds_toArray, List.set_cons_zero, List.set_cons_succ])
  go_cut [9] (fun v9 wc => ∃ (kq : Nat) (x9_3 : Bool), v9 = .bool x9_3 ∧ Aside0 (sieveref04_Value.j0 kq a0 x9_3 = some r) ∧ Aside0 (kq ≤ k) ∧ Drawn0 w wc)
  case first =>
   have H := HC4.out
   clear HC4
   by_cases c5 : a0 ≥ 97
   ·rw [if_pos c5] at H
    have c5b0 : decide (97 ≤ a0) = true := decide_eq_true c5
    clear c5
    (first | rw [c5b0] | (simp only [i64_w, i32_w]; rw [c5b0]) | skip)
    have H' := Aside0.mk H
    clear H
    go_wp2
    go_meet
    case rel => exact ⟨_, (decide (a0 ≤ 102)), (by first | rfl | (simp; done) | (simp [*]; done) | (unfold bt; split <;> first | rfl | (exfalso; simp_all; done) | (exfalso; simp_all; omega))), H', ⟨by first | omega | exact Nat.le_refl _⟩, by repeat (first | exact Drawn0.refl _ | apply Drawn0.step)⟩
   ·rw [if_neg c5] at H
    have c5b0 : decide (97 ≤ a0) = false := decide_eq_false c5
    clear c5
    (first | rw [c5b0] | (simp only [i64_w, i32_w]; rw [c5b0]) | skip)
    have H' := Aside0.mk H
    clear H
    go_wp2
    go_meet
    case rel => exact ⟨_, (false), (by first | rfl | (simp; done) | (simp [*]; done) | (unfold bt; split <;> first | rfl | (exfalso; simp_all; done) | (exfalso; simp_all; omega))), H', ⟨by first | omega | exact Nat.le_refl _⟩, by repeat (first | exact Drawn0.refl _ | apply Drawn0.step)⟩
  case rest =>
   clear HC4
   try clear c1
   try clear p2
   try clear c3
   try clear p3
   try clear c5
   try clear c5b0
   obtain ⟨kq, x9_3, rfl, HA, HJ3, ⟨mc3, rfl⟩⟩ := hcut
   cases kq with
   | zero => exact absurd HA.out (by simp [sieveref04_Value.j0])
   | succ kj3 =>
    have H := HA.out
    clear HA
    simp only [sieveref04_Value.j0] at H
    by_cases c6 : x9_3 = true
    ·subst c6
     have H1 : (some (wrap64 ((wrap64 (wrap32 (a0 - 97))) + 10))) = some r := by rw [if_pos rfl] at H; exact H
     clear H
     have H := H1
     clear H1
     obtain rfl := Option.some.inj H
     go_wp2
     go_ret
     exact ⟨by first | rfl | (simp; done) | (simp [*]; done), by repeat (first | exact Drawn0.refl _ | apply Drawn0.step)⟩
    ·replace c6 := Bool.eq_false_iff.mpr c6
     subst c6
     have H1 : (if a0 ≥ 65 then (if a0 ≤ 70 then (some (wrap64 ((wrap64 (wrap32 (a0 - 65))) + 10))) else (some (-1))) else (some (-1))) = some r := by rw [if_neg (show ¬ (false = true) by decide)] at H; exact H
     clear H
     have H := H1
     clear H1
     by_cases c7 : a0 ≥ 65
     ·rw [if_pos c7] at H
      have c7b0 : decide (65 ≤ a0) = true := decide_eq_true c7
      clear c7
      by_cases c8 : a0 ≤ 70
      ·rw [if_pos c8] at H
       have c8b0 : decide (a0 ≤ 70) = true := decide_eq_true c8
       clear c8
       obtain rfl := Option.some.inj H
       go_wp2
       go_ret
       exact ⟨by first | rfl | (simp; done) | (simp [*]; done), by repeat (first | exact Drawn0.refl _ | apply Drawn0.step)⟩
      ·rw [if_neg c8] at H
       have c8b0 : decide (a0 ≤ 70) = false := decide_eq_false c8
       clear c8
       obtain rfl := Option.some.inj H
       go_wp2
       go_ret
       exact ⟨by first | rfl | (simp; done) | (simp [*]; done), by repeat (first | exact Drawn0.refl _ | apply Drawn0.step)⟩
     ·rw [if_neg c7] at H
      have c7b0 : decide (65 ≤ a0) = false := decide_eq_false c7
      clear c7
      obtain rfl := Option.some.inj H
      go_wp2
      go_ret
      exact ⟨by first | rfl | (simp; done) | (simp [*]; done), by repeat (first | exact Drawn0.refl _ | apply Drawn0.step)⟩

/-! ### sieveref06_Windows: function 20 -/
def sieveref06_Windows.f (a0 : Int) : Option (Int) := (some (([8364, 0, 8218, 402, 8222, 8230, 8224, 8225, 710, 8240, 352, 8249, 338, 0, 381, 0, 0, 8216, 8217, 8220, 8221, 8226, 8211, 8212, 732, 8482, 353, 8250, 339, 0, 382, 376] : List Int) : List Int)).bind fun y141 => (if 0 ≤ (wrap64 (a0 - 128)) then (if (wrap64 (a0 - 128)) < (y141.length : Int) then (some (rd y141 (wrap64 (a0 - 128)))) else (none)) else (none))
set_option maxHeartbeats 8000000 in
set_option maxRecDepth 100000 in
theorem sieveref06_Windows.calls (a0 : Int) (r : Int) (w : World) (h : sieveref06_Windows.f a0 = some r) :
  Calls Tryd.prog 20 #[.int .i64 a0] w fun e w' => e = .returned (.int .i32 r) ∧ Below w.heap.size w w' := by
 have HB := Aside0.mk (Below.refl w.heap.size w)
 have H : ((some (([8364, 0, 8218, 402, 8222, 8230, 8224, 8225, 710, 8240, 352, 8249, 338, 0, 381, 0, 0, 8216, 8217, 8220, 8221, 8226, 8211, 8212, 732, 8482, 353, 8250, 339, 0, 382, 376] : List Int) : List Int)).bind fun y141 => (if 0 ≤ (wrap64 (a0 - 128)) then (if (wrap64 (a0 - 128)) < (y141.length : Int) then (some (rd y141 (wrap64 (a0 - 128)))) else (none)) else (none))) = some r := h
 clear h
 obtain ⟨y141, hy141⟩ : ∃ y_ : List Int, y_ = (([8364, 0, 8218, 402, 8222, 8230, 8224, 8225, 710, 8240, 352, 8249, 338, 0, 381, 0, 0, 8216, 8217, 8220, 8221, 8226, 8211, 8212, 732, 8482, 353, 8250, 339, 0, 382, 376] : List Int)) := ⟨_, rfl⟩
 replace H : (if 0 ≤ (wrap64 (a0 - 128)) then (if (wrap64 (a0 - 128)) < (y141.length : Int) then (some (rd y141 (wrap64 (a0 - 128)))) else (none)) else (none)) = some r := by first | (rw [hy141]; with_reducible exact H) | (have H2_ := (Option.bind_some _ _).symm.trans H; rw [hy141]; with_reducible exact H2_) | (have H2_ := (Option.bind_some _ _).symm.trans H; with_reducible exact H2_) | with_reducible exact H | (rw [hy141]; exact H) | exact H
 have Ny141 := Aside0.mk hy141
 clear hy141
 obtain ⟨ji2, hji2⟩ : ∃ j_ : Int, (wrap64 (a0 - 128)) = j_ := ⟨_, rfl⟩
 replace H : (if 0 ≤ (ji2) then (if (ji2) < (y141.length : Int) then (some (rd y141 (ji2))) else (none)) else (none)) = some r := by first | (rw [hji2] at H; exact H) | (simp only [hji2] at H ⊢; exact H)
 have hji2w : (IntKind.i64.wrap (a0 - 128)) = ji2 := (i64_w _).trans hji2
 by_cases c3 : 0 ≤ (ji2)
 ·rw [if_pos c3] at H
  have c3b0 : decide (0 ≤ (ji2)) = true := decide_eq_true c3
  clear c3
  by_cases c4 : (ji2) < (y141.length : Int)
  ·rw [if_pos c4] at H
   have c4b0 : decide ((ji2) < (y141.length : Int)) = true := decide_eq_true c4
   clear c4
   obtain rfl := Option.some.inj H
   go_enter Tryd.func20, Tryd.ntmps20
   go_wp2_with (first | ((with_reducible refine gate_dst (N := 4) rfl ?_); refine Kd.R_lit (Kd.int .i32) _ 21 ?hg (N := 4) ?hd (xs := ([8364, 0, 8218, 402, 8222, 8230, 8224, 8225, 710, 8240, 352, 8249, 338, 0, 381, 0, 0, 8216, 8217, 8220, 8221, 8226, 8211, 8212, 732, 8482, 353, 8250, 339, 0, 382, 376] : List Int)) (inner := [.int .i32 8364, .int .i32 0, .int .i32 8218, .int .i32 402, .int .i32 8222, .int .i32 8230, .int .i32 8224, .int .i32 8225, .int .i32 710, .int .i32 8240, .int .i32 352, .int .i32 8249, .int .i32 338, .int .i32 0, .int .i32 381, .int .i32 0, .int .i32 0, .int .i32 8216, .int .i32 8217, .int .i32 8220, .int .i32 8221, .int .i32 8226, .int .i32 8211, .int .i32 8212, .int .i32 732, .int .i32 8482, .int .i32 353, .int .i32 8250, .int .i32 339, .int .i32 0, .int .i32 382, .int .i32 376]) (ok := fun _ => True) (okp := fun _ => True) ?hr ?hp (fun _ hk => hk) trivial (Below.refl _ _) (Nat.le_refl _) (by simp) ?_; (case hd => rfl); (case hg => rfl); (case hr => first | (go_simp; done) | (go_simp; rfl)); (case hp => exact (Reps.one (show Kd.M (Kd.int .i32) _ _ _ 8364 [.int .i32 8364] from rfl) (Reps.one (show Kd.M (Kd.int .i32) _ _ _ 0 [.int .i32 0] from rfl) (Reps.one (show Kd.M (Kd.int .i32) _ _ _ 8218 [.int .i32 8218] from rfl) (Reps.one (show Kd.M (Kd.int .i32) _ _ _ 402 [.int .i32 402] from rfl) (Reps.one (show Kd.M (Kd.int .i32) _ _ _ 8222 [.int .i32 8222] from rfl) (Reps.one (show Kd.M (Kd.int .i32) _ _ _ 8230 [.int .i32 8230] from rfl) (Reps.one (show Kd.M (Kd.int .i32) _ _ _ 8224 [.int .i32 8224] from rfl) (Reps.one (show Kd.M (Kd.int .i32) _ _ _ 8225 [.int .i32 8225] from rfl) (Reps.one (show Kd.M (Kd.int .i32) _ _ _ 710 [.int .i32 710] from rfl) (Reps.one (show Kd.M (Kd.int .i32) _ _ _ 8240 [.int .i32 8240] from rfl) (Reps.one (show Kd.M (Kd.int .i32) _ _ _ 352 [.int .i32 352] from rfl) (Reps.one (show Kd.M (Kd.int .i32) _ _ _ 8249 [.int .i32 8249] from rfl) (Reps.one (show Kd.M (Kd.int .i32) _ _ _ 338 [.int .i32 338] from rfl) (Reps.one (show Kd.M (Kd.int .i32) _ _ _ 0 [.int .i32 0] from rfl) (Reps.one (show Kd.M (Kd.int .i32) _ _ _ 381 [.int .i32 381] from rfl) (Reps.one (show Kd.M (Kd.int .i32) _ _ _ 0 [.int .i32 0] from rfl) (Reps.one (show Kd.M (Kd.int .i32) _ _ _ 0 [.int .i32 0] from rfl) (Reps.one (show Kd.M (Kd.int .i32) _ _ _ 8216 [.int .i32 8216] from rfl) (Reps.one (show Kd.M (Kd.int .i32) _ _ _ 8217 [.int .i32 8217] from rfl) (Reps.one (show Kd.M (Kd.int .i32) _ _ _ 8220 [.int .i32 8220] from rfl) (Reps.one (show Kd.M (Kd.int .i32) _ _ _ 8221 [.int .i32 8221] from rfl) (Reps.one (show Kd.M (Kd.int .i32) _ _ _ 8226 [.int .i32 8226] from rfl) (Reps.one (show Kd.M (Kd.int .i32) _ _ _ 8211 [.int .i32 8211] from rfl) (Reps.one (show Kd.M (Kd.int .i32) _ _ _ 8212 [.int .i32 8212] from rfl) (Reps.one (show Kd.M (Kd.int .i32) _ _ _ 732 [.int .i32 732] from rfl) (Reps.one (show Kd.M (Kd.int .i32) _ _ _ 8482 [.int .i32 8482] from rfl) (Reps.one (show Kd.M (Kd.int .i32) _ _ _ 353 [.int .i32 353] from rfl) (Reps.one (show Kd.M (Kd.int .i32) _ _ _ 8250 [.int .i32 8250] from rfl) (Reps.one (show Kd.M (Kd.int .i32) _ _ _ 339 [.int .i32 339] from rfl) (Reps.one (show Kd.M (Kd.int .i32) _ _ _ 0 [.int .i32 0] from rfl) (Reps.one (show Kd.M (Kd.int .i32) _ _ _ 382 [.int .i32 382] from rfl) (Reps.one (show Kd.M (Kd.int .i32) _ _ _ 376 [.int .i32 376] from rfl) (Reps.none _ _)))))))))))))))))))))))))))))))))); intro v142 w5 ho6 hb hg_ hnew_; clear hg_ hnew_; (first | rw [← Ny141.out] at ho6 | (simp only [Int.reduceToNat] at ho6; rw [← Ny141.out] at ho6)); have n0_ := Aside0.mk (Kd.R_lower ho6 (below_size (by repeat (first | (with_reducible first | exact HB.out | apply below_alloc | apply pw_below_drewN | apply below_drew1) | exact HB.out)))); have n1_ := Aside0.mk (below_step (by repeat (first | (with_reducible first | exact HB.out | apply below_alloc | apply pw_below_drewN | apply below_drew1) | exact HB.out)) hb); clear HB; have HO143 := n0_; have HB := n1_; clear n0_ n1_; clear hb ho6; obtain ⟨Ao7, co7, eo7⟩ := Kd.R_slice HO143.out; subst eo7; have p144 : 0 ≤ ((ji2) : Int) := of_decide_eq_true (by first | (with_reducible assumption) | assumption); have q144 : (ji2) < (y141.length : Int) := of_decide_eq_true (by first | (with_reducible assumption) | assumption); obtain ⟨ad144, e144, hx144_0⟩ := Kd.at_int (Kd.R_reads' HO143.out).2.2 (ji2) p144 q144; cases e144; replace p144 := eq_true p144; replace q144 := eq_true q144))
   go_ret
   exact ⟨by first | rfl | (simp [errW_none, errW_some] <;> rfl) | (simp only [← hji2]; first | rfl | (simp [errW_none, errW_some] <;> rfl)) | (simp [*, errW_none, errW_some] <;> rfl), by repeat (first | (with_reducible first | exact HB.out | apply below_alloc | apply pw_below_drewN | apply below_drew1) | exact HB.out)⟩
  ·rw [if_neg c4] at H
   exact absurd H (by simp)
 ·rw [if_neg c3] at H
  exact absurd H (by simp)

/-! ### sieveref06_Number: function 8 -/
mutual
def sieveref06_Number.j0 : Nat → ByteArray → Int → Option (Int × Bool)
 | 0, _, _ => none
 | k + 1, x0, x6 => sieveref06_Number.l0 k x0 x6 0 0
def sieveref06_Number.l0 : Nat → ByteArray → Int → Int → Int → Option (Int × Bool)
 | 0, _, _, _, _ => none
 | k + 1, x0, x6, x7, x8 => if x8 < (x0.size : Int) then (if 0 ≤ x8 then ((sieveref04_Value.f k (wrap32 (bt x0 x8))).bind fun t145 => (if t145 < 0 then (sieveref06_Number.j2 k x0 x6 x7 x8 t145 true) else (sieveref06_Number.j2 k x0 x6 x7 x8 t145 (decide (t145 ≥ x6))))) else (none)) else (if x0.toList = ([] : List UInt8) then (sieveref06_Number.j3 k x7 true) else (if x7 = 0 then (sieveref06_Number.j3 k x7 true) else (if x7 > 1114111 then (sieveref06_Number.j3 k x7 true) else (if x7 ≥ 55296 then (sieveref06_Number.j3 k x7 (decide (x7 ≤ 57343))) else (sieveref06_Number.j3 k x7 false)))))
def sieveref06_Number.j2 : Nat → ByteArray → Int → Int → Int → Int → Bool → Option (Int × Bool)
 | 0, _, _, _, _, _, _ => none
 | k + 1, x0, x6, x7, x8, x9, x28 => if x28 = true then (some (65533, false)) else (if (wrap64 ((wrap64 (x7 * x6)) + x9)) > 1114111 then (sieveref06_Number.l0 k x0 x6 1114112 (wrap64 (x8 + 1))) else (sieveref06_Number.l0 k x0 x6 (wrap64 ((wrap64 (x7 * x6)) + x9)) (wrap64 (x8 + 1))))
def sieveref06_Number.j3 : Nat → Int → Bool → Option (Int × Bool)
 | 0, _, _ => none
 | k + 1, x7, x36 => if x36 = true then (some (65533, false)) else (if x7 ≥ 128 then (if x7 ≤ 159 then ((sieveref06_Windows.f x7).bind fun t146 => (if t146 = 0 then (some (wrap32 (x7), true)) else ((sieveref06_Windows.f x7).bind fun t147 => (some (t147, false))))) else (some (wrap32 (x7), true))) else (some (wrap32 (x7), true)))
end
def sieveref06_Number.f (k : Nat) (a0 : ByteArray) (a1 : Bool) : Option (Int × Bool) := if a1 = true then (sieveref06_Number.j0 k a0 16) else (sieveref06_Number.j0 k a0 10)
set_option maxHeartbeats 8000000 in
set_option maxRecDepth 100000 in
theorem sieveref06_Number.calls (k : Nat) (a0 : ByteArray) (a1 : Bool) (r1 : Int) (r2 : Bool) (w : World) (h : sieveref06_Number.f k a0 a1 = some (r1, r2)) :
  Calls Tryd.prog 8 #[.string a0, .bool a1] w fun e w' => e = .returned (.tuple #[.int .i32 r1, .bool r2]) ∧ Below w.heap.size w w' := by
 have HB := Aside0.mk (Below.refl w.heap.size w)
 have H : (if a1 = true then (sieveref06_Number.j0 k a0 16) else (sieveref06_Number.j0 k a0 10)) = some (r1, r2) := h
 clear h
 have HC3 := Aside0.mk H
 clear H
 go_enter Tryd.func8, Tryd.ntmps8
 go_upto_if 10 with (fail)
 go_cut [6] (fun v6 wc => ∃ (kq : Nat) (x6_2 : Int), v6 = .int .i64 x6_2 ∧ Aside0 (sieveref06_Number.j0 kq a0 x6_2 = some (r1, r2)) ∧ Aside0 (kq ≤ k) ∧ Aside0 (Below w.heap.size w wc))
 case first =>
  have H := HC3.out
  clear HC3
  by_cases c4 : a1 = true
  ·subst c4
   have H1 : (sieveref06_Number.j0 k a0 16) = some (r1, r2) := by rw [if_pos rfl] at H; exact H
   clear H
   have H := H1
   clear H1
   have H' := Aside0.mk H
   clear H
   go_wp2
   go_meet
   case rel => exact ⟨_, (16), (by first | rfl | (simp; done) | (simp [*]; done) | (unfold bt; split <;> first | rfl | (exfalso; simp_all; done) | (exfalso; simp_all; omega))), H', ⟨by first | omega | exact Nat.le_refl _⟩, ⟨by repeat (first | (with_reducible first | exact HB.out | apply below_alloc | apply pw_below_drewN | apply below_drew1) | exact HB.out)⟩⟩
  ·replace c4 := Bool.eq_false_iff.mpr c4
   subst c4
   have H1 : (sieveref06_Number.j0 k a0 10) = some (r1, r2) := by rw [if_neg (show ¬ (false = true) by decide)] at H; exact H
   clear H
   have H := H1
   clear H1
   have H' := Aside0.mk H
   clear H
   go_wp2
   go_meet
   case rel => exact ⟨_, (10), (by first | rfl | (simp; done) | (simp [*]; done) | (unfold bt; split <;> first | rfl | (exfalso; simp_all; done) | (exfalso; simp_all; omega))), H', ⟨by first | omega | exact Nat.le_refl _⟩, ⟨by repeat (first | (with_reducible first | exact HB.out | apply below_alloc | apply pw_below_drewN | apply below_drew1) | exact HB.out)⟩⟩
 case rest =>
  clear HC3
  try clear p2
  try clear c4
  obtain ⟨kq, x6_2, rfl, HA, HJ2, HB⟩ := hcut
  cases kq with
  | zero => exact absurd HA.out (by simp [sieveref06_Number.j0])
  | succ kj2 =>
   have H := HA.out
   clear HA
   simp only [sieveref06_Number.j0] at H
   have H' := Aside0.mk H
   clear H
   go_wp2
   go_loopg [7, 8] kj2 (fun kq v7 v8 w' => ∃ (x7_2 : Int) (x8_2 : Int), v7 = .int .i64 x7_2 ∧ v8 = .int .i64 x8_2 ∧ Aside0 (sieveref06_Number.l0 kq a0 x6_2 x7_2 x8_2 = some (r1, r2)) ∧ Aside0 (kq ≤ kj2) ∧ Aside0 (Below w.heap.size w w'))
   case atStart => exact ⟨(0), (0), (by first | rfl | (simp; done) | (simp [*]; done) | (unfold bt; split <;> first | rfl | (exfalso; simp_all; done) | (exfalso; simp_all; omega))), (by first | rfl | (simp; done) | (simp [*]; done) | (unfold bt; split <;> first | rfl | (exfalso; simp_all; done) | (exfalso; simp_all; omega))), H', ⟨Nat.le_refl _⟩, ⟨by repeat (first | (with_reducible first | exact HB.out | apply below_alloc | apply pw_below_drewN | apply below_drew1) | exact HB.out)⟩⟩
   case round =>
    clear H'
    try clear p2
    try clear c4
    try clear p2
    obtain ⟨x7_2, x8_2, rfl, rfl, HA, HK2, HB⟩ := hrel
    cases gk with
    | zero => exact absurd HA.out (by simp [sieveref06_Number.l0])
    | succ k2 =>
     have H := HA.out
     clear HA
     simp only [sieveref06_Number.l0] at H
     by_cases c5 : x8_2 < (a0.size : Int)
     ·rw [if_pos c5] at H
      have c5b0 : decide (x8_2 < (a0.size : Int)) = true := decide_eq_true c5
      clear c5
      by_cases c6 : 0 ≤ x8_2
      ·rw [if_pos c6] at H
       have c6b0 : decide (0 ≤ x8_2) = true := decide_eq_true c6
       clear c6
       replace H := Option.bind_eq_some_iff.mp H
       obtain ⟨t145, A80, H⟩ := H
       replace H : (if t145 < 0 then (sieveref06_Number.j2 k2 a0 x6_2 x7_2 x8_2 t145 true) else (sieveref06_Number.j2 k2 a0 x6_2 x7_2 x8_2 t145 (decide (t145 ≥ x6_2)))) = some (r1, r2) := H
       have A8 := Aside0.mk A80
       clear A80
       have HC9 := Aside0.mk H
       clear H
       have p7 : 0 ≤ (x8_2 : Int) := of_decide_eq_true (by first | (with_reducible assumption) | assumption)
       have q7 : x8_2 < (a0.size : Int) := of_decide_eq_true (by first | (with_reducible assumption) | assumption)
       have hx7 := bt_at a0 x8_2
       replace p7 := eq_true p7
       replace q7 := eq_true q7
       go_upto_region 9 with (first | ((with_reducible refine gate_callee (f := 19) rfl ?_); refine goesL_ (some 21) rfl rfl Tryd.func19 (by kernel_rfl) rfl #[.int .i32 (wrap32 (bt a0 x8_2))] rfl (by (try simp only [List.map_toArray, List.map_cons, List.map_nil]); first | done | rfl | (simp only [List.length_drop, List.length_take]; rfl) | (simp [*] <;> rfl)) ?_; (with_reducible refine (sieveref04_Value.calls k2 (wrap32 (bt a0 x8_2)) t145 _ A8.out).mono ?_); rintro e w' ⟨rfl, ⟨nd, rfl⟩⟩; refine ⟨_, rfl, ?_⟩))
       (try simp only [Act.put, List.setIfInBounds_toArray, List.set_cons_zero, List.set_cons_succ])
       go_cut [28] (fun v28 wc => ∃ (kq : Nat) (x28_8 : Bool), v28 = .bool x28_8 ∧ Aside0 (sieveref06_Number.j2 kq a0 x6_2 x7_2 x8_2 t145 x28_8 = some (r1, r2)) ∧ Aside0 (kq ≤ k2) ∧ Aside0 (Below w.heap.size w wc))
       case first =>
        have H := HC9.out
        clear HC9
        by_cases c10 : t145 < 0
        ·rw [if_pos c10] at H
         have c10b0 : decide (t145 < 0) = true := decide_eq_true c10
         clear c10
         (first | rw [c10b0] | (simp only [i64_w, i32_w]; rw [c10b0]) | skip)
         have H' := Aside0.mk H
         clear H
         go_wp2
         go_meet
         case rel => exact ⟨_, (true), (by first | rfl | (simp; done) | (simp [*]; done) | (unfold bt; split <;> first | rfl | (exfalso; simp_all; done) | (exfalso; simp_all; omega))), H', ⟨by have := HJ2.out; have := HK2.out; first | omega | exact Nat.le_refl _⟩, ⟨by repeat (first | (with_reducible first | exact HB.out | apply below_alloc | apply pw_below_drewN | apply below_drew1) | exact HB.out)⟩⟩
        ·rw [if_neg c10] at H
         have c10b0 : decide (t145 < 0) = false := decide_eq_false c10
         clear c10
         (first | rw [c10b0] | (simp only [i64_w, i32_w]; rw [c10b0]) | skip)
         have H' := Aside0.mk H
         clear H
         go_wp2
         go_meet
         case rel => exact ⟨_, (decide (t145 ≥ x6_2)), (by first | rfl | (simp; done) | (simp [*]; done) | (unfold bt; split <;> first | rfl | (exfalso; simp_all; done) | (exfalso; simp_all; omega))), H', ⟨by have := HJ2.out; have := HK2.out; first | omega | exact Nat.le_refl _⟩, ⟨by repeat (first | (with_reducible first | exact HB.out | apply below_alloc | apply pw_below_drewN | apply below_drew1) | exact HB.out)⟩⟩
       case rest =>
        clear HC9
        try clear c1
        try clear p2
        try clear p3
        try clear c4
        try clear c5
        try clear c5b0
        try clear c6
        try clear c6b0
        try clear p7
        try clear q7
        try clear hx7
        try clear c8
        try clear c10
        try clear c10b0
        try clear p2
        try clear p7
        try clear q7
        obtain ⟨kq, x28_8, rfl, HA, HJ8, HB⟩ := hcut
        cases kq with
        | zero => exact absurd HA.out (by simp [sieveref06_Number.j2])
        | succ kj8 =>
         have H := HA.out
         clear HA
         simp only [sieveref06_Number.j2] at H
         by_cases c11 : x28_8 = true
         ·subst c11
          have H1 : (some (65533, false)) = some (r1, r2) := by rw [if_pos rfl] at H; exact H
          clear H
          have H := H1
          clear H1
          simp only [Option.some.injEq, Prod.mk.injEq] at H
          obtain ⟨rfl, rfl⟩ := H
          go_wp2
          go_ret2
          exact ⟨by first | rfl | (simp [errW_none, errW_some] <;> rfl) | (simp [*, errW_none, errW_some] <;> rfl), by repeat (first | (with_reducible first | exact HB.out | apply below_alloc | apply pw_below_drewN | apply below_drew1) | exact HB.out)⟩
         ·replace c11 := Bool.eq_false_iff.mpr c11
          subst c11
          have H1 : (if (wrap64 ((wrap64 (x7_2 * x6_2)) + t145)) > 1114111 then (sieveref06_Number.l0 kj8 a0 x6_2 1114112 (wrap64 (x8_2 + 1))) else (sieveref06_Number.l0 kj8 a0 x6_2 (wrap64 ((wrap64 (x7_2 * x6_2)) + t145)) (wrap64 (x8_2 + 1)))) = some (r1, r2) := by rw [if_neg (show ¬ (false = true) by decide)] at H; exact H
          clear H
          have H := H1
          clear H1
          by_cases c12 : (wrap64 ((wrap64 (x7_2 * x6_2)) + t145)) > 1114111
          ·rw [if_pos c12] at H
           have c12b0 : decide (1114111 < (wrap64 ((wrap64 (x7_2 * x6_2)) + t145))) = true := decide_eq_true c12
           clear c12
           have H' := Aside0.mk H
           clear H
           go_wp2
           go_roundg kj8
           case measure => have := HJ2.out; have := HK2.out; have := HJ8.out; omega
           case rel => exact ⟨(1114112), (wrap64 (x8_2 + 1)), (by first | rfl | (simp; done) | (simp [*]; done) | (unfold bt; split <;> first | rfl | (exfalso; simp_all; done) | (exfalso; simp_all; omega))), (by first | rfl | (simp; done) | (simp [*]; done) | (unfold bt; split <;> first | rfl | (exfalso; simp_all; done) | (exfalso; simp_all; omega))), H', ⟨by have := HJ2.out; have := HK2.out; have := HJ8.out; omega⟩, ⟨by repeat (first | (with_reducible first | exact HB.out | apply below_alloc | apply pw_below_drewN | apply below_drew1) | exact HB.out)⟩⟩
          ·rw [if_neg c12] at H
           have c12b0 : decide (1114111 < (wrap64 ((wrap64 (x7_2 * x6_2)) + t145))) = false := decide_eq_false c12
           clear c12
           have H' := Aside0.mk H
           clear H
           go_wp2
           go_roundg kj8
           case measure => have := HJ2.out; have := HK2.out; have := HJ8.out; omega
           case rel => exact ⟨(wrap64 ((wrap64 (x7_2 * x6_2)) + t145)), (wrap64 (x8_2 + 1)), (by first | rfl | (simp; done) | (simp [*]; done) | (unfold bt; split <;> first | rfl | (exfalso; simp_all; done) | (exfalso; simp_all; omega))), (by first | rfl | (simp; done) | (simp [*]; done) | (unfold bt; split <;> first | rfl | (exfalso; simp_all; done) | (exfalso; simp_all; omega))), H', ⟨by have := HJ2.out; have := HK2.out; have := HJ8.out; omega⟩, ⟨by repeat (first | (with_reducible first | exact HB.out | apply below_alloc | apply pw_below_drewN | apply below_drew1) | exact HB.out)⟩⟩
      ·rw [if_neg c6] at H
       exact absurd H (by simp)
     ·rw [if_neg c5] at H
      have c5b0 : decide (x8_2 < (a0.size : Int)) = false := decide_eq_false c5
      clear c5
      have HC13 := Aside0.mk H
      clear H
      go_upto_region 14 with (fail)
      go_cut [36] (fun v36 wc => ∃ (kq : Nat) (x36_12 : Bool), v36 = .bool x36_12 ∧ Aside0 (sieveref06_Number.j3 kq x7_2 x36_12 = some (r1, r2)) ∧ Aside0 (kq ≤ k2) ∧ Aside0 (Below w.heap.size w wc))
      case first =>
       have H := HC13.out
       clear HC13
       by_cases c14 : a0.toList = ([] : List UInt8)
       ·rw [if_pos c14] at H
        have c14b0 : (a0.toList == ([] : List UInt8)) = true := beq_iff_eq.mpr c14
        have c14b1 : (a0.toList != ([] : List UInt8)) = false := bne_eq_false_iff_eq.mpr c14
        clear c14
        (first | rw [c14b0] | (simp only [i64_w, i32_w]; rw [c14b0]) | skip)
        have H' := Aside0.mk H
        clear H
        go_wp2
        go_meet
        case rel => exact ⟨_, (true), (by first | rfl | (simp; done) | (simp [*]; done) | (unfold bt; split <;> first | rfl | (exfalso; simp_all; done) | (exfalso; simp_all; omega))), H', ⟨by have := HJ2.out; have := HK2.out; first | omega | exact Nat.le_refl _⟩, ⟨by repeat (first | (with_reducible first | exact HB.out | apply below_alloc | apply pw_below_drewN | apply below_drew1) | exact HB.out)⟩⟩
       ·rw [if_neg c14] at H
        have c14b0 : (a0.toList == ([] : List UInt8)) = false := beq_eq_false_iff_ne.mpr c14
        have c14b1 : (a0.toList != ([] : List UInt8)) = true := bne_iff_ne.mpr c14
        (first | rw [c14b0] | (simp only [i64_w, i32_w]; rw [c14b0]) | skip)
        by_cases c15 : x7_2 = 0
        ·rw [if_pos c15] at H
         have c15b0 : (x7_2 == 0) = true := beq_iff_eq.mpr c15
         have c15b1 : (x7_2 != 0) = false := bne_eq_false_iff_eq.mpr c15
         clear c15
         have H' := Aside0.mk H
         clear H
         go_wp2
         go_meet
         case rel => exact ⟨_, (true), (by first | rfl | (simp; done) | (simp [*]; done) | (unfold bt; split <;> first | rfl | (exfalso; simp_all; done) | (exfalso; simp_all; omega))), H', ⟨by have := HJ2.out; have := HK2.out; first | omega | exact Nat.le_refl _⟩, ⟨by repeat (first | (with_reducible first | exact HB.out | apply below_alloc | apply pw_below_drewN | apply below_drew1) | exact HB.out)⟩⟩
        ·rw [if_neg c15] at H
         have c15b0 : (x7_2 == 0) = false := beq_eq_false_iff_ne.mpr c15
         have c15b1 : (x7_2 != 0) = true := bne_iff_ne.mpr c15
         by_cases c16 : x7_2 > 1114111
         ·rw [if_pos c16] at H
          have c16b0 : decide (1114111 < x7_2) = true := decide_eq_true c16
          clear c16
          have H' := Aside0.mk H
          clear H
          go_wp2
          go_meet
          case rel => exact ⟨_, (true), (by first | rfl | (simp; done) | (simp [*]; done) | (unfold bt; split <;> first | rfl | (exfalso; simp_all; done) | (exfalso; simp_all; omega))), H', ⟨by have := HJ2.out; have := HK2.out; first | omega | exact Nat.le_refl _⟩, ⟨by repeat (first | (with_reducible first | exact HB.out | apply below_alloc | apply pw_below_drewN | apply below_drew1) | exact HB.out)⟩⟩
         ·rw [if_neg c16] at H
          have c16b0 : decide (1114111 < x7_2) = false := decide_eq_false c16
          clear c16
          by_cases c17 : x7_2 ≥ 55296
          ·rw [if_pos c17] at H
           have c17b0 : decide (55296 ≤ x7_2) = true := decide_eq_true c17
           clear c17
           have H' := Aside0.mk H
           clear H
           go_wp2
           go_meet
           case rel => exact ⟨_, (decide (x7_2 ≤ 57343)), (by first | rfl | (simp; done) | (simp [*]; done) | (unfold bt; split <;> first | rfl | (exfalso; simp_all; done) | (exfalso; simp_all; omega))), H', ⟨by have := HJ2.out; have := HK2.out; first | omega | exact Nat.le_refl _⟩, ⟨by repeat (first | (with_reducible first | exact HB.out | apply below_alloc | apply pw_below_drewN | apply below_drew1) | exact HB.out)⟩⟩
          ·rw [if_neg c17] at H
           have c17b0 : decide (55296 ≤ x7_2) = false := decide_eq_false c17
           clear c17
           have H' := Aside0.mk H
           clear H
           go_wp2
           go_meet
           case rel => exact ⟨_, (false), (by first | rfl | (simp; done) | (simp [*]; done) | (unfold bt; split <;> first | rfl | (exfalso; simp_all; done) | (exfalso; simp_all; omega))), H', ⟨by have := HJ2.out; have := HK2.out; first | omega | exact Nat.le_refl _⟩, ⟨by repeat (first | (with_reducible first | exact HB.out | apply below_alloc | apply pw_below_drewN | apply below_drew1) | exact HB.out)⟩⟩
      case rest =>
       clear HC13
       try clear c1
       try clear p2
       try clear p3
       try clear c4
       try clear c5
       try clear c5b0
       try clear c6
       try clear c6b0
       try clear p6
       try clear p7
       try clear q7
       try clear hx7
       try clear c8
       try clear c10
       try clear c10b0
       try clear c11
       try clear c12
       try clear c12b0
       try clear c14
       try clear c14b0
       try clear c14b1
       try clear c15
       try clear c15b0
       try clear c15b1
       try clear c16
       try clear c16b0
       try clear c17
       try clear c17b0
       try clear p2
       try clear p3
       try clear p7
       try clear q7
       obtain ⟨kq, x36_12, rfl, HA, HJ12, HB⟩ := hcut
       cases kq with
       | zero => exact absurd HA.out (by simp [sieveref06_Number.j3])
       | succ kj12 =>
        have H := HA.out
        clear HA
        simp only [sieveref06_Number.j3] at H
        by_cases c18 : x36_12 = true
        ·subst c18
         have H1 : (some (65533, false)) = some (r1, r2) := by rw [if_pos rfl] at H; exact H
         clear H
         have H := H1
         clear H1
         simp only [Option.some.injEq, Prod.mk.injEq] at H
         obtain ⟨rfl, rfl⟩ := H
         go_wp2
         go_ret2
         exact ⟨by first | rfl | (simp [errW_none, errW_some] <;> rfl) | (simp [*, errW_none, errW_some] <;> rfl), by repeat (first | (with_reducible first | exact HB.out | apply below_alloc | apply pw_below_drewN | apply below_drew1) | exact HB.out)⟩
        ·replace c18 := Bool.eq_false_iff.mpr c18
         subst c18
         have H1 : (if x7_2 ≥ 128 then (if x7_2 ≤ 159 then ((sieveref06_Windows.f x7_2).bind fun t146 => (if t146 = 0 then (some (wrap32 (x7_2), true)) else ((sieveref06_Windows.f x7_2).bind fun t147 => (some (t147, false))))) else (some (wrap32 (x7_2), true))) else (some (wrap32 (x7_2), true))) = some (r1, r2) := by rw [if_neg (show ¬ (false = true) by decide)] at H; exact H
         clear H
         have H := H1
         clear H1
         by_cases c19 : x7_2 ≥ 128
         ·rw [if_pos c19] at H
          have c19b0 : decide (128 ≤ x7_2) = true := decide_eq_true c19
          clear c19
          by_cases c20 : x7_2 ≤ 159
          ·rw [if_pos c20] at H
           have c20b0 : decide (x7_2 ≤ 159) = true := decide_eq_true c20
           clear c20
           replace H := Option.bind_eq_some_iff.mp H
           obtain ⟨t146, A210, H⟩ := H
           replace H : (if t146 = 0 then (some (wrap32 (x7_2), true)) else ((sieveref06_Windows.f x7_2).bind fun t147 => (some (t147, false)))) = some (r1, r2) := H
           have A21 := Aside0.mk A210
           clear A210
           by_cases c22 : t146 = 0
           ·rw [if_pos c22] at H
            have c22b0 : (t146 == 0) = true := beq_iff_eq.mpr c22
            have c22b1 : (t146 != 0) = false := bne_eq_false_iff_eq.mpr c22
            clear c22
            simp only [Option.some.injEq, Prod.mk.injEq] at H
            obtain ⟨rfl, rfl⟩ := H
            go_wp2_with (first | (go_at_call 20; (with_reducible refine (sieveref06_Windows.calls x7_2 t146 _ A21.out).mono ?_); rintro e w23 ⟨rfl, hb⟩; have n0_ := Aside0.mk (below_step (by repeat (first | (with_reducible first | exact HB.out | apply below_alloc | apply pw_below_drewN | apply below_drew1) | exact HB.out)) hb); clear HB; have HB := n0_; clear n0_; (try clear hb); (try clear hb2); (try clear hk); (try clear hi)))
            go_ret2
            exact ⟨by first | rfl | (simp [errW_none, errW_some] <;> rfl) | (simp [*, errW_none, errW_some] <;> rfl), by repeat (first | (with_reducible first | exact HB.out | apply below_alloc | apply pw_below_drewN | apply below_drew1) | exact HB.out)⟩
           ·rw [if_neg c22] at H
            have c22b0 : (t146 == 0) = false := beq_eq_false_iff_ne.mpr c22
            have c22b1 : (t146 != 0) = true := bne_iff_ne.mpr c22
            replace H := Option.bind_eq_some_iff.mp H
            obtain ⟨t147, A240, H⟩ := H
            replace H : (some (t147, false)) = some (r1, r2) := H
            have A24 := Aside0.mk A240
            clear A240
            simp only [Option.some.injEq, Prod.mk.injEq] at H
            obtain ⟨rfl, rfl⟩ := H
            go_wp2_with (first | (go_at_call 20; (with_reducible refine (sieveref06_Windows.calls x7_2 t146 _ A21.out).mono ?_); rintro e w25 ⟨rfl, hb⟩; have n0_ := Aside0.mk (below_step (by repeat (first | (with_reducible first | exact HB.out | apply below_alloc | apply pw_below_drewN | apply below_drew1) | exact HB.out)) hb); clear HB; have HB := n0_; clear n0_; (try clear hb); (try clear hb2); (try clear hk); (try clear hi)) | ((with_reducible refine gate_callee (f := 20) rfl ?_); refine goesL_ (some 68) rfl rfl Tryd.func20 (by kernel_rfl) rfl #[.int .i64 x7_2] rfl (by (try simp only [List.map_toArray, List.map_cons, List.map_nil]); first | done | rfl | (simp only [List.length_drop, List.length_take]; rfl) | (simp [*] <;> rfl)) ?_; (with_reducible refine (sieveref06_Windows.calls x7_2 t147 _ A24.out).mono ?_); rintro e w26 ⟨rfl, hb⟩; refine ⟨_, rfl, ?_⟩; have n0_ := Aside0.mk (below_step (by repeat (first | (with_reducible first | exact HB.out | apply below_alloc | apply pw_below_drewN | apply below_drew1) | exact HB.out)) hb); clear HB; have HB := n0_; clear n0_; (try clear hb); (try clear hb2); (try clear hk); (try clear hi)))
            go_ret2
            exact ⟨by first | rfl | (simp [errW_none, errW_some] <;> rfl) | (simp [*, errW_none, errW_some] <;> rfl), by repeat (first | (with_reducible first | exact HB.out | apply below_alloc | apply pw_below_drewN | apply below_drew1) | exact HB.out)⟩
          ·rw [if_neg c20] at H
           have c20b0 : decide (x7_2 ≤ 159) = false := decide_eq_false c20
           clear c20
           simp only [Option.some.injEq, Prod.mk.injEq] at H
           obtain ⟨rfl, rfl⟩ := H
           go_wp2
           go_ret2
           exact ⟨by first | rfl | (simp [errW_none, errW_some] <;> rfl) | (simp [*, errW_none, errW_some] <;> rfl), by repeat (first | (with_reducible first | exact HB.out | apply below_alloc | apply pw_below_drewN | apply below_drew1) | exact HB.out)⟩
         ·rw [if_neg c19] at H
          have c19b0 : decide (128 ≤ x7_2) = false := decide_eq_false c19
          clear c19
          simp only [Option.some.injEq, Prod.mk.injEq] at H
          obtain ⟨rfl, rfl⟩ := H
          go_wp2
          go_ret2
          exact ⟨by first | rfl | (simp [errW_none, errW_some] <;> rfl) | (simp [*, errW_none, errW_some] <;> rfl), by repeat (first | (with_reducible first | exact HB.out | apply below_alloc | apply pw_below_drewN | apply below_drew1) | exact HB.out)⟩

/-! ### sieveref06_Encode: function 10 -/
mutual
def sieveref06_Encode.j0 : Nat → Int → Bool → Option (ByteArray)
 | 0, _, _ => none
 | k + 1, x0, x18 => if x18 = true then (sieveref06_Encode.j1 k 65533) else (sieveref06_Encode.j1 k x0)
def sieveref06_Encode.j1 : Nat → Int → Option (ByteArray)
 | 0, _ => none
 | k + 1, x0 => sieveref06_Encode.l0 k (⟨#[]⟩ : ByteArray) (wrap64 (x0))
def sieveref06_Encode.l0 : Nat → ByteArray → Int → Option (ByteArray)
 | 0, _, _ => none
 | k + 1, x3, x4 => if x4 > 0 then (if 0 ≤ (Int.tmod x4 10) then (if (Int.tmod x4 10) ≤ (wrap64 ((Int.tmod x4 10) + 1)) then (if (wrap64 ((Int.tmod x4 10) + 1)) ≤ 10 then (if ((⟨#[48, 49, 50, 51, 52, 53, 54, 55, 56, 57]⟩ : ByteArray).extract ((Int.tmod x4 10) : Int).toNat ((wrap64 ((Int.tmod x4 10) + 1)) : Int).toNat).size + x3.size ≤ 9223372036854775807 then (sieveref06_Encode.l0 k (((⟨#[48, 49, 50, 51, 52, 53, 54, 55, 56, 57]⟩ : ByteArray).extract ((Int.tmod x4 10) : Int).toNat ((wrap64 ((Int.tmod x4 10) + 1)) : Int).toNat) ++ x3) (wrap64 (Int.tdiv x4 10))) else (none)) else (none)) else (none)) else (none)) else (if x3.toList = ([] : List UInt8) then (if 0 ≤ (Int.tmod x4 10) then (if (Int.tmod x4 10) ≤ (wrap64 ((Int.tmod x4 10) + 1)) then (if (wrap64 ((Int.tmod x4 10) + 1)) ≤ 10 then (if ((⟨#[48, 49, 50, 51, 52, 53, 54, 55, 56, 57]⟩ : ByteArray).extract ((Int.tmod x4 10) : Int).toNat ((wrap64 ((Int.tmod x4 10) + 1)) : Int).toNat).size + x3.size ≤ 9223372036854775807 then (sieveref06_Encode.l0 k (((⟨#[48, 49, 50, 51, 52, 53, 54, 55, 56, 57]⟩ : ByteArray).extract ((Int.tmod x4 10) : Int).toNat ((wrap64 ((Int.tmod x4 10) + 1)) : Int).toNat) ++ x3) (wrap64 (Int.tdiv x4 10))) else (none)) else (none)) else (none)) else (none)) else (if 2 + x3.size ≤ 9223372036854775807 then (if ((⟨#[38, 35]⟩ : ByteArray) ++ x3).size + 1 ≤ 9223372036854775807 then (some (((⟨#[38, 35]⟩ : ByteArray) ++ x3) ++ (⟨#[59]⟩ : ByteArray))) else (none)) else (none)))
end
def sieveref06_Encode.f (k : Nat) (a0 : Int) : Option (ByteArray) := if a0 < 0 then (sieveref06_Encode.j0 k a0 true) else (if a0 > 1114111 then (sieveref06_Encode.j0 k a0 true) else (if a0 ≥ 55296 then (sieveref06_Encode.j0 k a0 (decide (a0 ≤ 57343))) else (sieveref06_Encode.j0 k a0 false)))
set_option maxHeartbeats 8000000 in
set_option maxRecDepth 100000 in
theorem sieveref06_Encode.calls (k : Nat) (a0 : Int) (r : ByteArray) (w : World) (h : sieveref06_Encode.f k a0 = some r) :
  Calls Tryd.prog 10 #[.int .i32 a0] w fun e w' => e = .returned (.string r) ∧ Drawn0 w w' := by
 have H : (if a0 < 0 then (sieveref06_Encode.j0 k a0 true) else (if a0 > 1114111 then (sieveref06_Encode.j0 k a0 true) else (if a0 ≥ 55296 then (sieveref06_Encode.j0 k a0 (decide (a0 ≤ 57343))) else (sieveref06_Encode.j0 k a0 false)))) = some r := h
 clear h
 have HC2 := Aside0.mk H
 clear H
 go_enter Tryd.func10, Tryd.ntmps10
 go_upto_region 1 with (fail)
 go_cut [18] (fun v18 wc => ∃ (kq : Nat) (x18_1 : Bool), v18 = .bool x18_1 ∧ Aside0 (sieveref06_Encode.j0 kq a0 x18_1 = some r) ∧ Aside0 (kq ≤ k) ∧ Drawn0 w wc)
 case first =>
  have H := HC2.out
  clear HC2
  by_cases c3 : a0 < 0
  ·rw [if_pos c3] at H
   have c3b0 : decide (a0 < 0) = true := decide_eq_true c3
   clear c3
   (first | rw [c3b0] | (simp only [i64_w, i32_w]; rw [c3b0]) | skip)
   have H' := Aside0.mk H
   clear H
   go_wp2
   go_meet
   case rel => exact ⟨_, (true), (by first | rfl | (simp; done) | (simp [*]; done) | (unfold bt; split <;> first | rfl | (exfalso; simp_all; done) | (exfalso; simp_all; omega))), H', ⟨by first | omega | exact Nat.le_refl _⟩, by repeat (first | exact Drawn0.refl _ | apply Drawn0.step)⟩
  ·rw [if_neg c3] at H
   have c3b0 : decide (a0 < 0) = false := decide_eq_false c3
   clear c3
   (first | rw [c3b0] | (simp only [i64_w, i32_w]; rw [c3b0]) | skip)
   by_cases c4 : a0 > 1114111
   ·rw [if_pos c4] at H
    have c4b0 : decide (1114111 < a0) = true := decide_eq_true c4
    clear c4
    have H' := Aside0.mk H
    clear H
    go_wp2
    go_meet
    case rel => exact ⟨_, (true), (by first | rfl | (simp; done) | (simp [*]; done) | (unfold bt; split <;> first | rfl | (exfalso; simp_all; done) | (exfalso; simp_all; omega))), H', ⟨by first | omega | exact Nat.le_refl _⟩, by repeat (first | exact Drawn0.refl _ | apply Drawn0.step)⟩
   ·rw [if_neg c4] at H
    have c4b0 : decide (1114111 < a0) = false := decide_eq_false c4
    clear c4
    by_cases c5 : a0 ≥ 55296
    ·rw [if_pos c5] at H
     have c5b0 : decide (55296 ≤ a0) = true := decide_eq_true c5
     clear c5
     have H' := Aside0.mk H
     clear H
     go_wp2
     go_meet
     case rel => exact ⟨_, (decide (a0 ≤ 57343)), (by first | rfl | (simp; done) | (simp [*]; done) | (unfold bt; split <;> first | rfl | (exfalso; simp_all; done) | (exfalso; simp_all; omega))), H', ⟨by first | omega | exact Nat.le_refl _⟩, by repeat (first | exact Drawn0.refl _ | apply Drawn0.step)⟩
    ·rw [if_neg c5] at H
     have c5b0 : decide (55296 ≤ a0) = false := decide_eq_false c5
     clear c5
     have H' := Aside0.mk H
     clear H
     go_wp2
     go_meet
     case rel => exact ⟨_, (false), (by first | rfl | (simp; done) | (simp [*]; done) | (unfold bt; split <;> first | rfl | (exfalso; simp_all; done) | (exfalso; simp_all; omega))), H', ⟨by first | omega | exact Nat.le_refl _⟩, by repeat (first | exact Drawn0.refl _ | apply Drawn0.step)⟩
 case rest =>
  clear HC2
  try clear c1
  try clear p2
  try clear c3
  try clear c3b0
  try clear c4
  try clear c4b0
  try clear c5
  try clear c5b0
  obtain ⟨kq, x18_1, rfl, HA, HJ1, ⟨mc1, rfl⟩⟩ := hcut
  cases kq with
  | zero => exact absurd HA.out (by simp [sieveref06_Encode.j0])
  | succ kj1 =>
   have H := HA.out
   clear HA
   simp only [sieveref06_Encode.j0] at H
   have HC6 := Aside0.mk H
   clear H
   go_upto_if 18 with (fail)
   go_cut [0] (fun v0 wc => ∃ (kq : Nat) (x0_5 : Int), v0 = .int .i32 x0_5 ∧ Aside0 (sieveref06_Encode.j1 kq x0_5 = some r) ∧ Aside0 (kq ≤ kj1) ∧ Drawn0 w wc)
   case first =>
    have H := HC6.out
    clear HC6
    by_cases c7 : x18_1 = true
    ·subst c7
     have H1 : (sieveref06_Encode.j1 kj1 65533) = some r := by rw [if_pos rfl] at H; exact H
     clear H
     have H := H1
     clear H1
     have H' := Aside0.mk H
     clear H
     go_wp2
     go_meet
     case rel => exact ⟨_, (65533), (by first | rfl | (simp; done) | (simp [*]; done) | (unfold bt; split <;> first | rfl | (exfalso; simp_all; done) | (exfalso; simp_all; omega))), H', ⟨by have := HJ1.out; first | omega | exact Nat.le_refl _⟩, by repeat (first | exact Drawn0.refl _ | apply Drawn0.step)⟩
    ·replace c7 := Bool.eq_false_iff.mpr c7
     subst c7
     have H1 : (sieveref06_Encode.j1 kj1 a0) = some r := by rw [if_neg (show ¬ (false = true) by decide)] at H; exact H
     clear H
     have H := H1
     clear H1
     have H' := Aside0.mk H
     clear H
     go_wp2
     go_meet
     case rel => exact ⟨_, (a0), (by first | rfl | (simp; done) | (simp [*]; done) | (unfold bt; split <;> first | rfl | (exfalso; simp_all; done) | (exfalso; simp_all; omega))), H', ⟨by have := HJ1.out; first | omega | exact Nat.le_refl _⟩, by repeat (first | exact Drawn0.refl _ | apply Drawn0.step)⟩
   case rest =>
    clear HC6
    try clear c1
    try clear p2
    try clear c3
    try clear c3b0
    try clear c4
    try clear c4b0
    try clear c5
    try clear c5b0
    try clear c7
    try clear p2
    obtain ⟨kq, x0_5, rfl, HA, HJ5, ⟨mc5, rfl⟩⟩ := hcut
    cases kq with
    | zero => exact absurd HA.out (by simp [sieveref06_Encode.j1])
    | succ kj5 =>
     have H := HA.out
     clear HA
     simp only [sieveref06_Encode.j1] at H
     have H' := Aside0.mk H
     clear H
     go_wp2
     go_loopg [3, 4] kj5 (fun kq v3 v4 w' => ∃ (x3_3 : ByteArray) (x4_3 : Int), v3 = .string x3_3 ∧ v4 = .int .i64 x4_3 ∧ Aside0 (sieveref06_Encode.l0 kq x3_3 x4_3 = some r) ∧ Aside0 (kq ≤ kj5) ∧ Drawn0 w w')
     case atStart => exact ⟨((⟨#[]⟩ : ByteArray)), (wrap64 (x0_5)), (by first | rfl | (simp; done) | (simp [*]; done) | (unfold bt; split <;> first | rfl | (exfalso; simp_all; done) | (exfalso; simp_all; omega))), (by first | rfl | (simp; done) | (simp [*]; done) | (unfold bt; split <;> first | rfl | (exfalso; simp_all; done) | (exfalso; simp_all; omega))), H', ⟨Nat.le_refl _⟩, by repeat (first | exact Drawn0.refl _ | apply Drawn0.step)⟩
     case round =>
      clear H'
      try clear c1
      try clear p2
      try clear c3
      try clear c3b0
      try clear c4
      try clear c4b0
      try clear c5
      try clear c5b0
      try clear p6
      try clear c7
      try clear p2
      obtain ⟨x3_3, x4_3, rfl, rfl, HA, HK3, ⟨m3, rfl⟩⟩ := hrel
      cases gk with
      | zero => exact absurd HA.out (by simp [sieveref06_Encode.l0])
      | succ k3 =>
       have H := HA.out
       clear HA
       simp only [sieveref06_Encode.l0] at H
       by_cases c8 : x4_3 > 0
       ·rw [if_pos c8] at H
        have c8b0 : decide (0 < x4_3) = true := decide_eq_true c8
        clear c8
        obtain ⟨ji9, hji9⟩ : ∃ j_ : Int, (Int.tmod x4_3 10) = j_ := ⟨_, rfl⟩
        replace H : (if 0 ≤ (ji9) then (if (ji9) ≤ (wrap64 ((ji9) + 1)) then (if (wrap64 ((ji9) + 1)) ≤ 10 then (if ((⟨#[48, 49, 50, 51, 52, 53, 54, 55, 56, 57]⟩ : ByteArray).extract ((ji9) : Int).toNat ((wrap64 ((ji9) + 1)) : Int).toNat).size + x3_3.size ≤ 9223372036854775807 then (sieveref06_Encode.l0 k3 (((⟨#[48, 49, 50, 51, 52, 53, 54, 55, 56, 57]⟩ : ByteArray).extract ((ji9) : Int).toNat ((wrap64 ((ji9) + 1)) : Int).toNat) ++ x3_3) (wrap64 (Int.tdiv x4_3 10))) else (none)) else (none)) else (none)) else (none)) = some r := by first | (rw [hji9] at H; exact H) | (simp only [hji9] at H ⊢; exact H)
        by_cases c10 : 0 ≤ (ji9)
        ·rw [if_pos c10] at H
         have c10b0 := eq_true c10
         have c10b1 : decide (0 ≤ (ji9)) = true := decide_eq_true c10
         clear c10
         by_cases c11 : (ji9) ≤ (wrap64 ((ji9) + 1))
         ·rw [if_pos c11] at H
          have c11b0 := eq_true c11
          have c11b1 : decide ((ji9) ≤ (wrap64 ((ji9) + 1))) = true := decide_eq_true c11
          by_cases c12 : (wrap64 ((ji9) + 1)) ≤ 10
          ·rw [if_pos c12] at H
           have c12b0 := eq_true c12
           have c12b1 : decide ((wrap64 ((ji9) + 1)) ≤ 10) = true := decide_eq_true c12
           by_cases c13 : ((⟨#[48, 49, 50, 51, 52, 53, 54, 55, 56, 57]⟩ : ByteArray).extract ((ji9) : Int).toNat ((wrap64 ((ji9) + 1)) : Int).toNat).size + x3_3.size ≤ 9223372036854775807
           ·rw [if_pos c13] at H
            have c13b0 := eq_true c13
            have c13b1 : decide (((⟨#[48, 49, 50, 51, 52, 53, 54, 55, 56, 57]⟩ : ByteArray).extract ((ji9) : Int).toNat ((wrap64 ((ji9) + 1)) : Int).toNat).size + x3_3.size ≤ 9223372036854775807) = true := decide_eq_true c13
            try have c13b2 : (9223372036854775807 < ((⟨#[48, 49, 50, 51, 52, 53, 54, 55, 56, 57]⟩ : ByteArray).extract ((ji9) : Int).toNat ((wrap64 ((ji9) + 1)) : Int).toNat).size + x3_3.size) = False := eq_false (Nat.not_lt.2 c13)
            have H' := Aside0.mk H
            clear H
            go_wp2
            go_roundg k3
            case measure => have := HJ1.out; have := HJ5.out; have := HK3.out; omega
            case rel => exact ⟨(((⟨#[48, 49, 50, 51, 52, 53, 54, 55, 56, 57]⟩ : ByteArray).extract ((ji9) : Int).toNat ((wrap64 ((ji9) + 1)) : Int).toNat) ++ x3_3), (wrap64 (Int.tdiv x4_3 10)), (by first | rfl | (simp; done) | (simp only [← hji9] <;> (first | rfl | simp)) | (simp [*]; done)), (by first | rfl | (simp; done) | (simp [*]; done) | (unfold bt; split <;> first | rfl | (exfalso; simp_all; done) | (exfalso; simp_all; omega))), H', ⟨by have := HJ1.out; have := HJ5.out; have := HK3.out; omega⟩, by repeat (first | exact Drawn0.refl _ | apply Drawn0.step)⟩
           ·rw [if_neg c13] at H
            exact absurd H (by simp)
          ·rw [if_neg c12] at H
           exact absurd H (by simp)
         ·rw [if_neg c11] at H
          exact absurd H (by simp)
        ·rw [if_neg c10] at H
         exact absurd H (by simp)
       ·rw [if_neg c8] at H
        have c8b0 : decide (0 < x4_3) = false := decide_eq_false c8
        clear c8
        by_cases c14 : x3_3.toList = ([] : List UInt8)
        ·rw [if_pos c14] at H
         have c14b0 : (x3_3.toList == ([] : List UInt8)) = true := beq_iff_eq.mpr c14
         have c14b1 : (x3_3.toList != ([] : List UInt8)) = false := bne_eq_false_iff_eq.mpr c14
         clear c14
         obtain ⟨ji15, hji15⟩ : ∃ j_ : Int, (Int.tmod x4_3 10) = j_ := ⟨_, rfl⟩
         replace H : (if 0 ≤ (ji15) then (if (ji15) ≤ (wrap64 ((ji15) + 1)) then (if (wrap64 ((ji15) + 1)) ≤ 10 then (if ((⟨#[48, 49, 50, 51, 52, 53, 54, 55, 56, 57]⟩ : ByteArray).extract ((ji15) : Int).toNat ((wrap64 ((ji15) + 1)) : Int).toNat).size + x3_3.size ≤ 9223372036854775807 then (sieveref06_Encode.l0 k3 (((⟨#[48, 49, 50, 51, 52, 53, 54, 55, 56, 57]⟩ : ByteArray).extract ((ji15) : Int).toNat ((wrap64 ((ji15) + 1)) : Int).toNat) ++ x3_3) (wrap64 (Int.tdiv x4_3 10))) else (none)) else (none)) else (none)) else (none)) = some r := by first | (rw [hji15] at H; exact H) | (simp only [hji15] at H ⊢; exact H)
         by_cases c16 : 0 ≤ (ji15)
         ·rw [if_pos c16] at H
          have c16b0 := eq_true c16
          have c16b1 : decide (0 ≤ (ji15)) = true := decide_eq_true c16
          clear c16
          by_cases c17 : (ji15) ≤ (wrap64 ((ji15) + 1))
          ·rw [if_pos c17] at H
           have c17b0 := eq_true c17
           have c17b1 : decide ((ji15) ≤ (wrap64 ((ji15) + 1))) = true := decide_eq_true c17
           by_cases c18 : (wrap64 ((ji15) + 1)) ≤ 10
           ·rw [if_pos c18] at H
            have c18b0 := eq_true c18
            have c18b1 : decide ((wrap64 ((ji15) + 1)) ≤ 10) = true := decide_eq_true c18
            by_cases c19 : ((⟨#[48, 49, 50, 51, 52, 53, 54, 55, 56, 57]⟩ : ByteArray).extract ((ji15) : Int).toNat ((wrap64 ((ji15) + 1)) : Int).toNat).size + x3_3.size ≤ 9223372036854775807
            ·rw [if_pos c19] at H
             have c19b0 := eq_true c19
             have c19b1 : decide (((⟨#[48, 49, 50, 51, 52, 53, 54, 55, 56, 57]⟩ : ByteArray).extract ((ji15) : Int).toNat ((wrap64 ((ji15) + 1)) : Int).toNat).size + x3_3.size ≤ 9223372036854775807) = true := decide_eq_true c19
             try have c19b2 : (9223372036854775807 < ((⟨#[48, 49, 50, 51, 52, 53, 54, 55, 56, 57]⟩ : ByteArray).extract ((ji15) : Int).toNat ((wrap64 ((ji15) + 1)) : Int).toNat).size + x3_3.size) = False := eq_false (Nat.not_lt.2 c19)
             have H' := Aside0.mk H
             clear H
             go_wp2
             go_roundg k3
             case measure => have := HJ1.out; have := HJ5.out; have := HK3.out; omega
             case rel => exact ⟨(((⟨#[48, 49, 50, 51, 52, 53, 54, 55, 56, 57]⟩ : ByteArray).extract ((ji15) : Int).toNat ((wrap64 ((ji15) + 1)) : Int).toNat) ++ x3_3), (wrap64 (Int.tdiv x4_3 10)), (by first | rfl | (simp; done) | (simp only [← hji15] <;> (first | rfl | simp)) | (simp [*]; done)), (by first | rfl | (simp; done) | (simp [*]; done) | (unfold bt; split <;> first | rfl | (exfalso; simp_all; done) | (exfalso; simp_all; omega))), H', ⟨by have := HJ1.out; have := HJ5.out; have := HK3.out; omega⟩, by repeat (first | exact Drawn0.refl _ | apply Drawn0.step)⟩
            ·rw [if_neg c19] at H
             exact absurd H (by simp)
           ·rw [if_neg c18] at H
            exact absurd H (by simp)
          ·rw [if_neg c17] at H
           exact absurd H (by simp)
         ·rw [if_neg c16] at H
          exact absurd H (by simp)
        ·rw [if_neg c14] at H
         have c14b0 : (x3_3.toList == ([] : List UInt8)) = false := beq_eq_false_iff_ne.mpr c14
         have c14b1 : (x3_3.toList != ([] : List UInt8)) = true := bne_iff_ne.mpr c14
         by_cases c20 : 2 + x3_3.size ≤ 9223372036854775807
         ·rw [if_pos c20] at H
          have c20b0 := eq_true c20
          have c20b1 : decide (2 + x3_3.size ≤ 9223372036854775807) = true := decide_eq_true c20
          try have c20b2 : (9223372036854775807 < 2 + x3_3.size) = False := eq_false (Nat.not_lt.2 c20)
          by_cases c21 : ((⟨#[38, 35]⟩ : ByteArray) ++ x3_3).size + 1 ≤ 9223372036854775807
          ·rw [if_pos c21] at H
           have c21b0 := eq_true c21
           have c21b1 : decide (((⟨#[38, 35]⟩ : ByteArray) ++ x3_3).size + 1 ≤ 9223372036854775807) = true := decide_eq_true c21
           try have c21b2 : (9223372036854775807 < ((⟨#[38, 35]⟩ : ByteArray) ++ x3_3).size + 1) = False := eq_false (Nat.not_lt.2 c21)
           try have c21b7 : (9223372036854775807 < 2 + x3_3.size + 1) = False := eq_false (by have h_ := c21; rw [ByteArray.size_append] at h_; exact Nat.not_lt.2 h_)
           obtain rfl := Option.some.inj H
           go_wp2
           go_ret
           exact ⟨by first | rfl | (simp; done) | (simp [*]; done), by repeat (first | exact Drawn0.refl _ | apply Drawn0.step)⟩
          ·rw [if_neg c21] at H
           exact absurd H (by simp)
         ·rw [if_neg c20] at H
          exact absurd H (by simp)

end Go.Proofs.YthmbbkbmlnaghaaDoor.P
end
section
/-
 The decimal reference of a rune, in plain Lean: the document's Encode.
-/
namespace Go.Proofs.YthmbbkbmlnaghaaDoor.P
open Go.RowKit Go.Proofs.YthmbbkbmlnaghaaDoorW.PrintWords Go.Proofs.YthmbbkbmlnaghaaDoorW.PrintLast Go.Proofs.YthmbbkbmlnaghaaDoorW.PrintMore
set_option linter.unusedVariables false
set_option linter.unusedSimpArgs false

/-- the number that stands for a rune -/
def encR (r : Int) : Nat := if r < 0 ∨ r > 1114111 ∨ (55296 ≤ r ∧ r ≤ 57343) then 65533 else r.toNat
def encS (n : Nat) : ByteArray := ⟨([38, 35] ++ Lib.decDigits n ++ [59]).toArray⟩
theorem encR_le (r : Int) : encR r ≤ 1114111 := by
 unfold encR
 split <;> omega
theorem tendigits : ∀ d : Fin 10, (⟨#[48, 49, 50, 51, 52, 53, 54, 55, 56, 57]⟩ : ByteArray).extract d.val (d.val + 1) = ⟨#[UInt8.ofNat (48 + d.val)]⟩ := by decide +kernel
theorem bytes_eqL {a b : ByteArray} (h : a.data.toList = b.data.toList) : a = b := by
 cases a with
 | mk x =>
  cases b with
  | mk y =>
   congr 1
   exact Array.toList_inj.1 h
theorem rencode_end (k : Nat) (x : ByteArray) (hx : x.size ≤ 1000) (h : x.toList ≠ []) : sieveref06_Encode.l0 (k + 1) x 0 = some ⟨([38, 35] ++ x.data.toList ++ [59]).toArray⟩ := by
 have h2 : 2 + x.size ≤ 9223372036854775807 := by omega
 have h3 : ((⟨#[38, 35]⟩ : ByteArray) ++ x).size + 1 ≤ 9223372036854775807 := by
  rw [ByteArray.size_append]
  show 2 + x.size + 1 ≤ _
  omega
 rw [sieveref06_Encode.l0, if_neg (by decide), if_neg h, if_pos h2, if_pos h3]
 congr 1
theorem rencode_step (k n : Nat) (x : ByteArray) (hx : x.size ≤ 1000) (hn : n ≤ 1114111) (h : n ≠ 0 ∨ x.toList = []) :
  sieveref06_Encode.l0 (k + 1) x (n : Int) = sieveref06_Encode.l0 k (⟨#[UInt8.ofNat (48 + n % 10)]⟩ ++ x) ((n / 10 : Nat) : Int) := by
 have e1 : Int.tmod (n : Int) 10 = ((n % 10 : Nat) : Int) := by rw [Int.tmod_eq_emod_of_nonneg (by omega)]; omega
 have e2 : wrap64 (((n % 10 : Nat) : Int) + 1) = ((n % 10 + 1 : Nat) : Int) := by unfold wrap64; omega
 have e3 : wrap64 (Int.tdiv (n : Int) 10) = ((n / 10 : Nat) : Int) := by
  rw [Int.tdiv_eq_ediv_of_nonneg (by omega)]
  unfold wrap64
  omega
 have e4 := tendigits ⟨n % 10, by omega⟩
 simp only at e4
 have c1 : (0 : Int) ≤ ((n % 10 : Nat) : Int) := by omega
 have c2 : ((n % 10 : Nat) : Int) ≤ ((n % 10 + 1 : Nat) : Int) := by omega
 have c3 : ((n % 10 + 1 : Nat) : Int) ≤ 10 := by omega
 have c4 : (⟨#[UInt8.ofNat (48 + n % 10)]⟩ : ByteArray).size + x.size ≤ 9223372036854775807 := by show 1 + x.size ≤ _; omega
 rw [sieveref06_Encode.l0, e1, e2, e3, Int.toNat_natCast, Int.toNat_natCast, e4, if_pos c1, if_pos c2, if_pos c3, if_pos c4]
 by_cases h0 : n = 0
 ·subst h0
  rw [if_neg (by omega), if_pos (h.resolve_left (by simp))]
 ·rw [if_pos (by omega)]
theorem rencode_l0 : ∀ (k n : Nat) (x : ByteArray), n + 2 ≤ k → n ≤ 1114111 → x.size + 10 ≤ 1000 - n % 1 → (n < 10 ^ (8 - x.size)) → x.size ≤ 7 → (n ≠ 0 ∨ x.toList = []) →
  sieveref06_Encode.l0 k x (n : Int) = some ⟨([38, 35] ++ Lib.decDigits n ++ x.data.toList ++ [59]).toArray⟩
 | 0, n, x, hk, _, _, _, _, _ => by omega
 | k + 1, n, x, hk, hn, hx, hp, h7, h => by
  rw [rencode_step k n x (by omega) hn h]
  by_cases h10 : n < 10
  ·obtain ⟨k, rfl⟩ : ∃ j, k = j + 1 := ⟨k - 1, by omega⟩
   have e0 : ((n / 10 : Nat) : Int) = 0 := by omega
   have hne : (⟨#[UInt8.ofNat (48 + n % 10)]⟩ ++ x : ByteArray).toList ≠ [] := by
    rw [ByteArray.toList_eq, ByteArray.data_append, Array.toList_append]
    simp
   rw [e0, rencode_end k _ (by rw [ByteArray.size_append]; show 1 + x.size ≤ 1000; omega) hne, Lib.decDigits, dif_pos h10, ByteArray.data_append, Array.toList_append, show n % 10 = n by omega]
   simp
  ·have hs : (⟨#[UInt8.ofNat (48 + n % 10)]⟩ ++ x : ByteArray).size = 1 + x.size := by rw [ByteArray.size_append]; rfl
   have hx7 : x.size ≠ 7 := fun e => by rw [e] at hp; omega
   have hpw : n / 10 < 10 ^ (8 - (1 + x.size)) := by
    have e : 8 - x.size = (8 - (1 + x.size)) + 1 := by omega
    rw [e, Nat.pow_succ] at hp
    omega
   rw [rencode_l0 k (n / 10) _ (by omega) (by omega) (by rw [hs]; omega) (by rw [hs]; exact hpw) (by rw [hs]; omega) (.inl (by omega)), ByteArray.data_append, Array.toList_append]
   conv => rhs; rw [Lib.decDigits, dif_neg h10]
   simp
theorem rencode_f (k : Nat) (r : Int) (hk : 2000000 ≤ k) : sieveref06_Encode.f k r = some (encS (encR r)) := by
 obtain ⟨k, rfl⟩ : ∃ j, k = j + 2 := ⟨k - 2, by omega⟩
 have hl : ∀ n : Nat, n ≤ 1114111 → sieveref06_Encode.l0 k (⟨#[]⟩ : ByteArray) (n : Int) = some (encS n) := fun n hn => by
  rw [rencode_l0 k n ⟨#[]⟩ (by omega) hn (by show 0 + 10 ≤ 1000 - n % 1; omega) (by show n < 10 ^ 8; omega) (by show 0 ≤ 7; omega) (.inr (by rw [ByteArray.toList_eq]))]
  unfold encS
  simp
 have h1 : ∀ n : Nat, n ≤ 1114111 → sieveref06_Encode.j1 (k + 1) (n : Int) = some (encS n) := fun n hn => by
  rw [sieveref06_Encode.j1, show wrap64 (n : Int) = (n : Int) by unfold wrap64; omega]
  exact hl n hn
 have hT : ∀ x, sieveref06_Encode.j0 (k + 2) x true = some (encS 65533) := fun x => by
  rw [sieveref06_Encode.j0, if_pos rfl]
  exact h1 65533 (by omega)
 have hF : ∀ n : Nat, n ≤ 1114111 → sieveref06_Encode.j0 (k + 2) (n : Int) false = some (encS n) := fun n hn => by
  rw [sieveref06_Encode.j0, if_neg (by decide)]
  exact h1 n hn
 unfold sieveref06_Encode.f encR
 by_cases c1 : r < 0
 ·rw [if_pos c1, if_pos (.inl c1)]
  exact hT r
 ·by_cases c2 : r > 1114111
  ·rw [if_neg c1, if_pos c2, if_pos (.inr (.inl c2))]
   exact hT r
  ·by_cases c3 : r ≥ 55296
   ·by_cases c4 : r ≤ 57343
    ·rw [if_neg c1, if_neg c2, if_pos c3, decide_eq_true c4, if_pos (.inr (.inr ⟨c3, c4⟩))]
     exact hT r
    ·obtain ⟨n, rfl⟩ : ∃ n : Nat, r = n := ⟨r.toNat, by omega⟩
     rw [if_neg c1, if_neg c2, if_pos c3, decide_eq_false c4, if_neg (by omega), Int.toNat_natCast]
     exact hF n (by omega)
   ·obtain ⟨n, rfl⟩ : ∃ n : Nat, r = n := ⟨r.toNat, by omega⟩
    rw [if_neg c1, if_neg c2, if_neg c3, if_neg (by omega), Int.toNat_natCast]
    exact hF n (by omega)
end Go.Proofs.YthmbbkbmlnaghaaDoor.P
end
section
/-
 DERIVED: THE SHELF's CONTRACTS AT THIS DUMP, IN PLAIN WORDS (tools/lay-plain.mjs out of 'TrydShelf.lean', which tools/lay-shelf.mjs wrote): THE SAME DECLARATIONS UNDER THE SAME NAMES: 'import', 'namespace', 'open', 'def', 'theorem' AND NOTHING ELSE: no command of the shelf's: FOR A HAND-IN. Each laying: the table of numbers ('.._ren') and one theorem, a field a fact of the dump's own or the kernel's comparison; each contract: ONE APPLICATION.
-/
namespace Go.Proofs
open Go.Shelf
def Tryd.lays169_ren : Go.Shelf.Ren := ⟨fun | 169 => 35 | n => n, fun | 70 => 47 | 9 => 9 | 0 => 0 | 72 => 49 | 37 => 46 | 127 => 81 | 3 => 3 | 5 => 5 | n => n, fun | n => n⟩
theorem Tryd.lays169 : Go.Proofs.Lays.n169 Tryd.prog Tryd.lays169_ren := {
 mixed := by kernel_rfl
 f169 := Tryd.func35.trans (congrArg some (by kernel_rfl))
 t0 := Tryd.underlying0
 a0 := Tryd.isAgg0
 z0 := Tryd.sizeOf0
 v0 := Tryd.zeroValue0
 t3 := Tryd.underlying3
 a3 := Tryd.isAgg3
 z3 := Tryd.sizeOf3
 v3 := Tryd.zeroValue3
 t9 := Tryd.underlying9
 a9 := Tryd.isAgg9
 z9 := Tryd.sizeOf9
 v9 := Tryd.zeroValue9
 t37 := Tryd.underlying46
 a37 := Tryd.isAgg46
 z37 := Tryd.sizeOf46
 v37 := Tryd.zeroValue46
 t70 := Tryd.underlying47
 a70 := Tryd.isAgg47
 z70 := Tryd.sizeOf47
 v70 := Tryd.zeroValue47
 t72 := Tryd.underlying49
 a72 := Tryd.isAgg49
 z72 := Tryd.sizeOf49
 v72 := Tryd.zeroValue49
 t127 := Tryd.underlying81
 a127 := Tryd.isAgg81
 z127 := Tryd.sizeOf81
 v127 := Tryd.zeroValue81 }
theorem Tryd.Builder_Extra_169 : Builder.Extra Tryd.prog Tryd.lays169_ren := {
 sizeBuilder := by kernel_rfl
 liesBuilder := by kernel_rfl
 t5 := Tryd.underlying5
 a5 := Tryd.isAgg5
 z5 := Tryd.sizeOf5
 v5 := Tryd.zeroValue5
 infoByte := by kernel_rfl
 cellsByte := by kernel_rfl
 sizeByte := by kernel_rfl
 neB5 := by decide }
open Go.RowKit in
/-- (*strings.Builder).String: "String returns the accumulated string.": WHATEVER THE BUILDER HOLDS; THE FORM '_k': OVER 'Lib.IsBuilderF' (a builder that 'String()' may have read), AND WITH THE FRAME THAT REACHES ABOVE THE BUILDER: 'Lib.OthersKept': every block that is not b and is no row of uint8's stands as it stood: the iterator of a range among them. (LAID: no walk: one application.) -/
theorem Tryd.Builder_String_any_k (B b : Nat) (l : List UInt8) (w : World) (h : Lib.IsBuilderF 49 5 B b (Lib.byteCells l) w) (hBw : B ≤ w.heap.size) :
  Calls Tryd.prog 35 #[.pointer (some ⟨b, 0, none⟩)] w fun e w' => e = .returned (.string ⟨l.toArray⟩) ∧ (Lib.IsBuilderF 49 5 B b (Lib.byteCells l) w' ∧ Below B w w' ∧ Lib.OthersKept 5 (some b) w w') := Any.Builder_String_any_k Tryd.lays169 Tryd.Builder_Extra_169 B b l w h hBw
def Tryd.laysM171_ren : Go.Shelf.Ren := ⟨fun | 171 => 21 | 243 => 39 | 246 => 55 | 283 => 70 | 284 => 71 | 285 => 72 | 286 => 73 | 129 => 87 | 317 => 86 | 318 => 88 | 319 => 89 | 320 => 90 | 337 => 97 | 338 => 98 | n => n, fun | 3 => 3 | 9 => 9 | 2 => 2 | 4 => 4 | 171 => 100 | 0 => 0 | 53 => 101 | 37 => 46 | 5 => 5 | 173 => 104 | 212 => 122 | 51 => 95 | 20 => 20 | 213 => 123 | 46 => 116 | 232 => 140 | 233 => 141 | n => n, fun | 17 => 1 | 18 => 5 | 19 => 6 | n => n⟩
theorem Tryd.laysM171 : Go.Proofs.LaysM.n171 Tryd.prog Tryd.laysM171_ren := {
 mixed := by kernel_rfl
 f129 := Tryd.func87.trans (congrArg some (by kernel_rfl))
 f171 := Tryd.func21.trans (congrArg some (by kernel_rfl))
 f243 := Tryd.func39.trans (congrArg some (by kernel_rfl))
 f246 := Tryd.func55.trans (congrArg some (by kernel_rfl))
 f283 := Tryd.func70.trans (congrArg some (by kernel_rfl))
 f284 := Tryd.func71.trans (congrArg some (by kernel_rfl))
 f285 := Tryd.func72.trans (congrArg some (by kernel_rfl))
 f286 := Tryd.func73.trans (congrArg some (by kernel_rfl))
 f317 := Tryd.func86.trans (congrArg some (by kernel_rfl))
 f318 := Tryd.func88.trans (congrArg some (by kernel_rfl))
 f319 := Tryd.func89.trans (congrArg some (by kernel_rfl))
 f320 := Tryd.func90.trans (congrArg some (by kernel_rfl))
 f337 := Tryd.func97.trans (congrArg some (by kernel_rfl))
 f338 := Tryd.func98.trans (congrArg some (by kernel_rfl))
 t0 := Tryd.underlying0
 a0 := Tryd.isAgg0
 z0 := Tryd.sizeOf0
 v0 := Tryd.zeroValue0
 t2 := Tryd.underlying2
 a2 := Tryd.isAgg2
 z2 := Tryd.sizeOf2
 v2 := Tryd.zeroValue2
 t3 := Tryd.underlying3
 a3 := Tryd.isAgg3
 z3 := Tryd.sizeOf3
 v3 := Tryd.zeroValue3
 t4 := Tryd.underlying4
 a4 := Tryd.isAgg4
 z4 := Tryd.sizeOf4
 v4 := Tryd.zeroValue4
 t5 := Tryd.underlying5
 a5 := Tryd.isAgg5
 z5 := Tryd.sizeOf5
 v5 := Tryd.zeroValue5
 t9 := Tryd.underlying9
 a9 := Tryd.isAgg9
 z9 := Tryd.sizeOf9
 v9 := Tryd.zeroValue9
 t20 := Tryd.underlying20
 a20 := Tryd.isAgg20
 z20 := Tryd.sizeOf20
 v20 := Tryd.zeroValue20
 t37 := Tryd.underlying46
 a37 := Tryd.isAgg46
 z37 := Tryd.sizeOf46
 v37 := Tryd.zeroValue46
 t46 := Tryd.underlying116
 a46 := Tryd.isAgg116
 z46 := Tryd.sizeOf116
 v46 := Tryd.zeroValue116
 t51 := Tryd.underlying95
 a51 := Tryd.isAgg95
 z51 := Tryd.sizeOf95
 v51 := Tryd.zeroValue95
 t53 := Tryd.underlying101
 a53 := Tryd.isAgg101
 z53 := Tryd.sizeOf101
 v53 := Tryd.zeroValue101
 t171 := Tryd.underlying100
 a171 := Tryd.isAgg100
 z171 := Tryd.sizeOf100
 v171 := Tryd.zeroValue100
 t173 := Tryd.underlying104
 a173 := Tryd.isAgg104
 z173 := Tryd.sizeOf104
 v173 := Tryd.zeroValue104
 t212 := Tryd.underlying122
 a212 := Tryd.isAgg122
 z212 := Tryd.sizeOf122
 v212 := Tryd.zeroValue122
 t213 := Tryd.underlying123
 a213 := Tryd.isAgg123
 z213 := Tryd.sizeOf123
 t232 := Tryd.underlying140
 a232 := Tryd.isAgg140
 z232 := Tryd.sizeOf140
 v232 := Tryd.zeroValue140
 t233 := Tryd.underlying141
 a233 := Tryd.isAgg141
 z233 := Tryd.sizeOf141
 v233 := Tryd.zeroValue141
 g17 := by kernel_rfl
 g18 := by kernel_rfl
 g19 := by kernel_rfl
 i0 := by kernel_rfl
 i2 := by kernel_rfl
 i3 := by kernel_rfl
 i4 := by kernel_rfl
 i5 := by kernel_rfl
 i9 := by kernel_rfl
 i20 := by kernel_rfl
 i37 := by kernel_rfl
 i46 := by kernel_rfl
 i51 := by kernel_rfl
 i53 := by kernel_rfl
 i171 := by kernel_rfl
 i173 := by kernel_rfl
 i212 := by kernel_rfl
 i232 := by kernel_rfl
 i233 := by kernel_rfl
 m17 := by kernel_rfl
 m18 := by kernel_rfl
 m19 := by kernel_rfl }
open Go.RowKit Go.Sort Go.Lib in
/-- strconv.Itoa: "Itoa is equivalent to FormatInt(int64(i), 10).": i's DECIMAL NUMERAL ('Lib.itoa': a '-' where i is negative, then the digits), FOR EVERY int. The world behind the call: the world before it, new blocks behind the heap (the library's 'var a [24]byte'), draws. (LAID: no walk: one application.) -/
theorem Tryd.strconv_Itoa (n : Int) (h0 : -9223372036854775808 ≤ n) (h1 : n ≤ 9223372036854775807) (w : World) (htab : Lib.TabIs Tryd.prog w "internal/strconv.uint64pow10" .u64 Lib.pow10Tab) :
  Calls Tryd.prog 21 #[.int .i64 n] w fun e w' => e = .returned (.string ⟨(Lib.itoa n).toArray⟩) ∧ ∃ k os, w' = grow (w.drewN k) os := Any.strconv_Itoa Tryd.laysM171 n h0 h1 w htab
end Go.Proofs
end
section
/-
 charref.Encode: the decimal reference of a rune (strconv.Itoa by the shelf's contract).
-/
namespace Go.Proofs.YthmbbkbmlnaghaaDoor.P
open Go.RowKit Go.Proofs.YthmbbkbmlnaghaaDoorW.PrintWords Go.Proofs.YthmbbkbmlnaghaaDoorW.PrintLast Go.Proofs.YthmbbkbmlnaghaaDoorW.PrintMore
set_option linter.unusedVariables false
set_option linter.unusedSimpArgs false

/-- the table that strconv's digits are counted by -/
def PowTab (w : World) : Prop := Lib.TabIs Tryd.prog w "internal/strconv.uint64pow10" .u64 Lib.pow10Tab
theorem below_grow (w : World) (os : Array Obj) : Below w.heap.size w (Go.Sort.grow w os) := by
 refine ⟨rfl, rfl, rfl, ?_, fun k hk => ?_⟩
 ·unfold Go.Sort.grow
  simp
 ·show (w.heap ++ os)[k]? = w.heap[k]?
  rw [Array.getElem?_append_left hk]
theorem powTab_below {w w' : World} (h : PowTab w) (hb : Below w.heap.size w w') : PowTab w' := by
 unfold PowTab Lib.TabIs World.var? at *
 cases hg : Tryd.prog.globalNamed "internal/strconv.uint64pow10" with
 | none => rw [hg] at h; cases h
 | some g =>
  rw [hg] at h
  simp only [Option.bind_some] at h ⊢
  cases ho : w.heap[g]? with
  | none => rw [ho] at h; cases h
  | some o =>
   rw [hb.block g (Array.getElem?_eq_some_iff.1 ho).1]
   exact h
theorem itoa_calls (n : Nat) (hn : n ≤ 1114111) (w : World) (ht : PowTab w) :
  Calls Tryd.prog 21 #[.int .i64 (n : Nat)] w fun e w' => e = .returned (.string ⟨(Lib.decDigits n).toArray⟩) ∧ Below w.heap.size w w' := by
 refine (Tryd.strconv_Itoa (n : Int) (by omega) (by omega) w ht).mono ?_
 rintro e w' ⟨rfl, k, os, rfl⟩
 rw [Lib.itoa_nonneg]
 exact ⟨rfl, (pw_below_drewN (Below.refl _ w) k).trans ((below_grow (w.drewN k) os).mono (Nat.le_refl _))⟩
theorem decDigits_short (n : Nat) (hn : n ≤ 1114111) : (Lib.decDigits n).length ≤ 21 := by
 have := Lib.itoa_length_le (n : Int) (by omega) (by omega)
 rwa [Lib.itoa_nonneg] at this

set_option maxHeartbeats 4000000 in
theorem encode_calls (r : Int) (w : World) (hr0 : -2147483648 ≤ r) (hr1 : r ≤ 2147483647) (ht : PowTab w) :
  Calls Tryd.prog 9 #[.int .i32 r] w fun e w' => e = .returned (.string (encS (encR r))) ∧ Below w.heap.size w w' := by
 have main : ∀ n : Nat, encR r = n → n ≤ 1114111 → encS n = (⟨#[38, 35]⟩ : ByteArray) ++ ⟨(Lib.decDigits n).toArray⟩ ++ ⟨#[59]⟩ := fun n _ _ => bytes_eqL (by
  rw [ByteArray.data_append, Array.toList_append, ByteArray.data_append, Array.toList_append]
  rfl)
 have hm := main (encR r) rfl (encR_le r)
 have HI := Aside0.mk (itoa_calls (encR r) (encR_le r) w ht)
 have hlen : (⟨(Lib.decDigits (encR r)).toArray⟩ : ByteArray).size ≤ 21 := by
  have h1 := decDigits_short (encR r) (encR_le r)
  exact h1
 have hz1 : (9223372036854775807 < 2 + (⟨(Lib.decDigits (encR r)).toArray⟩ : ByteArray).size) = False := eq_false (by omega)
 have hz2 : (9223372036854775807 < 2 + (⟨(Lib.decDigits (encR r)).toArray⟩ : ByteArray).size + 1) = False := eq_false (by omega)
 rw [hm]
 clear hm main ht
 generalize (⟨(Lib.decDigits (encR r)).toArray⟩ : ByteArray) = D at HI hlen hz1 hz2
 unfold encR at HI
 by_cases c1 : r < 0
 ·rw [if_pos (.inl c1)] at HI
  go_enter Tryd.func9, Tryd.ntmps9
  go_wp2_with (go_at_call 21; refine HI.out.mono ?_; rintro e w1 ⟨rfl, hb⟩)
  go_ret
  exact ⟨rfl, hb⟩
 ·by_cases c2 : r > 1114111
  ·rw [if_pos (.inr (.inl c2))] at HI
   go_enter Tryd.func9, Tryd.ntmps9
   go_wp2_with (go_at_call 21; refine HI.out.mono ?_; rintro e w1 ⟨rfl, hb⟩)
   go_ret
   exact ⟨rfl, hb⟩
  ·by_cases c3 : 55296 ≤ r ∧ r ≤ 57343
   ·rw [if_pos (.inr (.inr c3))] at HI
    obtain ⟨c4, c5⟩ := c3
    go_enter Tryd.func9, Tryd.ntmps9
    go_wp2_with (go_at_call 21; refine HI.out.mono ?_; rintro e w1 ⟨rfl, hb⟩)
    go_ret
    exact ⟨rfl, hb⟩
   ·rw [if_neg (by omega)] at HI
    obtain ⟨n, rfl⟩ : ∃ n : Nat, r = n := ⟨r.toNat, by omega⟩
    rw [Int.toNat_natCast] at HI
    by_cases c4 : 55296 ≤ (n : Int)
    ·have c5 : ¬ (n : Int) ≤ 57343 := fun h => c3 ⟨c4, h⟩
     clear c3
     go_enter Tryd.func9, Tryd.ntmps9
     go_wp2_with (go_at_call 21; refine HI.out.mono ?_; rintro e w1 ⟨rfl, hb⟩)
     go_ret
     exact ⟨rfl, hb⟩
    ·clear c3
     go_enter Tryd.func9, Tryd.ntmps9
     go_wp2_with (go_at_call 21; refine HI.out.mono ?_; rintro e w1 ⟨rfl, hb⟩)
     go_ret
     exact ⟨rfl, hb⟩
end Go.Proofs.YthmbbkbmlnaghaaDoor.P
end
section
/-
 Small words..
-/
namespace Go.Proofs.YthmbbkbmlnaghaaDoor.P
open Go.RowKit Go.Proofs.YthmbbkbmlnaghaaDoorW.PrintWords Go.Proofs.YthmbbkbmlnaghaaDoorW.PrintLast Go.Proofs.YthmbbkbmlnaghaaDoorW.PrintMore
set_option linter.unusedVariables false
set_option linter.unusedSimpArgs false

theorem wrap32_nat (a : Nat) (h : a < 2147483648) : wrap32 (a : Int) = (a : Int) := by unfold wrap32; omega
end Go.Proofs.YthmbbkbmlnaghaaDoor.P
end
section
namespace Go.Proofs.YthmbbkbmlnaghaaDoor.P
open Go.RowKit Go.Proofs.YthmbbkbmlnaghaaDoorW.PrintWords Go.Proofs.YthmbbkbmlnaghaaDoorW.PrintLast Go.Proofs.YthmbbkbmlnaghaaDoorW.PrintMore
attribute [local go_sem] max2_int min2_int max_two min_two max_three min_three max_four min_four   -- for this text's walks alone
set_option linter.unusedVariables false
set_option linter.unusedSimpArgs false

/-! ### names_Digit: function 37 -/
def names_Digit.f (a0 : Int) : Option (Bool) := if a0 ≥ 48 then (some (decide (a0 ≤ 57))) else (some false)
set_option maxHeartbeats 8000000 in
set_option maxRecDepth 100000 in
theorem names_Digit.calls (a0 : Int) (r : Bool) (w : World) (h : names_Digit.f a0 = some r) :
  Calls Tryd.prog 37 #[.int .i32 a0] w fun e w' => e = .returned (.bool r) ∧ Drawn0 w w' := by
 have H : (if a0 ≥ 48 then (some (decide (a0 ≤ 57))) else (some false)) = some r := h
 clear h
 by_cases c2 : a0 ≥ 48
 ·rw [if_pos c2] at H
  have c2b0 : decide (48 ≤ a0) = true := decide_eq_true c2
  clear c2
  obtain rfl := Option.some.inj H
  go_enter Tryd.func37, Tryd.ntmps37
  go_wp2
  go_ret
  exact ⟨by first | rfl | (simp; done) | (simp [*]; done), by repeat (first | exact Drawn0.refl _ | apply Drawn0.step)⟩
 ·rw [if_neg c2] at H
  have c2b0 : decide (48 ≤ a0) = false := decide_eq_false c2
  clear c2
  obtain rfl := Option.some.inj H
  go_enter Tryd.func37, Tryd.ntmps37
  go_wp2
  go_ret
  exact ⟨by first | rfl | (simp; done) | (simp [*]; done), by repeat (first | exact Drawn0.refl _ | apply Drawn0.step)⟩

/-! ### names_Value: function 17 -/
def names_Value.j0 : Nat → Int → Bool → Option (Int)
 | 0, _, _ => none
 | k + 1, x0, x9 => if x9 = true then (some (wrap64 ((wrap64 (wrap32 (x0 - 97))) + 10))) else (if x0 ≥ 65 then (if x0 ≤ 70 then (some (wrap64 ((wrap64 (wrap32 (x0 - 65))) + 10))) else (some (-1))) else (some (-1)))
def names_Value.f (k : Nat) (a0 : Int) : Option (Int) := (names_Digit.f a0).bind fun t101 => (if t101 = true then (some (wrap64 (wrap32 (a0 - 48)))) else (if a0 ≥ 97 then (names_Value.j0 k a0 (decide (a0 ≤ 102))) else (names_Value.j0 k a0 false)))
set_option maxHeartbeats 8000000 in
set_option maxRecDepth 100000 in
theorem names_Value.calls (k : Nat) (a0 : Int) (r : Int) (w : World) (h : names_Value.f k a0 = some r) :
  Calls Tryd.prog 17 #[.int .i32 a0] w fun e w' => e = .returned (.int .i64 r) ∧ Drawn0 w w' := by
 have H : ((names_Digit.f a0).bind fun t101 => (if t101 = true then (some (wrap64 (wrap32 (a0 - 48)))) else (if a0 ≥ 97 then (names_Value.j0 k a0 (decide (a0 ≤ 102))) else (names_Value.j0 k a0 false)))) = some r := h
 clear h
 replace H := Option.bind_eq_some_iff.mp H
 obtain ⟨t101, A20, H⟩ := H
 replace H : (if t101 = true then (some (wrap64 (wrap32 (a0 - 48)))) else (if a0 ≥ 97 then (names_Value.j0 k a0 (decide (a0 ≤ 102))) else (names_Value.j0 k a0 false))) = some r := H
 have A2 := Aside0.mk A20
 clear A20
 by_cases c3 : t101 = true
 ·subst c3
  have H1 : (some (wrap64 (wrap32 (a0 - 48)))) = some r := by rw [if_pos rfl] at H; exact H
  clear H
  have H := H1
  clear H1
  obtain rfl := Option.some.inj H
  go_enter Tryd.func17, Tryd.ntmps17
  go_wp2_with (first | ((with_reducible refine gate_callee (f := 37) rfl ?_); refine goesL_ (some 5) rfl rfl Tryd.func37 (by kernel_rfl) rfl #[.int .i32 a0] rfl (by (try simp only [List.map_toArray, List.map_cons, List.map_nil]); first | done | rfl | (simp only [List.length_drop, List.length_take]; rfl) | (simp [*] <;> rfl)) ?_; (with_reducible refine (names_Digit.calls a0 true _ A2.out).mono ?_); rintro e w' ⟨rfl, ⟨nd, rfl⟩⟩; refine ⟨_, rfl, ?_⟩))
  go_ret
  exact ⟨by first | rfl | (simp; done) | (simp [*]; done), by repeat (first | exact Drawn0.refl _ | apply Drawn0.step)⟩
 ·replace c3 := Bool.eq_false_iff.mpr c3
  subst c3
  have H1 : (if a0 ≥ 97 then (names_Value.j0 k a0 (decide (a0 ≤ 102))) else (names_Value.j0 k a0 false)) = some r := by rw [if_neg (show ¬ (false = true) by decide)] at H; exact H
  clear H
  have H := H1
  clear H1
  have HC4 := Aside0.mk H
  clear H
  go_enter Tryd.func17, Tryd.ntmps17
  go_upto_region 3 with (first | ((with_reducible refine gate_callee (f := 37) rfl ?_); refine goesL_ (some 5) rfl rfl Tryd.func37 (by kernel_rfl) rfl #[.int .i32 a0] rfl (by (try simp only [List.map_toArray, List.map_cons, List.map_nil]); first | done | rfl | (simp only [List.length_drop, List.length_take]; rfl) | (simp [*] <;> rfl)) ?_; (with_reducible refine (names_Digit.calls a0 false _ A2.out).mono ?_); rintro e w' ⟨rfl, ⟨nd, rfl⟩⟩; refine ⟨_, rfl, ?_⟩))
  (try simp only [Act.put, List.setIfInBounds_toArray, List.set_cons_zero, List.set_cons_succ])
  go_cut [9] (fun v9 wc => ∃ (kq : Nat) (x9_3 : Bool), v9 = .bool x9_3 ∧ Aside0 (names_Value.j0 kq a0 x9_3 = some r) ∧ Aside0 (kq ≤ k) ∧ Drawn0 w wc)
  case first =>
   have H := HC4.out
   clear HC4
   by_cases c5 : a0 ≥ 97
   ·rw [if_pos c5] at H
    have c5b0 : decide (97 ≤ a0) = true := decide_eq_true c5
    clear c5
    (first | rw [c5b0] | (simp only [i64_w, i32_w]; rw [c5b0]) | skip)
    have H' := Aside0.mk H
    clear H
    go_wp2
    go_meet
    case rel => exact ⟨_, (decide (a0 ≤ 102)), (by first | rfl | (simp; done) | (simp [*]; done) | (unfold bt; split <;> first | rfl | (exfalso; simp_all; done) | (exfalso; simp_all; omega))), H', ⟨by first | omega | exact Nat.le_refl _⟩, by repeat (first | exact Drawn0.refl _ | apply Drawn0.step)⟩
   ·rw [if_neg c5] at H
    have c5b0 : decide (97 ≤ a0) = false := decide_eq_false c5
    clear c5
    (first | rw [c5b0] | (simp only [i64_w, i32_w]; rw [c5b0]) | skip)
    have H' := Aside0.mk H
    clear H
    go_wp2
    go_meet
    case rel => exact ⟨_, (false), (by first | rfl | (simp; done) | (simp [*]; done) | (unfold bt; split <;> first | rfl | (exfalso; simp_all; done) | (exfalso; simp_all; omega))), H', ⟨by first | omega | exact Nat.le_refl _⟩, by repeat (first | exact Drawn0.refl _ | apply Drawn0.step)⟩
  case rest =>
   clear HC4
   try clear c1
   try clear p2
   try clear c3
   try clear p3
   try clear c5
   try clear c5b0
   obtain ⟨kq, x9_3, rfl, HA, HJ3, ⟨mc3, rfl⟩⟩ := hcut
   cases kq with
   | zero => exact absurd HA.out (by simp [names_Value.j0])
   | succ kj3 =>
    have H := HA.out
    clear HA
    simp only [names_Value.j0] at H
    by_cases c6 : x9_3 = true
    ·subst c6
     have H1 : (some (wrap64 ((wrap64 (wrap32 (a0 - 97))) + 10))) = some r := by rw [if_pos rfl] at H; exact H
     clear H
     have H := H1
     clear H1
     obtain rfl := Option.some.inj H
     go_wp2
     go_ret
     exact ⟨by first | rfl | (simp; done) | (simp [*]; done), by repeat (first | exact Drawn0.refl _ | apply Drawn0.step)⟩
    ·replace c6 := Bool.eq_false_iff.mpr c6
     subst c6
     have H1 : (if a0 ≥ 65 then (if a0 ≤ 70 then (some (wrap64 ((wrap64 (wrap32 (a0 - 65))) + 10))) else (some (-1))) else (some (-1))) = some r := by rw [if_neg (show ¬ (false = true) by decide)] at H; exact H
     clear H
     have H := H1
     clear H1
     by_cases c7 : a0 ≥ 65
     ·rw [if_pos c7] at H
      have c7b0 : decide (65 ≤ a0) = true := decide_eq_true c7
      clear c7
      by_cases c8 : a0 ≤ 70
      ·rw [if_pos c8] at H
       have c8b0 : decide (a0 ≤ 70) = true := decide_eq_true c8
       clear c8
       obtain rfl := Option.some.inj H
       go_wp2
       go_ret
       exact ⟨by first | rfl | (simp; done) | (simp [*]; done), by repeat (first | exact Drawn0.refl _ | apply Drawn0.step)⟩
      ·rw [if_neg c8] at H
       have c8b0 : decide (a0 ≤ 70) = false := decide_eq_false c8
       clear c8
       obtain rfl := Option.some.inj H
       go_wp2
       go_ret
       exact ⟨by first | rfl | (simp; done) | (simp [*]; done), by repeat (first | exact Drawn0.refl _ | apply Drawn0.step)⟩
     ·rw [if_neg c7] at H
      have c7b0 : decide (65 ≤ a0) = false := decide_eq_false c7
      clear c7
      obtain rfl := Option.some.inj H
      go_wp2
      go_ret
      exact ⟨by first | rfl | (simp; done) | (simp [*]; done), by repeat (first | exact Drawn0.refl _ | apply Drawn0.step)⟩

-- NOT PRINTED: function 28 (charref_windows)

-- NOT PRINTED: function 70 (strconv_small)

-- NOT PRINTED: function 86 (strconv_log10Pow2)

-- NOT PRINTED: function 87 (bits_Len64)

-- NOT PRINTED: function 88 (strconv_bool2_int)

-- NOT PRINTED: function 71 (strconv_numDigits)

-- NOT PRINTED: function 72 (strconv_formatBase10)

-- NOT PRINTED: function 89 (strconv_isPowerOfTwo)

-- NOT PRINTED: function 97 (bits_TrailingZeros32)

-- NOT PRINTED: function 98 (bits_TrailingZeros64)

-- NOT PRINTED: function 90 (bits_TrailingZeros)

-- NOT PRINTED: function 73 (strconv_formatBits)

-- NOT PRINTED: function 55 (strconv_FormatInt_55)

-- NOT PRINTED: function 39 (strconv_Itoa_39)

-- NOT PRINTED: function 21 (strconv_Itoa_21)

-- NOT PRINTED: function 9 (charref_Encode)

-- NOT PRINTED: function 63 (abi_NoEscape)

-- NOT PRINTED: function 47 (strings_Builder_copyCheck)

-- NOT PRINTED: function 32 (strings_Builder_WriteString)

-- NOT PRINTED: function 35 (strings_Builder_String)

/-! ### stringslite_HasPrefix: function 92 -/
def stringslite_HasPrefix.f (a0 : ByteArray) (a1 : ByteArray) : Option (Bool) := if (a0.size : Int) ≥ (a1.size : Int) then (if 0 ≤ (a1.size : Int) then (if (a1.size : Int) ≤ (a0.size : Int) then (some ((a0.extract 0 ((a1.size : Int) : Int).toNat).toList == a1.toList)) else (none)) else (none)) else (some false)
set_option maxHeartbeats 8000000 in
set_option maxRecDepth 100000 in
theorem stringslite_HasPrefix.calls (a0 : ByteArray) (a1 : ByteArray) (r : Bool) (w : World) (h : stringslite_HasPrefix.f a0 a1 = some r) :
  Calls Tryd.prog 92 #[.string a0, .string a1] w fun e w' => e = .returned (.bool r) ∧ Drawn0 w w' := by
 have H : (if (a0.size : Int) ≥ (a1.size : Int) then (if 0 ≤ (a1.size : Int) then (if (a1.size : Int) ≤ (a0.size : Int) then (some ((a0.extract 0 ((a1.size : Int) : Int).toNat).toList == a1.toList)) else (none)) else (none)) else (some false)) = some r := h
 clear h
 by_cases c3 : (a0.size : Int) ≥ (a1.size : Int)
 ·rw [if_pos c3] at H
  have c3b0 : decide ((a1.size : Int) ≤ (a0.size : Int)) = true := decide_eq_true c3
  have c3b1 : decide (a1.size ≤ a0.size) = true := decide_eq_true (Int.ofNat_le.mp c3)
  clear c3
  by_cases c4 : 0 ≤ (a1.size : Int)
  ·rw [if_pos c4] at H
   have c4b0 := eq_true c4
   have c4b1 : decide (0 ≤ (a1.size : Int)) = true := decide_eq_true c4
   clear c4
   by_cases c5 : (a1.size : Int) ≤ (a0.size : Int)
   ·rw [if_pos c5] at H
    have c5b0 := eq_true c5
    have c5b1 : decide ((a1.size : Int) ≤ (a0.size : Int)) = true := decide_eq_true c5
    clear c5
    obtain rfl := Option.some.inj H
    go_enter Tryd.func92, Tryd.ntmps92
    go_wp2
    go_ret
    exact ⟨by first | rfl | (simp; done) | (simp [*]; done), by repeat (first | exact Drawn0.refl _ | apply Drawn0.step)⟩
   ·rw [if_neg c5] at H
    exact absurd H (by simp)
  ·rw [if_neg c4] at H
   exact absurd H (by simp)
 ·rw [if_neg c3] at H
  have c3b0 : decide ((a1.size : Int) ≤ (a0.size : Int)) = false := decide_eq_false c3
  have c3b1 : decide (a1.size ≤ a0.size) = false := decide_eq_false (fun h => c3 (Int.ofNat_le.mpr h))
  clear c3
  obtain rfl := Option.some.inj H
  go_enter Tryd.func92, Tryd.ntmps92
  go_wp2
  go_ret
  exact ⟨by first | rfl | (simp; done) | (simp [*]; done), by repeat (first | exact Drawn0.refl _ | apply Drawn0.step)⟩

/-! ### strings_HasPrefix: function 75 -/
def strings_HasPrefix.f (a0 : ByteArray) (a1 : ByteArray) : Option (Bool) := (stringslite_HasPrefix.f a0 a1).bind fun t118 => (some t118)
set_option maxHeartbeats 8000000 in
set_option maxRecDepth 100000 in
theorem strings_HasPrefix.calls (a0 : ByteArray) (a1 : ByteArray) (r : Bool) (w : World) (h : strings_HasPrefix.f a0 a1 = some r) :
  Calls Tryd.prog 75 #[.string a0, .string a1] w fun e w' => e = .returned (.bool r) ∧ Drawn0 w w' := by
 have H : ((stringslite_HasPrefix.f a0 a1).bind fun t118 => (some t118)) = some r := h
 clear h
 replace H := Option.bind_eq_some_iff.mp H
 obtain ⟨t118, A30, H⟩ := H
 replace H : (some t118) = some r := H
 have A3 := Aside0.mk A30
 clear A30
 obtain rfl := Option.some.inj H
 go_enter Tryd.func75, Tryd.ntmps75
 go_wp2_with (first | ((with_reducible refine gate_callee (f := 92) rfl ?_); refine goesL_ (some 7) rfl rfl Tryd.func92 (by kernel_rfl) rfl #[.string a0, .string a1] rfl (by (try simp only [List.map_toArray, List.map_cons, List.map_nil]); first | done | rfl | (simp only [List.length_drop, List.length_take]; rfl) | (simp [*] <;> rfl)) ?_; (with_reducible refine (stringslite_HasPrefix.calls a0 a1 t118 _ A3.out).mono ?_); rintro e w' ⟨rfl, ⟨nd, rfl⟩⟩; refine ⟨_, rfl, ?_⟩))
 go_ret
 exact ⟨by first | rfl | (simp; done) | (simp [*]; done), by repeat (first | exact Drawn0.refl _ | apply Drawn0.step)⟩

/-! ### entity_says: function 51 -/
def entity_says.f (a0_0 : ByteArray) (a0_1 : Int) (a0_2 : Int) (a0_3 : Bool) : Option (List Int) := if a0_2 = 0 then (some (([a0_1] : List Int))) else (some (([a0_1, a0_2] : List Int)))
set_option maxHeartbeats 8000000 in
set_option maxRecDepth 100000 in
theorem entity_says.calls (a0_0 : ByteArray) (a0_1 : Int) (a0_2 : Int) (a0_3 : Bool) (r : List Int) (w : World) (h : entity_says.f a0_0 a0_1 a0_2 a0_3 = some r) :
  Calls Tryd.prog 51 #[.agg #[.string a0_0, .int .i32 a0_1, .int .i32 a0_2, .bool a0_3]] w fun e w' => ∃ v0_ : Value, e = .returned (v0_) ∧ Kd.R (Kd.int .i32) 21 w' w.heap.size (fun _ => True) v0_ r ∧ Below w.heap.size w w' := by
 have hu75 := Tryd.underlying75
 have HB := Aside0.mk (Below.refl w.heap.size w)
 have H : (if a0_2 = 0 then (some (([a0_1] : List Int))) else (some (([a0_1, a0_2] : List Int)))) = some r := h
 clear h
 by_cases c2 : a0_2 = 0
 ·rw [if_pos c2] at H
  have c2b0 : (a0_2 == 0) = true := beq_iff_eq.mpr c2
  have c2b1 : (a0_2 != 0) = false := bne_eq_false_iff_eq.mpr c2
  clear c2
  obtain ⟨y120, hy120⟩ : ∃ y_ : List Int, y_ = (([a0_1] : List Int)) := ⟨_, rfl⟩
  replace H : (some y120) = some r := by first | (rw [hy120]; with_reducible exact H) | (have H2_ := (Option.bind_some _ _).symm.trans H; rw [hy120]; with_reducible exact H2_) | (have H2_ := (Option.bind_some _ _).symm.trans H; with_reducible exact H2_) | with_reducible exact H | (rw [hy120]; exact H) | exact H
  have Ny120 := Aside0.mk hy120
  clear hy120
  obtain rfl := Option.some.inj H
  go_enter Tryd.func51, Tryd.ntmps51
  go_wp2_with (first | ((with_reducible refine gate_dst (N := 1) rfl ?_); refine box_event ?hg (N := 1) ?hd (cs := #[.string a0_0, .int .i32 a0_1, .int .i32 a0_2, .bool a0_3]) (t := 75) ?hr ?_; (case hd => rfl); (case hg => rfl); (case hr => first | (go_simp; done) | (go_simp; rfl)); intro gb119 hg w3 hbox hb; have n0_ := Aside0.mk (below_step (by repeat (first | (with_reducible first | exact HB.out | apply below_alloc | apply pw_below_drewN | apply below_drew1) | exact HB.out)) hb); have n1_ := Aside0.mk (hbox); have n2_ := Aside0.mk ((by rw [hg]; exact (below_size (by repeat (first | (with_reducible first | exact HB.out | apply below_alloc | apply pw_below_drewN | apply below_drew1) | exact HB.out))) : w.heap.size ≤ gb119)); have n3_ := Aside0.mk ((by rw [hg]; exact (below_size (by repeat (first | (with_reducible first | exact HB.out | apply below_alloc | apply pw_below_drewN | apply below_drew1) | exact HB.out))) : w.heap.size ≤ gb119)); clear HB; have HB := n0_; have BK119 := n1_; have GW119 := n2_; have GE119 := n3_; clear n0_ n1_ n2_ n3_; clear hb hbox hg; have hcz4_0 : w3.cell? ⟨gb119, 0, none⟩ = some (.string a0_0) := (blk_cell BK119.out 0).trans rfl; have hcz4_1 : w3.cell? ⟨gb119, 1, none⟩ = some (.int .i32 a0_1) := (blk_cell BK119.out 1).trans rfl; have hcz4_2 : w3.cell? ⟨gb119, 2, none⟩ = some (.int .i32 a0_2) := (blk_cell BK119.out 2).trans rfl; have hcz4_3 : w3.cell? ⟨gb119, 3, none⟩ = some (.bool a0_3) := (blk_cell BK119.out 3).trans rfl; have hfz4_0 := blk_frozen BK119.out 0; have hfz4_1 := blk_frozen BK119.out 1; have hfz4_2 := blk_frozen BK119.out 2; have hfz4_3 := blk_frozen BK119.out 3) | ((with_reducible refine gate_dst (N := 13) rfl ?_); refine Kd.R_lit (Kd.int .i32) _ 21 ?hg (N := 13) ?hd (xs := ([a0_1] : List Int)) (inner := [.int .i32 a0_1]) (ok := fun _ => True) (okp := fun _ => True) ?hr ?hp (fun _ hk => hk) trivial (Below.refl _ _) (Nat.le_refl _) (by simp) ?_; (case hd => rfl); (case hg => rfl); (case hr => first | (go_simp; done) | (go_simp; rfl)); (case hp => exact (Reps.one (show Kd.M (Kd.int .i32) _ _ _ a0_1 [.int .i32 a0_1] from rfl) (Reps.none _ _))); intro v121 w5 ho6 hb hg_ hnew_; clear hg_ hnew_; (first | rw [← Ny120.out] at ho6 | (simp only [Int.reduceToNat] at ho6; rw [← Ny120.out] at ho6)); have n0_ := Aside0.mk (Kd.R_lower ho6 (below_size (by repeat (first | (with_reducible first | exact HB.out | apply below_alloc | apply pw_below_drewN | apply below_drew1 | refine below_set ?_ GE119.out) | exact HB.out)))); have n1_ := Aside0.mk (blk_below (g := gb119) (o := .cells #[.string a0_0, .int .i32 a0_1, .int .i32 a0_2, .bool a0_3] 75 (0, 0)) (by (with_reducible repeat (first | refine blk_drewN ?_ _ | refine blk_drew ?_ | refine blk_alloc ?_ _)); exact BK119.out) hb); have n2_ := Aside0.mk (below_step (by repeat (first | (with_reducible first | exact HB.out | apply below_alloc | apply pw_below_drewN | apply below_drew1 | refine below_set ?_ GE119.out) | exact HB.out)) hb); clear BK119; clear HB; have HO122 := n0_; have BK119 := n1_; have HB := n2_; clear n0_ n1_ n2_; clear hb ho6))
  go_ret
  exact ⟨_, by first | rfl | (simp [errW_none, errW_some] <;> rfl) | (simp [*, errW_none, errW_some] <;> rfl), by (with_reducible repeat (first | apply Kd.R_alloc | apply Kd.R_drewN | apply Kd.R_drew)); exact HO122.out, by repeat (first | (with_reducible first | exact HB.out | apply below_alloc | apply pw_below_drewN | apply below_drew1 | refine below_set ?_ GE119.out) | exact HB.out)⟩
 ·rw [if_neg c2] at H
  have c2b0 : (a0_2 == 0) = false := beq_eq_false_iff_ne.mpr c2
  have c2b1 : (a0_2 != 0) = true := bne_iff_ne.mpr c2
  obtain ⟨y123, hy123⟩ : ∃ y_ : List Int, y_ = (([a0_1, a0_2] : List Int)) := ⟨_, rfl⟩
  replace H : (some y123) = some r := by first | (rw [hy123]; with_reducible exact H) | (have H2_ := (Option.bind_some _ _).symm.trans H; rw [hy123]; with_reducible exact H2_) | (have H2_ := (Option.bind_some _ _).symm.trans H; with_reducible exact H2_) | with_reducible exact H | (rw [hy123]; exact H) | exact H
  have Ny123 := Aside0.mk hy123
  clear hy123
  obtain rfl := Option.some.inj H
  go_enter Tryd.func51, Tryd.ntmps51
  go_wp2_with (first | ((with_reducible refine gate_dst (N := 1) rfl ?_); refine box_event ?hg (N := 1) ?hd (cs := #[.string a0_0, .int .i32 a0_1, .int .i32 a0_2, .bool a0_3]) (t := 75) ?hr ?_; (case hd => rfl); (case hg => rfl); (case hr => first | (go_simp; done) | (go_simp; rfl)); intro gb119 hg w7 hbox hb; have n0_ := Aside0.mk (below_step (by repeat (first | (with_reducible first | exact HB.out | apply below_alloc | apply pw_below_drewN | apply below_drew1) | exact HB.out)) hb); have n1_ := Aside0.mk (hbox); have n2_ := Aside0.mk ((by rw [hg]; exact (below_size (by repeat (first | (with_reducible first | exact HB.out | apply below_alloc | apply pw_below_drewN | apply below_drew1) | exact HB.out))) : w.heap.size ≤ gb119)); have n3_ := Aside0.mk ((by rw [hg]; exact (below_size (by repeat (first | (with_reducible first | exact HB.out | apply below_alloc | apply pw_below_drewN | apply below_drew1) | exact HB.out))) : w.heap.size ≤ gb119)); clear HB; have HB := n0_; have BK119 := n1_; have GW119 := n2_; have GE119 := n3_; clear n0_ n1_ n2_ n3_; clear hb hbox hg; have hcz8_0 : w7.cell? ⟨gb119, 0, none⟩ = some (.string a0_0) := (blk_cell BK119.out 0).trans rfl; have hcz8_1 : w7.cell? ⟨gb119, 1, none⟩ = some (.int .i32 a0_1) := (blk_cell BK119.out 1).trans rfl; have hcz8_2 : w7.cell? ⟨gb119, 2, none⟩ = some (.int .i32 a0_2) := (blk_cell BK119.out 2).trans rfl; have hcz8_3 : w7.cell? ⟨gb119, 3, none⟩ = some (.bool a0_3) := (blk_cell BK119.out 3).trans rfl; have hfz8_0 := blk_frozen BK119.out 0; have hfz8_1 := blk_frozen BK119.out 1; have hfz8_2 := blk_frozen BK119.out 2; have hfz8_3 := blk_frozen BK119.out 3) | ((with_reducible refine gate_dst (N := 10) rfl ?_); refine Kd.R_lit (Kd.int .i32) _ 21 ?hg (N := 10) ?hd (xs := ([a0_1, a0_2] : List Int)) (inner := [.int .i32 a0_1, .int .i32 a0_2]) (ok := fun _ => True) (okp := fun _ => True) ?hr ?hp (fun _ hk => hk) trivial (Below.refl _ _) (Nat.le_refl _) (by simp) ?_; (case hd => rfl); (case hg => rfl); (case hr => first | (go_simp; done) | (go_simp; rfl)); (case hp => exact (Reps.one (show Kd.M (Kd.int .i32) _ _ _ a0_1 [.int .i32 a0_1] from rfl) (Reps.one (show Kd.M (Kd.int .i32) _ _ _ a0_2 [.int .i32 a0_2] from rfl) (Reps.none _ _)))); intro v124 w9 ho10 hb hg_ hnew_; clear hg_ hnew_; (first | rw [← Ny123.out] at ho10 | (simp only [Int.reduceToNat] at ho10; rw [← Ny123.out] at ho10)); have n0_ := Aside0.mk (Kd.R_lower ho10 (below_size (by repeat (first | (with_reducible first | exact HB.out | apply below_alloc | apply pw_below_drewN | apply below_drew1 | refine below_set ?_ GE119.out) | exact HB.out)))); have n1_ := Aside0.mk (blk_below (g := gb119) (o := .cells #[.string a0_0, .int .i32 a0_1, .int .i32 a0_2, .bool a0_3] 75 (0, 0)) (by (with_reducible repeat (first | refine blk_drewN ?_ _ | refine blk_drew ?_ | refine blk_alloc ?_ _)); exact BK119.out) hb); have n2_ := Aside0.mk (below_step (by repeat (first | (with_reducible first | exact HB.out | apply below_alloc | apply pw_below_drewN | apply below_drew1 | refine below_set ?_ GE119.out) | exact HB.out)) hb); clear BK119; clear HB; have HO125 := n0_; have BK119 := n1_; have HB := n2_; clear n0_ n1_ n2_; clear hb ho10))
  go_ret
  exact ⟨_, by first | rfl | (simp [errW_none, errW_some] <;> rfl) | (simp [*, errW_none, errW_some] <;> rfl), by (with_reducible repeat (first | apply Kd.R_alloc | apply Kd.R_drewN | apply Kd.R_drew)); exact HO125.out, by repeat (first | (with_reducible first | exact HB.out | apply below_alloc | apply pw_below_drewN | apply below_drew1 | refine below_set ?_ GE119.out) | exact HB.out)⟩

/-! ### names_Upper: function 93 -/
def names_Upper.f (a0 : Int) : Option (Bool) := if a0 ≥ 65 then (some (decide (a0 ≤ 90))) else (some false)
set_option maxHeartbeats 8000000 in
set_option maxRecDepth 100000 in
theorem names_Upper.calls (a0 : Int) (r : Bool) (w : World) (h : names_Upper.f a0 = some r) :
  Calls Tryd.prog 93 #[.int .i32 a0] w fun e w' => e = .returned (.bool r) ∧ Drawn0 w w' := by
 have H : (if a0 ≥ 65 then (some (decide (a0 ≤ 90))) else (some false)) = some r := h
 clear h
 by_cases c2 : a0 ≥ 65
 ·rw [if_pos c2] at H
  have c2b0 : decide (65 ≤ a0) = true := decide_eq_true c2
  clear c2
  obtain rfl := Option.some.inj H
  go_enter Tryd.func93, Tryd.ntmps93
  go_wp2
  go_ret
  exact ⟨by first | rfl | (simp; done) | (simp [*]; done), by repeat (first | exact Drawn0.refl _ | apply Drawn0.step)⟩
 ·rw [if_neg c2] at H
  have c2b0 : decide (65 ≤ a0) = false := decide_eq_false c2
  clear c2
  obtain rfl := Option.some.inj H
  go_enter Tryd.func93, Tryd.ntmps93
  go_wp2
  go_ret
  exact ⟨by first | rfl | (simp; done) | (simp [*]; done), by repeat (first | exact Drawn0.refl _ | apply Drawn0.step)⟩

/-! ### names_Letter: function 76 -/
def names_Letter.f (a0 : Int) : Option (Bool) := (names_Upper.f a0).bind fun t126 => (if t126 = true then (some true) else (if a0 ≥ 97 then (some (decide (a0 ≤ 122))) else (some false)))
set_option maxHeartbeats 8000000 in
set_option maxRecDepth 100000 in
theorem names_Letter.calls (a0 : Int) (r : Bool) (w : World) (h : names_Letter.f a0 = some r) :
  Calls Tryd.prog 76 #[.int .i32 a0] w fun e w' => e = .returned (.bool r) ∧ Drawn0 w w' := by
 have H : ((names_Upper.f a0).bind fun t126 => (if t126 = true then (some true) else (if a0 ≥ 97 then (some (decide (a0 ≤ 122))) else (some false)))) = some r := h
 clear h
 replace H := Option.bind_eq_some_iff.mp H
 obtain ⟨t126, A20, H⟩ := H
 replace H : (if t126 = true then (some true) else (if a0 ≥ 97 then (some (decide (a0 ≤ 122))) else (some false))) = some r := H
 have A2 := Aside0.mk A20
 clear A20
 by_cases c3 : t126 = true
 ·subst c3
  have H1 : (some true) = some r := by rw [if_pos rfl] at H; exact H
  clear H
  have H := H1
  clear H1
  obtain rfl := Option.some.inj H
  go_enter Tryd.func76, Tryd.ntmps76
  go_wp2_with (first | ((with_reducible refine gate_callee (f := 93) rfl ?_); refine goesL_ (some 4) rfl rfl Tryd.func93 (by kernel_rfl) rfl #[.int .i32 a0] rfl (by (try simp only [List.map_toArray, List.map_cons, List.map_nil]); first | done | rfl | (simp only [List.length_drop, List.length_take]; rfl) | (simp [*] <;> rfl)) ?_; (with_reducible refine (names_Upper.calls a0 true _ A2.out).mono ?_); rintro e w' ⟨rfl, ⟨nd, rfl⟩⟩; refine ⟨_, rfl, ?_⟩))
  go_ret
  exact ⟨by first | rfl | (simp; done) | (simp [*]; done), by repeat (first | exact Drawn0.refl _ | apply Drawn0.step)⟩
 ·replace c3 := Bool.eq_false_iff.mpr c3
  subst c3
  have H1 : (if a0 ≥ 97 then (some (decide (a0 ≤ 122))) else (some false)) = some r := by rw [if_neg (show ¬ (false = true) by decide)] at H; exact H
  clear H
  have H := H1
  clear H1
  by_cases c4 : a0 ≥ 97
  ·rw [if_pos c4] at H
   have c4b0 : decide (97 ≤ a0) = true := decide_eq_true c4
   clear c4
   obtain rfl := Option.some.inj H
   go_enter Tryd.func76, Tryd.ntmps76
   go_wp2_with (first | ((with_reducible refine gate_callee (f := 93) rfl ?_); refine goesL_ (some 4) rfl rfl Tryd.func93 (by kernel_rfl) rfl #[.int .i32 a0] rfl (by (try simp only [List.map_toArray, List.map_cons, List.map_nil]); first | done | rfl | (simp only [List.length_drop, List.length_take]; rfl) | (simp [*] <;> rfl)) ?_; (with_reducible refine (names_Upper.calls a0 false _ A2.out).mono ?_); rintro e w' ⟨rfl, ⟨nd, rfl⟩⟩; refine ⟨_, rfl, ?_⟩))
   go_ret
   exact ⟨by first | rfl | (simp; done) | (simp [*]; done), by repeat (first | exact Drawn0.refl _ | apply Drawn0.step)⟩
  ·rw [if_neg c4] at H
   have c4b0 : decide (97 ≤ a0) = false := decide_eq_false c4
   clear c4
   obtain rfl := Option.some.inj H
   go_enter Tryd.func76, Tryd.ntmps76
   go_wp2_with (first | ((with_reducible refine gate_callee (f := 93) rfl ?_); refine goesL_ (some 4) rfl rfl Tryd.func93 (by kernel_rfl) rfl #[.int .i32 a0] rfl (by (try simp only [List.map_toArray, List.map_cons, List.map_nil]); first | done | rfl | (simp only [List.length_drop, List.length_take]; rfl) | (simp [*] <;> rfl)) ?_; (with_reducible refine (names_Upper.calls a0 false _ A2.out).mono ?_); rintro e w' ⟨rfl, ⟨nd, rfl⟩⟩; refine ⟨_, rfl, ?_⟩))
   go_ret
   exact ⟨by first | rfl | (simp; done) | (simp [*]; done), by repeat (first | exact Drawn0.refl _ | apply Drawn0.step)⟩

/-! ### charref_word: function 59 -/
def charref_word.f (a0 : Int) : Option (Bool) := (names_Letter.f (wrap32 (a0))).bind fun t127 => (if t127 = true then (some true) else ((names_Digit.f (wrap32 (a0))).bind fun t128 => (some t128)))
set_option maxHeartbeats 8000000 in
set_option maxRecDepth 100000 in
theorem charref_word.calls (a0 : Int) (r : Bool) (w : World) (h : charref_word.f a0 = some r) :
  Calls Tryd.prog 59 #[.int .u8 a0] w fun e w' => e = .returned (.bool r) ∧ Drawn0 w w' := by
 have H : ((names_Letter.f (wrap32 (a0))).bind fun t127 => (if t127 = true then (some true) else ((names_Digit.f (wrap32 (a0))).bind fun t128 => (some t128)))) = some r := h
 clear h
 replace H := Option.bind_eq_some_iff.mp H
 obtain ⟨t127, A20, H⟩ := H
 replace H : (if t127 = true then (some true) else ((names_Digit.f (wrap32 (a0))).bind fun t128 => (some t128))) = some r := H
 have A2 := Aside0.mk A20
 clear A20
 by_cases c3 : t127 = true
 ·subst c3
  have H1 : (some true) = some r := by rw [if_pos rfl] at H; exact H
  clear H
  have H := H1
  clear H1
  obtain rfl := Option.some.inj H
  go_enter Tryd.func59, Tryd.ntmps59
  go_wp2_with (first | ((with_reducible refine gate_callee (f := 76) rfl ?_); refine goesL_ (some 5) rfl rfl Tryd.func76 (by kernel_rfl) rfl #[.int .i32 (wrap32 (a0))] rfl (by (try simp only [List.map_toArray, List.map_cons, List.map_nil]); first | done | rfl | (simp only [List.length_drop, List.length_take]; rfl) | (simp [*] <;> rfl)) ?_; (with_reducible refine (names_Letter.calls (wrap32 (a0)) true _ A2.out).mono ?_); rintro e w' ⟨rfl, ⟨nd, rfl⟩⟩; refine ⟨_, rfl, ?_⟩))
  go_ret
  exact ⟨by first | rfl | (simp; done) | (simp [*]; done), by repeat (first | exact Drawn0.refl _ | apply Drawn0.step)⟩
 ·replace c3 := Bool.eq_false_iff.mpr c3
  subst c3
  have H1 : ((names_Digit.f (wrap32 (a0))).bind fun t128 => (some t128)) = some r := by rw [if_neg (show ¬ (false = true) by decide)] at H; exact H
  clear H
  have H := H1
  clear H1
  replace H := Option.bind_eq_some_iff.mp H
  obtain ⟨t128, A40, H⟩ := H
  replace H : (some t128) = some r := H
  have A4 := Aside0.mk A40
  clear A40
  obtain rfl := Option.some.inj H
  go_enter Tryd.func59, Tryd.ntmps59
  go_wp2_with (first | ((with_reducible refine gate_callee (f := 76) rfl ?_); refine goesL_ (some 5) rfl rfl Tryd.func76 (by kernel_rfl) rfl #[.int .i32 (wrap32 (a0))] rfl (by (try simp only [List.map_toArray, List.map_cons, List.map_nil]); first | done | rfl | (simp only [List.length_drop, List.length_take]; rfl) | (simp [*] <;> rfl)) ?_; (with_reducible refine (names_Letter.calls (wrap32 (a0)) false _ A2.out).mono ?_); rintro e w' ⟨rfl, ⟨nd, rfl⟩⟩; refine ⟨_, rfl, ?_⟩) | (go_at_call 37; (with_reducible refine (names_Digit.calls (wrap32 (a0)) t128 _ A4.out).mono ?_); rintro e w' ⟨rfl, ⟨nd, rfl⟩⟩))
  go_ret
  exact ⟨by first | rfl | (simp; done) | (simp [*]; done), by repeat (first | exact Drawn0.refl _ | apply Drawn0.step)⟩

-- NOT PRINTED: function 83 (bytealg_MakeNoZero)

-- NOT PRINTED: function 65 (strings_Builder_grow)

-- NOT PRINTED: function 52 (strings_Builder_Grow)

-- NOT PRINTED: function 84 (utf8_decodeRuneInStringSlow)

-- NOT PRINTED: function 66 (utf8_DecodeRuneInString)

-- NOT PRINTED: function 67 (utf8_RuneLen)

-- NOT PRINTED: function 68 (strings_Builder_Cap)

-- NOT PRINTED: function 53 (strings_Map)

-- NOT PRINTED: function 95 (unicode_lookupCaseRange)

-- NOT PRINTED: function 96 (unicode_convertCase)

-- NOT PRINTED: function 85 (unicode_to)

-- NOT PRINTED: function 69 (unicode_To)

-- NOT PRINTED: function 54 (unicode_ToUpper)

-- NOT PRINTED: function 33 (strings_ToUpper)

-- NOT PRINTED: function 34 (strconv_FormatInt_34)

/-! ### utf_bounds: function 94 -/
mutual
def utf_bounds.j0 : Nat → Int → Bool → Option (Int × Int × Int)
 | 0, _, _ => none
 | k + 1, x0, x8 => if x8 = true then (some (1, 128, 191)) else (if x0 = 224 then (some (2, 160, 191)) else (if x0 = 237 then (some (2, 128, 159)) else (if x0 ≥ 225 then (utf_bounds.j1 k x0 (decide (x0 ≤ 239))) else (utf_bounds.j1 k x0 false))))
def utf_bounds.j1 : Nat → Int → Bool → Option (Int × Int × Int)
 | 0, _, _ => none
 | k + 1, x0, x21 => if x21 = true then (some (2, 128, 191)) else (if x0 = 240 then (some (3, 144, 191)) else (if x0 ≥ 241 then (utf_bounds.j2 k x0 (decide (x0 ≤ 243))) else (utf_bounds.j2 k x0 false)))
def utf_bounds.j2 : Nat → Int → Bool → Option (Int × Int × Int)
 | 0, _, _ => none
 | k + 1, x0, x31 => if x31 = true then (some (3, 128, 191)) else (if x0 = 244 then (some (3, 128, 143)) else (some ((-1), 0, 0)))
end
def utf_bounds.f (k : Nat) (a0 : Int) : Option (Int × Int × Int) := if a0 < 128 then (some (0, 0, 0)) else (if a0 ≥ 194 then (utf_bounds.j0 k a0 (decide (a0 ≤ 223))) else (utf_bounds.j0 k a0 false))
set_option maxHeartbeats 8000000 in
set_option maxRecDepth 100000 in
theorem utf_bounds.calls (k : Nat) (a0 : Int) (r1 : Int) (r2 : Int) (r3 : Int) (w : World) (h : utf_bounds.f k a0 = some (r1, r2, r3)) :
  Calls Tryd.prog 94 #[.int .u8 a0] w fun e w' => e = .returned (.tuple #[.int .i64 r1, .int .u8 r2, .int .u8 r3]) ∧ Drawn0 w w' := by
 have H : (if a0 < 128 then (some (0, 0, 0)) else (if a0 ≥ 194 then (utf_bounds.j0 k a0 (decide (a0 ≤ 223))) else (utf_bounds.j0 k a0 false))) = some (r1, r2, r3) := h
 clear h
 by_cases c2 : a0 < 128
 ·rw [if_pos c2] at H
  have c2b0 : decide (a0 < 128) = true := decide_eq_true c2
  clear c2
  simp only [Option.some.injEq, Prod.mk.injEq] at H
  obtain ⟨rfl, rfl, rfl⟩ := H
  go_enter Tryd.func94, Tryd.ntmps94
  go_wp2
  go_ret3
  exact ⟨by first | rfl | (simp; done) | (simp [*]; done), by repeat (first | exact Drawn0.refl _ | apply Drawn0.step)⟩
 ·rw [if_neg c2] at H
  have c2b0 : decide (a0 < 128) = false := decide_eq_false c2
  clear c2
  have HC3 := Aside0.mk H
  clear H
  go_enter Tryd.func94, Tryd.ntmps94
  go_upto_region 3 with (fail)
  go_cut [8] (fun v8 wc => ∃ (kq : Nat) (x8_2 : Bool), v8 = .bool x8_2 ∧ Aside0 (utf_bounds.j0 kq a0 x8_2 = some (r1, r2, r3)) ∧ Aside0 (kq ≤ k) ∧ Drawn0 w wc)
  case first =>
   have H := HC3.out
   clear HC3
   by_cases c4 : a0 ≥ 194
   ·rw [if_pos c4] at H
    have c4b0 : decide (194 ≤ a0) = true := decide_eq_true c4
    clear c4
    (first | rw [c4b0] | (simp only [i64_w, i32_w]; rw [c4b0]) | skip)
    have H' := Aside0.mk H
    clear H
    go_wp2
    go_meet
    case rel => exact ⟨_, (decide (a0 ≤ 223)), (by first | rfl | (simp; done) | (simp [*]; done) | (unfold bt; split <;> first | rfl | (exfalso; simp_all; done) | (exfalso; simp_all; omega))), H', ⟨by first | omega | exact Nat.le_refl _⟩, by repeat (first | exact Drawn0.refl _ | apply Drawn0.step)⟩
   ·rw [if_neg c4] at H
    have c4b0 : decide (194 ≤ a0) = false := decide_eq_false c4
    clear c4
    (first | rw [c4b0] | (simp only [i64_w, i32_w]; rw [c4b0]) | skip)
    have H' := Aside0.mk H
    clear H
    go_wp2
    go_meet
    case rel => exact ⟨_, (false), (by first | rfl | (simp; done) | (simp [*]; done) | (unfold bt; split <;> first | rfl | (exfalso; simp_all; done) | (exfalso; simp_all; omega))), H', ⟨by first | omega | exact Nat.le_refl _⟩, by repeat (first | exact Drawn0.refl _ | apply Drawn0.step)⟩
  case rest =>
   clear HC3
   try clear c2
   try clear c2b0
   try clear p2
   try clear c4
   try clear c4b0
   obtain ⟨kq, x8_2, rfl, HA, HJ2, ⟨mc2, rfl⟩⟩ := hcut
   cases kq with
   | zero => exact absurd HA.out (by simp [utf_bounds.j0])
   | succ kj2 =>
    have H := HA.out
    clear HA
    simp only [utf_bounds.j0] at H
    by_cases c5 : x8_2 = true
    ·subst c5
     have H1 : (some (1, 128, 191)) = some (r1, r2, r3) := by rw [if_pos rfl] at H; exact H
     clear H
     have H := H1
     clear H1
     simp only [Option.some.injEq, Prod.mk.injEq] at H
     obtain ⟨rfl, rfl, rfl⟩ := H
     go_wp2
     go_ret3
     exact ⟨by first | rfl | (simp; done) | (simp [*]; done), by repeat (first | exact Drawn0.refl _ | apply Drawn0.step)⟩
    ·replace c5 := Bool.eq_false_iff.mpr c5
     subst c5
     have H1 : (if a0 = 224 then (some (2, 160, 191)) else (if a0 = 237 then (some (2, 128, 159)) else (if a0 ≥ 225 then (utf_bounds.j1 kj2 a0 (decide (a0 ≤ 239))) else (utf_bounds.j1 kj2 a0 false)))) = some (r1, r2, r3) := by rw [if_neg (show ¬ (false = true) by decide)] at H; exact H
     clear H
     have H := H1
     clear H1
     by_cases c6 : a0 = 224
     ·rw [if_pos c6] at H
      have c6b0 : (a0 == 224) = true := beq_iff_eq.mpr c6
      have c6b1 : (a0 != 224) = false := bne_eq_false_iff_eq.mpr c6
      clear c6
      simp only [Option.some.injEq, Prod.mk.injEq] at H
      obtain ⟨rfl, rfl, rfl⟩ := H
      go_wp2
      go_ret3
      exact ⟨by first | rfl | (simp; done) | (simp [*]; done), by repeat (first | exact Drawn0.refl _ | apply Drawn0.step)⟩
     ·rw [if_neg c6] at H
      have c6b0 : (a0 == 224) = false := beq_eq_false_iff_ne.mpr c6
      have c6b1 : (a0 != 224) = true := bne_iff_ne.mpr c6
      by_cases c7 : a0 = 237
      ·rw [if_pos c7] at H
       have c7b0 : (a0 == 237) = true := beq_iff_eq.mpr c7
       have c7b1 : (a0 != 237) = false := bne_eq_false_iff_eq.mpr c7
       clear c7
       simp only [Option.some.injEq, Prod.mk.injEq] at H
       obtain ⟨rfl, rfl, rfl⟩ := H
       go_wp2
       go_ret3
       exact ⟨by first | rfl | (simp; done) | (simp [*]; done), by repeat (first | exact Drawn0.refl _ | apply Drawn0.step)⟩
      ·rw [if_neg c7] at H
       have c7b0 : (a0 == 237) = false := beq_eq_false_iff_ne.mpr c7
       have c7b1 : (a0 != 237) = true := bne_iff_ne.mpr c7
       have HC8 := Aside0.mk H
       clear H
       go_upto_region 9 with (fail)
       go_cut [21] (fun v21 wc => ∃ (kq : Nat) (x21_7 : Bool), v21 = .bool x21_7 ∧ Aside0 (utf_bounds.j1 kq a0 x21_7 = some (r1, r2, r3)) ∧ Aside0 (kq ≤ kj2) ∧ Drawn0 w wc)
       case first =>
        have H := HC8.out
        clear HC8
        by_cases c9 : a0 ≥ 225
        ·rw [if_pos c9] at H
         have c9b0 : decide (225 ≤ a0) = true := decide_eq_true c9
         clear c9
         (first | rw [c9b0] | (simp only [i64_w, i32_w]; rw [c9b0]) | skip)
         have H' := Aside0.mk H
         clear H
         go_wp2
         go_meet
         case rel => exact ⟨_, (decide (a0 ≤ 239)), (by first | rfl | (simp; done) | (simp [*]; done) | (unfold bt; split <;> first | rfl | (exfalso; simp_all; done) | (exfalso; simp_all; omega))), H', ⟨by have := HJ2.out; first | omega | exact Nat.le_refl _⟩, by repeat (first | exact Drawn0.refl _ | apply Drawn0.step)⟩
        ·rw [if_neg c9] at H
         have c9b0 : decide (225 ≤ a0) = false := decide_eq_false c9
         clear c9
         (first | rw [c9b0] | (simp only [i64_w, i32_w]; rw [c9b0]) | skip)
         have H' := Aside0.mk H
         clear H
         go_wp2
         go_meet
         case rel => exact ⟨_, (false), (by first | rfl | (simp; done) | (simp [*]; done) | (unfold bt; split <;> first | rfl | (exfalso; simp_all; done) | (exfalso; simp_all; omega))), H', ⟨by have := HJ2.out; first | omega | exact Nat.le_refl _⟩, by repeat (first | exact Drawn0.refl _ | apply Drawn0.step)⟩
       case rest =>
        clear HC8
        try clear c2
        try clear c2b0
        try clear p2
        try clear c4
        try clear c4b0
        try clear c5
        try clear c6
        try clear c6b0
        try clear c6b1
        try clear c7
        try clear c7b0
        try clear c7b1
        try clear c9
        try clear c9b0
        try clear p2
        obtain ⟨kq, x21_7, rfl, HA, HJ7, ⟨mc7, rfl⟩⟩ := hcut
        cases kq with
        | zero => exact absurd HA.out (by simp [utf_bounds.j1])
        | succ kj7 =>
         have H := HA.out
         clear HA
         simp only [utf_bounds.j1] at H
         by_cases c10 : x21_7 = true
         ·subst c10
          have H1 : (some (2, 128, 191)) = some (r1, r2, r3) := by rw [if_pos rfl] at H; exact H
          clear H
          have H := H1
          clear H1
          simp only [Option.some.injEq, Prod.mk.injEq] at H
          obtain ⟨rfl, rfl, rfl⟩ := H
          go_wp2
          go_ret3
          exact ⟨by first | rfl | (simp; done) | (simp [*]; done), by repeat (first | exact Drawn0.refl _ | apply Drawn0.step)⟩
         ·replace c10 := Bool.eq_false_iff.mpr c10
          subst c10
          have H1 : (if a0 = 240 then (some (3, 144, 191)) else (if a0 ≥ 241 then (utf_bounds.j2 kj7 a0 (decide (a0 ≤ 243))) else (utf_bounds.j2 kj7 a0 false))) = some (r1, r2, r3) := by rw [if_neg (show ¬ (false = true) by decide)] at H; exact H
          clear H
          have H := H1
          clear H1
          by_cases c11 : a0 = 240
          ·rw [if_pos c11] at H
           have c11b0 : (a0 == 240) = true := beq_iff_eq.mpr c11
           have c11b1 : (a0 != 240) = false := bne_eq_false_iff_eq.mpr c11
           clear c11
           simp only [Option.some.injEq, Prod.mk.injEq] at H
           obtain ⟨rfl, rfl, rfl⟩ := H
           go_wp2
           go_ret3
           exact ⟨by first | rfl | (simp; done) | (simp [*]; done), by repeat (first | exact Drawn0.refl _ | apply Drawn0.step)⟩
          ·rw [if_neg c11] at H
           have c11b0 : (a0 == 240) = false := beq_eq_false_iff_ne.mpr c11
           have c11b1 : (a0 != 240) = true := bne_iff_ne.mpr c11
           have HC12 := Aside0.mk H
           clear H
           go_upto_region 13 with (fail)
           go_cut [31] (fun v31 wc => ∃ (kq : Nat) (x31_11 : Bool), v31 = .bool x31_11 ∧ Aside0 (utf_bounds.j2 kq a0 x31_11 = some (r1, r2, r3)) ∧ Aside0 (kq ≤ kj7) ∧ Drawn0 w wc)
           case first =>
            have H := HC12.out
            clear HC12
            by_cases c13 : a0 ≥ 241
            ·rw [if_pos c13] at H
             have c13b0 : decide (241 ≤ a0) = true := decide_eq_true c13
             clear c13
             (first | rw [c13b0] | (simp only [i64_w, i32_w]; rw [c13b0]) | skip)
             have H' := Aside0.mk H
             clear H
             go_wp2
             go_meet
             case rel => exact ⟨_, (decide (a0 ≤ 243)), (by first | rfl | (simp; done) | (simp [*]; done) | (unfold bt; split <;> first | rfl | (exfalso; simp_all; done) | (exfalso; simp_all; omega))), H', ⟨by have := HJ2.out; have := HJ7.out; first | omega | exact Nat.le_refl _⟩, by repeat (first | exact Drawn0.refl _ | apply Drawn0.step)⟩
            ·rw [if_neg c13] at H
             have c13b0 : decide (241 ≤ a0) = false := decide_eq_false c13
             clear c13
             (first | rw [c13b0] | (simp only [i64_w, i32_w]; rw [c13b0]) | skip)
             have H' := Aside0.mk H
             clear H
             go_wp2
             go_meet
             case rel => exact ⟨_, (false), (by first | rfl | (simp; done) | (simp [*]; done) | (unfold bt; split <;> first | rfl | (exfalso; simp_all; done) | (exfalso; simp_all; omega))), H', ⟨by have := HJ2.out; have := HJ7.out; first | omega | exact Nat.le_refl _⟩, by repeat (first | exact Drawn0.refl _ | apply Drawn0.step)⟩
           case rest =>
            clear HC12
            try clear c1
            try clear c2
            try clear c2b0
            try clear p2
            try clear c4
            try clear c4b0
            try clear c5
            try clear c6
            try clear c6b0
            try clear c6b1
            try clear c7
            try clear c7b0
            try clear c7b1
            try clear c9
            try clear c9b0
            try clear c10
            try clear c11
            try clear c11b0
            try clear c11b1
            try clear c13
            try clear c13b0
            try clear p2
            obtain ⟨kq, x31_11, rfl, HA, HJ11, ⟨mc11, rfl⟩⟩ := hcut
            cases kq with
            | zero => exact absurd HA.out (by simp [utf_bounds.j2])
            | succ kj11 =>
             have H := HA.out
             clear HA
             simp only [utf_bounds.j2] at H
             by_cases c14 : x31_11 = true
             ·subst c14
              have H1 : (some (3, 128, 191)) = some (r1, r2, r3) := by rw [if_pos rfl] at H; exact H
              clear H
              have H := H1
              clear H1
              simp only [Option.some.injEq, Prod.mk.injEq] at H
              obtain ⟨rfl, rfl, rfl⟩ := H
              go_wp2
              go_ret3
              exact ⟨by first | rfl | (simp; done) | (simp [*]; done), by repeat (first | exact Drawn0.refl _ | apply Drawn0.step)⟩
             ·replace c14 := Bool.eq_false_iff.mpr c14
              subst c14
              have H1 : (if a0 = 244 then (some (3, 128, 143)) else (some ((-1), 0, 0))) = some (r1, r2, r3) := by rw [if_neg (show ¬ (false = true) by decide)] at H; exact H
              clear H
              have H := H1
              clear H1
              by_cases c15 : a0 = 244
              ·rw [if_pos c15] at H
               have c15b0 : (a0 == 244) = true := beq_iff_eq.mpr c15
               have c15b1 : (a0 != 244) = false := bne_eq_false_iff_eq.mpr c15
               clear c15
               simp only [Option.some.injEq, Prod.mk.injEq] at H
               obtain ⟨rfl, rfl, rfl⟩ := H
               go_wp2
               go_ret3
               exact ⟨by first | rfl | (simp; done) | (simp [*]; done), by repeat (first | exact Drawn0.refl _ | apply Drawn0.step)⟩
              ·rw [if_neg c15] at H
               have c15b0 : (a0 == 244) = false := beq_eq_false_iff_ne.mpr c15
               have c15b1 : (a0 != 244) = true := bne_iff_ne.mpr c15
               simp only [Option.some.injEq, Prod.mk.injEq] at H
               obtain ⟨rfl, rfl, rfl⟩ := H
               go_wp2
               go_ret3
               exact ⟨by first | rfl | (simp; done) | (simp [*]; done), by repeat (first | exact Drawn0.refl _ | apply Drawn0.step)⟩

/-! ### utf_read: function 78 -/
def utf_read.l0 : Nat → List Int → Int → Int → Int → Int → Int → Option (Int × Int × Int)
 | 0, _, _, _, _, _, _ => none
 | k + 1, x0, x5, x6, x7, x8, x9 => if x9 ≤ x5 then (if x9 = (x0.length : Int) then (some (65533, x9, 2)) else (if 0 ≤ x9 then (if x9 < (x0.length : Int) then (if (rd x0 x9) < x6 then (some (65533, x9, 1)) else (if (rd x0 x9) > x7 then (some (65533, x9, 1)) else (utf_read.l0 k x0 x5 128 191 (Go.bits .or .i32 (wrap32 (x8 * 64)) (wrap32 (Go.bits .and .u8 (rd x0 x9) 63))) (wrap64 (x9 + 1))))) else (none)) else (none))) else (some (x8, wrap64 (x5 + 1), 0))
def utf_read.f (k : Nat) (l0 : List Int) : Option (Int × Int × Int) := if 0 < (l0.length : Int) then ((utf_bounds.f k (rd l0 0)).bind fun bt132 => (if bt132.1 < 0 then (some (65533, 1, 1)) else (if bt132.1 = 0 then (some (wrap32 (rd l0 0), 1, 0)) else (if 0 ≤ bt132.1 then (utf_read.l0 k l0 bt132.1 bt132.2.1 bt132.2.2 (Go.bits .and .i32 (wrap32 (rd l0 0)) (shr .i32 63 bt132.1)) 1) else (none))))) else (none)
set_option maxHeartbeats 8000000 in
set_option maxRecDepth 100000 in
theorem utf_read.calls (k : Nat) (A0 : Option Addr) (c0 : Nat) (l0 : List Int) (r1 : Int) (r2 : Int) (r3 : Int) (w : World) (hr0 : Kd.C (Kd.int .u8) w A0 l0.length l0) (hc0 : l0.length ≤ c0) (h : utf_read.f k l0 = some (r1, r2, r3)) :
  Calls Tryd.prog 78 #[.slice A0 l0.length c0] w fun e w' => e = .returned (.tuple #[.int .i32 r1, .int .i64 r2, .int .i64 r3]) ∧ Drawn0 w w' := by
 have HR0 := Aside0.mk hr0
 have HC0 := Aside0.mk hc0
 clear hr0 hc0
 have H : (if 0 < (l0.length : Int) then ((utf_bounds.f k (rd l0 0)).bind fun bt132 => (if bt132.1 < 0 then (some (65533, 1, 1)) else (if bt132.1 = 0 then (some (wrap32 (rd l0 0), 1, 0)) else (if 0 ≤ bt132.1 then (utf_read.l0 k l0 bt132.1 bt132.2.1 bt132.2.2 (Go.bits .and .i32 (wrap32 (rd l0 0)) (shr .i32 63 bt132.1)) 1) else (none))))) else (none)) = some (r1, r2, r3) := h
 clear h
 by_cases c2 : 0 < (l0.length : Int)
 ·rw [if_pos c2] at H
  have c2b0 : decide (0 < (l0.length : Int)) = true := decide_eq_true c2
  have c2b1 : decide (0 < l0.length) = true := decide_eq_true (by omega)
  clear c2
  replace H := Option.bind_eq_some_iff.mp H
  obtain ⟨⟨t132, t133, t134⟩, A30, H⟩ := H
  replace H : (if t132 < 0 then (some (65533, 1, 1)) else (if t132 = 0 then (some (wrap32 (rd l0 0), 1, 0)) else (if 0 ≤ t132 then (utf_read.l0 k l0 t132 t133 t134 (Go.bits .and .i32 (wrap32 (rd l0 0)) (shr .i32 63 t132)) 1) else (none)))) = some (r1, r2, r3) := H
  have A3 := Aside0.mk A30
  clear A30
  by_cases c4 : t132 < 0
  ·rw [if_pos c4] at H
   have c4b0 : decide (t132 < 0) = true := decide_eq_true c4
   clear c4
   simp only [Option.some.injEq, Prod.mk.injEq] at H
   obtain ⟨rfl, rfl, rfl⟩ := H
   have p131 : 0 ≤ (0 : Int) := (by omega)
   have q131 : 0 < (l0.length : Int) := of_decide_eq_true (by first | (with_reducible assumption) | assumption)
   obtain ⟨ad131, e131, hx131_0⟩ := Kd.at_int HR0.out 0 p131 q131
   cases e131
   have qi131 : (0 < l0.length) = True := eq_true (by omega)
   (try rw [show ((0 : Int)).toNat = 0 from rfl] at hx131_0)
   (try rw [Addr.add_zero'] at hx131_0)
   replace p131 := eq_true p131
   replace q131 := eq_true q131
   go_enter Tryd.func78, Tryd.ntmps78
   go_wp2_with (first | (go_at_call 94; (with_reducible refine (utf_bounds.calls k (rd l0 0) t132 t133 t134 _ A3.out).mono ?_); rintro e w' ⟨rfl, ⟨nd, rfl⟩⟩; (try first | exact ⟨rfl, _, World.drewN_drewN _ _ _⟩ | exact ⟨rfl, _, Eq.trans (World.drewN_drewN _ _ _) (congrArg (World.drewN _) (Nat.add_assoc _ _ _))⟩)))
   repeat (go_quiet (first | (go_at_call 94; (with_reducible refine (utf_bounds.calls k (rd l0 0) t132 t133 t134 _ A3.out).mono ?_); rintro e w' ⟨rfl, ⟨nd, rfl⟩⟩; (try first | exact ⟨rfl, _, World.drewN_drewN _ _ _⟩ | exact ⟨rfl, _, Eq.trans (World.drewN_drewN _ _ _) (congrArg (World.drewN _) (Nat.add_assoc _ _ _))⟩))); try go_wp2_with (first | (go_at_call 94; (with_reducible refine (utf_bounds.calls k (rd l0 0) t132 t133 t134 _ A3.out).mono ?_); rintro e w' ⟨rfl, ⟨nd, rfl⟩⟩; (try first | exact ⟨rfl, _, World.drewN_drewN _ _ _⟩ | exact ⟨rfl, _, Eq.trans (World.drewN_drewN _ _ _) (congrArg (World.drewN _) (Nat.add_assoc _ _ _))⟩))))
   go_ret3
   exact ⟨by first | rfl | (simp; done) | (simp [*]; done), by repeat (first | exact Drawn0.refl _ | apply Drawn0.step)⟩
  ·rw [if_neg c4] at H
   have c4b0 : decide (t132 < 0) = false := decide_eq_false c4
   clear c4
   by_cases c5 : t132 = 0
   ·rw [if_pos c5] at H
    have c5b0 : (t132 == 0) = true := beq_iff_eq.mpr c5
    have c5b1 : (t132 != 0) = false := bne_eq_false_iff_eq.mpr c5
    clear c5
    simp only [Option.some.injEq, Prod.mk.injEq] at H
    obtain ⟨rfl, rfl, rfl⟩ := H
    have p131 : 0 ≤ (0 : Int) := (by omega)
    have q131 : 0 < (l0.length : Int) := of_decide_eq_true (by first | (with_reducible assumption) | assumption)
    obtain ⟨ad131, e131, hx131_0⟩ := Kd.at_int HR0.out 0 p131 q131
    cases e131
    have qi131 : (0 < l0.length) = True := eq_true (by omega)
    (try rw [show ((0 : Int)).toNat = 0 from rfl] at hx131_0)
    (try rw [Addr.add_zero'] at hx131_0)
    replace p131 := eq_true p131
    replace q131 := eq_true q131
    go_enter Tryd.func78, Tryd.ntmps78
    go_wp2_with (first | (go_at_call 94; (with_reducible refine (utf_bounds.calls k (rd l0 0) t132 t133 t134 _ A3.out).mono ?_); rintro e w' ⟨rfl, ⟨nd, rfl⟩⟩; (try first | exact ⟨rfl, _, World.drewN_drewN _ _ _⟩ | exact ⟨rfl, _, Eq.trans (World.drewN_drewN _ _ _) (congrArg (World.drewN _) (Nat.add_assoc _ _ _))⟩); have p135 : 0 ≤ (0 : Int) := (by omega); have q135 : 0 < (l0.length : Int) := of_decide_eq_true (by first | (with_reducible assumption) | assumption); obtain ⟨ad135, e135, hx135_0⟩ := Kd.at_int HR0.out 0 p135 q135; obtain rfl : ad131 = ad135 := (by injection e135); have qi135 : (0 < l0.length) = True := eq_true (by omega); (try rw [show ((0 : Int)).toNat = 0 from rfl] at hx135_0); (try rw [Addr.add_zero'] at hx135_0); replace p135 := eq_true p135; replace q135 := eq_true q135))
    repeat (go_quiet (first | (go_at_call 94; (with_reducible refine (utf_bounds.calls k (rd l0 0) t132 t133 t134 _ A3.out).mono ?_); rintro e w' ⟨rfl, ⟨nd, rfl⟩⟩; (try first | exact ⟨rfl, _, World.drewN_drewN _ _ _⟩ | exact ⟨rfl, _, Eq.trans (World.drewN_drewN _ _ _) (congrArg (World.drewN _) (Nat.add_assoc _ _ _))⟩); have p135 : 0 ≤ (0 : Int) := (by omega); have q135 : 0 < (l0.length : Int) := of_decide_eq_true (by first | (with_reducible assumption) | assumption); obtain ⟨ad135, e135, hx135_0⟩ := Kd.at_int HR0.out 0 p135 q135; obtain rfl : ad131 = ad135 := (by injection e135); have qi135 : (0 < l0.length) = True := eq_true (by omega); (try rw [show ((0 : Int)).toNat = 0 from rfl] at hx135_0); (try rw [Addr.add_zero'] at hx135_0); replace p135 := eq_true p135; replace q135 := eq_true q135)); try go_wp2_with (first | (go_at_call 94; (with_reducible refine (utf_bounds.calls k (rd l0 0) t132 t133 t134 _ A3.out).mono ?_); rintro e w' ⟨rfl, ⟨nd, rfl⟩⟩; (try first | exact ⟨rfl, _, World.drewN_drewN _ _ _⟩ | exact ⟨rfl, _, Eq.trans (World.drewN_drewN _ _ _) (congrArg (World.drewN _) (Nat.add_assoc _ _ _))⟩); have p135 : 0 ≤ (0 : Int) := (by omega); have q135 : 0 < (l0.length : Int) := of_decide_eq_true (by first | (with_reducible assumption) | assumption); obtain ⟨ad135, e135, hx135_0⟩ := Kd.at_int HR0.out 0 p135 q135; obtain rfl : ad131 = ad135 := (by injection e135); have qi135 : (0 < l0.length) = True := eq_true (by omega); (try rw [show ((0 : Int)).toNat = 0 from rfl] at hx135_0); (try rw [Addr.add_zero'] at hx135_0); replace p135 := eq_true p135; replace q135 := eq_true q135)))
    go_ret3
    exact ⟨by first | rfl | (simp; done) | (simp [*]; done), by repeat (first | exact Drawn0.refl _ | apply Drawn0.step)⟩
   ·rw [if_neg c5] at H
    have c5b0 : (t132 == 0) = false := beq_eq_false_iff_ne.mpr c5
    have c5b1 : (t132 != 0) = true := bne_iff_ne.mpr c5
    by_cases c6 : 0 ≤ t132
    ·rw [if_pos c6] at H
     have c6b0 := eq_true c6
     have c6b1 : decide (0 ≤ t132) = true := decide_eq_true c6
     clear c6
     obtain ⟨ji7, hji7⟩ : ∃ j_ : Int, (shr .i32 63 t132) = j_ := ⟨_, rfl⟩
     replace H : (utf_read.l0 k l0 t132 t133 t134 (Go.bits .and .i32 (wrap32 (rd l0 0)) (ji7)) 1) = some (r1, r2, r3) := by first | (rw [hji7] at H; exact H) | (simp only [hji7] at H ⊢; exact H)
     (try rw [hji7] at A3)
     have hji7_ : (63 / 2 ^ min t132.toNat 32) = ji7 := hji7
     have hji7z : t132 ≤ 32 → (63 / 2 ^ t132.toNat) = ji7 := shr_small hji7
     have H' := Aside0.mk H
     clear H
     have p131 : 0 ≤ (0 : Int) := (by omega)
     have q131 : 0 < (l0.length : Int) := of_decide_eq_true (by first | (with_reducible assumption) | assumption)
     obtain ⟨ad131, e131, hx131_0⟩ := Kd.at_int HR0.out 0 p131 q131
     cases e131
     have qi131 : (0 < l0.length) = True := eq_true (by omega)
     (try rw [show ((0 : Int)).toNat = 0 from rfl] at hx131_0)
     (try rw [Addr.add_zero'] at hx131_0)
     replace p131 := eq_true p131
     replace q131 := eq_true q131
     go_enter Tryd.func78, Tryd.ntmps78
     go_wp2_with (first | (go_at_call 94; (with_reducible refine (utf_bounds.calls k (rd l0 0) t132 t133 t134 _ A3.out).mono ?_); rintro e w' ⟨rfl, ⟨nd, rfl⟩⟩; (try first | exact ⟨rfl, _, World.drewN_drewN _ _ _⟩ | exact ⟨rfl, _, Eq.trans (World.drewN_drewN _ _ _) (congrArg (World.drewN _) (Nat.add_assoc _ _ _))⟩); have p136 : 0 ≤ (0 : Int) := (by omega); have q136 : 0 < (l0.length : Int) := of_decide_eq_true (by first | (with_reducible assumption) | assumption); obtain ⟨ad136, e136, hx136_0⟩ := Kd.at_int HR0.out 0 p136 q136; obtain rfl : ad131 = ad136 := (by injection e136); have qi136 : (0 < l0.length) = True := eq_true (by omega); (try rw [show ((0 : Int)).toNat = 0 from rfl] at hx136_0); (try rw [Addr.add_zero'] at hx136_0); replace p136 := eq_true p136; replace q136 := eq_true q136))
     repeat (go_quiet (first | (go_at_call 94; (with_reducible refine (utf_bounds.calls k (rd l0 0) t132 t133 t134 _ A3.out).mono ?_); rintro e w' ⟨rfl, ⟨nd, rfl⟩⟩; (try first | exact ⟨rfl, _, World.drewN_drewN _ _ _⟩ | exact ⟨rfl, _, Eq.trans (World.drewN_drewN _ _ _) (congrArg (World.drewN _) (Nat.add_assoc _ _ _))⟩); have p136 : 0 ≤ (0 : Int) := (by omega); have q136 : 0 < (l0.length : Int) := of_decide_eq_true (by first | (with_reducible assumption) | assumption); obtain ⟨ad136, e136, hx136_0⟩ := Kd.at_int HR0.out 0 p136 q136; obtain rfl : ad131 = ad136 := (by injection e136); have qi136 : (0 < l0.length) = True := eq_true (by omega); (try rw [show ((0 : Int)).toNat = 0 from rfl] at hx136_0); (try rw [Addr.add_zero'] at hx136_0); replace p136 := eq_true p136; replace q136 := eq_true q136)); try go_wp2_with (first | (go_at_call 94; (with_reducible refine (utf_bounds.calls k (rd l0 0) t132 t133 t134 _ A3.out).mono ?_); rintro e w' ⟨rfl, ⟨nd, rfl⟩⟩; (try first | exact ⟨rfl, _, World.drewN_drewN _ _ _⟩ | exact ⟨rfl, _, Eq.trans (World.drewN_drewN _ _ _) (congrArg (World.drewN _) (Nat.add_assoc _ _ _))⟩); have p136 : 0 ≤ (0 : Int) := (by omega); have q136 : 0 < (l0.length : Int) := of_decide_eq_true (by first | (with_reducible assumption) | assumption); obtain ⟨ad136, e136, hx136_0⟩ := Kd.at_int HR0.out 0 p136 q136; obtain rfl : ad131 = ad136 := (by injection e136); have qi136 : (0 < l0.length) = True := eq_true (by omega); (try rw [show ((0 : Int)).toNat = 0 from rfl] at hx136_0); (try rw [Addr.add_zero'] at hx136_0); replace p136 := eq_true p136; replace q136 := eq_true q136)))
     go_loopg [6, 7, 8, 9] k (fun kq v6 v7 v8 v9 w' => ∃ (x6_1 : Int) (x7_1 : Int) (x8_1 : Int) (x9_1 : Int), v6 = .int .u8 x6_1 ∧ v7 = .int .u8 x7_1 ∧ v8 = .int .i32 x8_1 ∧ v9 = .int .i64 x9_1 ∧ Aside0 (utf_read.l0 kq l0 t132 x6_1 x7_1 x8_1 x9_1 = some (r1, r2, r3)) ∧ Aside0 (kq ≤ k) ∧ Drawn0 w w')
     case atStart => exact ⟨(t133), (t134), (Go.bits .and .i32 (wrap32 (rd l0 0)) (ji7)), (1), (by first | rfl | (simp; done) | (simp [*]; done) | (unfold bt; split <;> first | rfl | (exfalso; simp_all; done) | (exfalso; simp_all; omega))), (by first | rfl | (simp; done) | (simp [*]; done) | (unfold bt; split <;> first | rfl | (exfalso; simp_all; done) | (exfalso; simp_all; omega))), (by first | rfl | (simp; done) | (simp only [← hji7] <;> (first | rfl | simp)) | (simp [*]; done)), (by first | rfl | (simp; done) | (simp [*]; done) | (unfold bt; split <;> first | rfl | (exfalso; simp_all; done) | (exfalso; simp_all; omega))), H', ⟨Nat.le_refl _⟩, by repeat (first | exact Drawn0.refl _ | apply Drawn0.step)⟩
     case round =>
      clear H'
      try clear p1
      try clear q1
      try clear hx1
      try clear qi1
      try clear c2
      try clear c2b0
      try clear c2b1
      try clear p2
      try clear p3
      try clear c4
      try clear c4b0
      try clear c5
      try clear c5b0
      try clear c5b1
      try clear c6
      try clear c6b0
      try clear c6b1
      try clear c7
      try clear hx131_0
      try clear hx135_0
      try clear hx136_0
      try clear p131
      try clear p135
      try clear p136
      try clear q131
      try clear q135
      try clear q136
      obtain ⟨x6_1, x7_1, x8_1, x9_1, rfl, rfl, rfl, rfl, HA, HK1, ⟨m1, rfl⟩⟩ := hrel
      cases gk with
      | zero => exact absurd HA.out (by simp [utf_read.l0])
      | succ k1 =>
       have H := HA.out
       clear HA
       simp only [utf_read.l0] at H
       by_cases c8 : x9_1 ≤ t132
       ·rw [if_pos c8] at H
        have c8b0 : decide (x9_1 ≤ t132) = true := decide_eq_true c8
        clear c8
        by_cases c9 : x9_1 = (l0.length : Int)
        ·rw [if_pos c9] at H
         have c9b0 : (x9_1 == (l0.length : Int)) = true := beq_iff_eq.mpr c9
         have c9b1 : (x9_1 != (l0.length : Int)) = false := bne_eq_false_iff_eq.mpr c9
         clear c9
         simp only [Option.some.injEq, Prod.mk.injEq] at H
         obtain ⟨rfl, rfl, rfl⟩ := H
         go_wp2
         repeat (go_quiet (fail); try go_wp2)
         go_ret3
         exact ⟨by first | rfl | (simp; done) | (simp only [← hji7] <;> (first | rfl | simp)) | (simp [*]; done), by repeat (first | exact Drawn0.refl _ | apply Drawn0.step)⟩
        ·rw [if_neg c9] at H
         have c9b0 : (x9_1 == (l0.length : Int)) = false := beq_eq_false_iff_ne.mpr c9
         have c9b1 : (x9_1 != (l0.length : Int)) = true := bne_iff_ne.mpr c9
         by_cases c10 : 0 ≤ x9_1
         ·rw [if_pos c10] at H
          have c10b0 : decide (0 ≤ x9_1) = true := decide_eq_true c10
          clear c10
          by_cases c11 : x9_1 < (l0.length : Int)
          ·rw [if_pos c11] at H
           have c11b0 : decide (x9_1 < (l0.length : Int)) = true := decide_eq_true c11
           clear c11
           by_cases c12 : (rd l0 x9_1) < x6_1
           ·rw [if_pos c12] at H
            have c12b0 : decide ((rd l0 x9_1) < x6_1) = true := decide_eq_true c12
            clear c12
            simp only [Option.some.injEq, Prod.mk.injEq] at H
            obtain ⟨rfl, rfl, rfl⟩ := H
            have p137 : 0 ≤ (x9_1 : Int) := of_decide_eq_true (by first | (with_reducible assumption) | assumption)
            have q137 : x9_1 < (l0.length : Int) := of_decide_eq_true (by first | (with_reducible assumption) | assumption)
            obtain ⟨ad137, e137, hx137_0⟩ := Kd.at_int HR0.out x9_1 p137 q137
            obtain rfl : ad131 = ad137 := (by injection e137)
            replace p137 := eq_true p137
            replace q137 := eq_true q137
            go_wp2
            repeat (go_quiet (fail); try go_wp2)
            go_ret3
            exact ⟨by first | rfl | (simp; done) | (simp only [← hji7] <;> (first | rfl | simp)) | (simp [*]; done), by repeat (first | exact Drawn0.refl _ | apply Drawn0.step)⟩
           ·rw [if_neg c12] at H
            have c12b0 : decide ((rd l0 x9_1) < x6_1) = false := decide_eq_false c12
            clear c12
            by_cases c13 : (rd l0 x9_1) > x7_1
            ·rw [if_pos c13] at H
             have c13b0 : decide (x7_1 < (rd l0 x9_1)) = true := decide_eq_true c13
             clear c13
             simp only [Option.some.injEq, Prod.mk.injEq] at H
             obtain ⟨rfl, rfl, rfl⟩ := H
             have p137 : 0 ≤ (x9_1 : Int) := of_decide_eq_true (by first | (with_reducible assumption) | assumption)
             have q137 : x9_1 < (l0.length : Int) := of_decide_eq_true (by first | (with_reducible assumption) | assumption)
             obtain ⟨ad137, e137, hx137_0⟩ := Kd.at_int HR0.out x9_1 p137 q137
             obtain rfl : ad131 = ad137 := (by injection e137)
             replace p137 := eq_true p137
             replace q137 := eq_true q137
             have p138 : 0 ≤ (x9_1 : Int) := of_decide_eq_true (by first | (with_reducible assumption) | assumption)
             have q138 : x9_1 < (l0.length : Int) := of_decide_eq_true (by first | (with_reducible assumption) | assumption)
             obtain ⟨ad138, e138, hx138_0⟩ := Kd.at_int HR0.out x9_1 p138 q138
             obtain rfl : ad131 = ad138 := (by injection e138)
             replace p138 := eq_true p138
             replace q138 := eq_true q138
             go_wp2
             repeat (go_quiet (fail); try go_wp2)
             go_ret3
             exact ⟨by first | rfl | (simp; done) | (simp only [← hji7] <;> (first | rfl | simp)) | (simp [*]; done), by repeat (first | exact Drawn0.refl _ | apply Drawn0.step)⟩
            ·rw [if_neg c13] at H
             have c13b0 : decide (x7_1 < (rd l0 x9_1)) = false := decide_eq_false c13
             clear c13
             have H' := Aside0.mk H
             clear H
             have p137 : 0 ≤ (x9_1 : Int) := of_decide_eq_true (by first | (with_reducible assumption) | assumption)
             have q137 : x9_1 < (l0.length : Int) := of_decide_eq_true (by first | (with_reducible assumption) | assumption)
             obtain ⟨ad137, e137, hx137_0⟩ := Kd.at_int HR0.out x9_1 p137 q137
             obtain rfl : ad131 = ad137 := (by injection e137)
             replace p137 := eq_true p137
             replace q137 := eq_true q137
             have p138 : 0 ≤ (x9_1 : Int) := of_decide_eq_true (by first | (with_reducible assumption) | assumption)
             have q138 : x9_1 < (l0.length : Int) := of_decide_eq_true (by first | (with_reducible assumption) | assumption)
             obtain ⟨ad138, e138, hx138_0⟩ := Kd.at_int HR0.out x9_1 p138 q138
             obtain rfl : ad131 = ad138 := (by injection e138)
             replace p138 := eq_true p138
             replace q138 := eq_true q138
             have p139 : 0 ≤ (x9_1 : Int) := of_decide_eq_true (by first | (with_reducible assumption) | assumption)
             have q139 : x9_1 < (l0.length : Int) := of_decide_eq_true (by first | (with_reducible assumption) | assumption)
             obtain ⟨ad139, e139, hx139_0⟩ := Kd.at_int HR0.out x9_1 p139 q139
             obtain rfl : ad131 = ad139 := (by injection e139)
             replace p139 := eq_true p139
             replace q139 := eq_true q139
             go_wp2
             repeat (go_quiet (fail); try go_wp2)
             go_roundg k1
             case measure => have := HK1.out; omega
             case rel => exact ⟨(128), (191), (Go.bits .or .i32 (wrap32 (x8_1 * 64)) (wrap32 (Go.bits .and .u8 (rd l0 x9_1) 63))), (wrap64 (x9_1 + 1)), (by first | rfl | (simp; done) | (simp [*]; done) | (unfold bt; split <;> first | rfl | (exfalso; simp_all; done) | (exfalso; simp_all; omega))), (by first | rfl | (simp; done) | (simp [*]; done) | (unfold bt; split <;> first | rfl | (exfalso; simp_all; done) | (exfalso; simp_all; omega))), (by first | rfl | (simp; done) | (simp [*]; done) | (unfold bt; split <;> first | rfl | (exfalso; simp_all; done) | (exfalso; simp_all; omega))), (by first | rfl | (simp; done) | (simp [*]; done) | (unfold bt; split <;> first | rfl | (exfalso; simp_all; done) | (exfalso; simp_all; omega))), H', ⟨by have := HK1.out; omega⟩, by repeat (first | exact Drawn0.refl _ | apply Drawn0.step)⟩
          ·rw [if_neg c11] at H
           exact absurd H (by simp)
         ·rw [if_neg c10] at H
          exact absurd H (by simp)
       ·rw [if_neg c8] at H
        have c8b0 : decide (x9_1 ≤ t132) = false := decide_eq_false c8
        clear c8
        simp only [Option.some.injEq, Prod.mk.injEq] at H
        obtain ⟨rfl, rfl, rfl⟩ := H
        go_wp2
        repeat (go_quiet (fail); try go_wp2)
        go_ret3
        exact ⟨by first | rfl | (simp; done) | (simp only [← hji7] <;> (first | rfl | simp)) | (simp [*]; done), by repeat (first | exact Drawn0.refl _ | apply Drawn0.step)⟩
    ·rw [if_neg c6] at H
     exact absurd H (by simp)
 ·rw [if_neg c2] at H
  exact absurd H (by simp)

end Go.Proofs.YthmbbkbmlnaghaaDoor.P
end
section
/-
 The table of named references as plain data, and the contract of 'api.Entities': it hands back a new slice that holds just this table.
-/
namespace Go.Proofs.YthmbbkbmlnaghaaDoor.P
open Go.RowKit Go.Proofs.YthmbbkbmlnaghaaDoorW.PrintWords Go.Proofs.YthmbbkbmlnaghaaDoorW.PrintLast Go.Proofs.YthmbbkbmlnaghaaDoorW.PrintMore
set_option linter.unusedVariables false

def ents : List S75 := [
 ⟨⟨#[65, 69, 108, 105, 103]⟩, 198, 0, true⟩,
 ⟨⟨#[65, 77, 80]⟩, 38, 0, true⟩,
 ⟨⟨#[65, 97, 99, 117, 116, 101]⟩, 193, 0, true⟩,
 ⟨⟨#[65, 99, 105, 114, 99]⟩, 194, 0, true⟩,
 ⟨⟨#[65, 102, 114]⟩, 120068, 0, false⟩,
 ⟨⟨#[65, 103, 114, 97, 118, 101]⟩, 192, 0, true⟩,
 ⟨⟨#[65, 108, 112, 104, 97]⟩, 913, 0, false⟩,
 ⟨⟨#[65, 114, 105, 110, 103]⟩, 197, 0, true⟩,
 ⟨⟨#[65, 116, 105, 108, 100, 101]⟩, 195, 0, true⟩,
 ⟨⟨#[65, 117, 109, 108]⟩, 196, 0, true⟩,
 ⟨⟨#[66, 101, 116, 97]⟩, 914, 0, false⟩,
 ⟨⟨#[67, 79, 80, 89]⟩, 169, 0, true⟩,
 ⟨⟨#[67, 99, 101, 100, 105, 108]⟩, 199, 0, true⟩,
 ⟨⟨#[67, 104, 105]⟩, 935, 0, false⟩,
 ⟨⟨#[67, 111, 112, 102]⟩, 8450, 0, false⟩,
 ⟨⟨#[68, 97, 103, 103, 101, 114]⟩, 8225, 0, false⟩,
 ⟨⟨#[68, 101, 108, 116, 97]⟩, 916, 0, false⟩,
 ⟨⟨#[69, 84, 72]⟩, 208, 0, true⟩,
 ⟨⟨#[69, 97, 99, 117, 116, 101]⟩, 201, 0, true⟩,
 ⟨⟨#[69, 99, 105, 114, 99]⟩, 202, 0, true⟩,
 ⟨⟨#[69, 103, 114, 97, 118, 101]⟩, 200, 0, true⟩,
 ⟨⟨#[69, 112, 115, 105, 108, 111, 110]⟩, 917, 0, false⟩,
 ⟨⟨#[69, 116, 97]⟩, 919, 0, false⟩,
 ⟨⟨#[69, 117, 109, 108]⟩, 203, 0, true⟩,
 ⟨⟨#[71, 84]⟩, 62, 0, true⟩,
 ⟨⟨#[71, 97, 109, 109, 97]⟩, 915, 0, false⟩,
 ⟨⟨#[72, 97, 116]⟩, 94, 0, false⟩,
 ⟨⟨#[73, 97, 99, 117, 116, 101]⟩, 205, 0, true⟩,
 ⟨⟨#[73, 99, 105, 114, 99]⟩, 206, 0, true⟩,
 ⟨⟨#[73, 103, 114, 97, 118, 101]⟩, 204, 0, true⟩,
 ⟨⟨#[73, 111, 116, 97]⟩, 921, 0, false⟩,
 ⟨⟨#[73, 117, 109, 108]⟩, 207, 0, true⟩,
 ⟨⟨#[75, 97, 112, 112, 97]⟩, 922, 0, false⟩,
 ⟨⟨#[76, 84]⟩, 60, 0, true⟩,
 ⟨⟨#[76, 97, 109, 98, 100, 97]⟩, 923, 0, false⟩,
 ⟨⟨#[77, 117]⟩, 924, 0, false⟩,
 ⟨⟨#[78, 101, 119, 76, 105, 110, 101]⟩, 10, 0, false⟩,
 ⟨⟨#[78, 111, 116, 69, 113, 117, 97, 108, 84, 105, 108, 100, 101]⟩, 8770, 824, false⟩,
 ⟨⟨#[78, 116, 105, 108, 100, 101]⟩, 209, 0, true⟩,
 ⟨⟨#[78, 117]⟩, 925, 0, false⟩,
 ⟨⟨#[79, 69, 108, 105, 103]⟩, 338, 0, false⟩,
 ⟨⟨#[79, 97, 99, 117, 116, 101]⟩, 211, 0, true⟩,
 ⟨⟨#[79, 99, 105, 114, 99]⟩, 212, 0, true⟩,
 ⟨⟨#[79, 103, 114, 97, 118, 101]⟩, 210, 0, true⟩,
 ⟨⟨#[79, 109, 101, 103, 97]⟩, 937, 0, false⟩,
 ⟨⟨#[79, 109, 105, 99, 114, 111, 110]⟩, 927, 0, false⟩,
 ⟨⟨#[79, 115, 108, 97, 115, 104]⟩, 216, 0, true⟩,
 ⟨⟨#[79, 116, 105, 108, 100, 101]⟩, 213, 0, true⟩,
 ⟨⟨#[79, 117, 109, 108]⟩, 214, 0, true⟩,
 ⟨⟨#[80, 104, 105]⟩, 934, 0, false⟩,
 ⟨⟨#[80, 105]⟩, 928, 0, false⟩,
 ⟨⟨#[80, 114, 105, 109, 101]⟩, 8243, 0, false⟩,
 ⟨⟨#[80, 115, 105]⟩, 936, 0, false⟩,
 ⟨⟨#[81, 85, 79, 84]⟩, 34, 0, true⟩,
 ⟨⟨#[82, 69, 71]⟩, 174, 0, true⟩,
 ⟨⟨#[82, 104, 111]⟩, 929, 0, false⟩,
 ⟨⟨#[83, 99, 97, 114, 111, 110]⟩, 352, 0, false⟩,
 ⟨⟨#[83, 105, 103, 109, 97]⟩, 931, 0, false⟩,
 ⟨⟨#[84, 72, 79, 82, 78]⟩, 222, 0, true⟩,
 ⟨⟨#[84, 97, 98]⟩, 9, 0, false⟩,
 ⟨⟨#[84, 97, 117]⟩, 932, 0, false⟩,
 ⟨⟨#[84, 104, 101, 116, 97]⟩, 920, 0, false⟩,
 ⟨⟨#[84, 104, 105, 99, 107, 83, 112, 97, 99, 101]⟩, 8287, 8202, false⟩,
 ⟨⟨#[85, 97, 99, 117, 116, 101]⟩, 218, 0, true⟩,
 ⟨⟨#[85, 99, 105, 114, 99]⟩, 219, 0, true⟩,
 ⟨⟨#[85, 103, 114, 97, 118, 101]⟩, 217, 0, true⟩,
 ⟨⟨#[85, 112, 115, 105, 108, 111, 110]⟩, 933, 0, false⟩,
 ⟨⟨#[85, 117, 109, 108]⟩, 220, 0, true⟩,
 ⟨⟨#[88, 105]⟩, 926, 0, false⟩,
 ⟨⟨#[89, 97, 99, 117, 116, 101]⟩, 221, 0, true⟩,
 ⟨⟨#[89, 117, 109, 108]⟩, 376, 0, false⟩,
 ⟨⟨#[90, 101, 116, 97]⟩, 918, 0, false⟩,
 ⟨⟨#[97, 97, 99, 117, 116, 101]⟩, 225, 0, true⟩,
 ⟨⟨#[97, 99, 105, 114, 99]⟩, 226, 0, true⟩,
 ⟨⟨#[97, 99, 117, 116, 101]⟩, 180, 0, true⟩,
 ⟨⟨#[97, 101, 108, 105, 103]⟩, 230, 0, true⟩,
 ⟨⟨#[97, 103, 114, 97, 118, 101]⟩, 224, 0, true⟩,
 ⟨⟨#[97, 108, 101, 102, 115, 121, 109]⟩, 8501, 0, false⟩,
 ⟨⟨#[97, 108, 112, 104, 97]⟩, 945, 0, false⟩,
 ⟨⟨#[97, 109, 112]⟩, 38, 0, true⟩,
 ⟨⟨#[97, 110, 100]⟩, 8743, 0, false⟩,
 ⟨⟨#[97, 110, 103]⟩, 8736, 0, false⟩,
 ⟨⟨#[97, 112, 111, 115]⟩, 39, 0, false⟩,
 ⟨⟨#[97, 114, 105, 110, 103]⟩, 229, 0, true⟩,
 ⟨⟨#[97, 115, 116]⟩, 42, 0, false⟩,
 ⟨⟨#[97, 115, 121, 109, 112]⟩, 8776, 0, false⟩,
 ⟨⟨#[97, 116, 105, 108, 100, 101]⟩, 227, 0, true⟩,
 ⟨⟨#[97, 117, 109, 108]⟩, 228, 0, true⟩,
 ⟨⟨#[98, 100, 113, 117, 111]⟩, 8222, 0, false⟩,
 ⟨⟨#[98, 101, 116, 97]⟩, 946, 0, false⟩,
 ⟨⟨#[98, 110, 101]⟩, 61, 8421, false⟩,
 ⟨⟨#[98, 114, 118, 98, 97, 114]⟩, 166, 0, true⟩,
 ⟨⟨#[98, 115, 111, 108]⟩, 92, 0, false⟩,
 ⟨⟨#[98, 117, 108, 108]⟩, 8226, 0, false⟩,
 ⟨⟨#[99, 97, 112]⟩, 8745, 0, false⟩,
 ⟨⟨#[99, 99, 101, 100, 105, 108]⟩, 231, 0, true⟩,
 ⟨⟨#[99, 101, 100, 105, 108]⟩, 184, 0, true⟩,
 ⟨⟨#[99, 101, 110, 116]⟩, 162, 0, true⟩,
 ⟨⟨#[99, 104, 105]⟩, 967, 0, false⟩,
 ⟨⟨#[99, 105, 114, 99]⟩, 710, 0, false⟩,
 ⟨⟨#[99, 108, 117, 98, 115]⟩, 9827, 0, false⟩,
 ⟨⟨#[99, 111, 108, 111, 110]⟩, 58, 0, false⟩,
 ⟨⟨#[99, 111, 109, 109, 97]⟩, 44, 0, false⟩,
 ⟨⟨#[99, 111, 109, 109, 97, 116]⟩, 64, 0, false⟩,
 ⟨⟨#[99, 111, 110, 103]⟩, 8773, 0, false⟩,
 ⟨⟨#[99, 111, 112, 121]⟩, 169, 0, true⟩,
 ⟨⟨#[99, 114, 97, 114, 114]⟩, 8629, 0, false⟩,
 ⟨⟨#[99, 117, 112]⟩, 8746, 0, false⟩,
 ⟨⟨#[99, 117, 114, 114, 101, 110]⟩, 164, 0, true⟩,
 ⟨⟨#[100, 65, 114, 114]⟩, 8659, 0, false⟩,
 ⟨⟨#[100, 97, 103, 103, 101, 114]⟩, 8224, 0, false⟩,
 ⟨⟨#[100, 97, 114, 114]⟩, 8595, 0, false⟩,
 ⟨⟨#[100, 101, 103]⟩, 176, 0, true⟩,
 ⟨⟨#[100, 101, 108, 116, 97]⟩, 948, 0, false⟩,
 ⟨⟨#[100, 105, 97, 109, 115]⟩, 9830, 0, false⟩,
 ⟨⟨#[100, 105, 118, 105, 100, 101]⟩, 247, 0, true⟩,
 ⟨⟨#[100, 111, 108, 108, 97, 114]⟩, 36, 0, false⟩,
 ⟨⟨#[101, 97, 99, 117, 116, 101]⟩, 233, 0, true⟩,
 ⟨⟨#[101, 99, 105, 114, 99]⟩, 234, 0, true⟩,
 ⟨⟨#[101, 103, 114, 97, 118, 101]⟩, 232, 0, true⟩,
 ⟨⟨#[101, 109, 112, 116, 121]⟩, 8709, 0, false⟩,
 ⟨⟨#[101, 109, 115, 112]⟩, 8195, 0, false⟩,
 ⟨⟨#[101, 110, 115, 112]⟩, 8194, 0, false⟩,
 ⟨⟨#[101, 112, 115, 105, 108, 111, 110]⟩, 949, 0, false⟩,
 ⟨⟨#[101, 113, 117, 97, 108, 115]⟩, 61, 0, false⟩,
 ⟨⟨#[101, 113, 117, 105, 118]⟩, 8801, 0, false⟩,
 ⟨⟨#[101, 116, 97]⟩, 951, 0, false⟩,
 ⟨⟨#[101, 116, 104]⟩, 240, 0, true⟩,
 ⟨⟨#[101, 117, 109, 108]⟩, 235, 0, true⟩,
 ⟨⟨#[101, 117, 114, 111]⟩, 8364, 0, false⟩,
 ⟨⟨#[101, 120, 99, 108]⟩, 33, 0, false⟩,
 ⟨⟨#[101, 120, 105, 115, 116]⟩, 8707, 0, false⟩,
 ⟨⟨#[102, 106, 108, 105, 103]⟩, 102, 106, false⟩,
 ⟨⟨#[102, 110, 111, 102]⟩, 402, 0, false⟩,
 ⟨⟨#[102, 111, 114, 97, 108, 108]⟩, 8704, 0, false⟩,
 ⟨⟨#[102, 114, 97, 99, 49, 50]⟩, 189, 0, true⟩,
 ⟨⟨#[102, 114, 97, 99, 49, 52]⟩, 188, 0, true⟩,
 ⟨⟨#[102, 114, 97, 99, 51, 52]⟩, 190, 0, true⟩,
 ⟨⟨#[102, 114, 97, 115, 108]⟩, 8260, 0, false⟩,
 ⟨⟨#[103, 97, 109, 109, 97]⟩, 947, 0, false⟩,
 ⟨⟨#[103, 101]⟩, 8805, 0, false⟩,
 ⟨⟨#[103, 114, 97, 118, 101]⟩, 96, 0, false⟩,
 ⟨⟨#[103, 116]⟩, 62, 0, true⟩,
 ⟨⟨#[104, 65, 114, 114]⟩, 8660, 0, false⟩,
 ⟨⟨#[104, 97, 114, 114]⟩, 8596, 0, false⟩,
 ⟨⟨#[104, 101, 97, 114, 116, 115]⟩, 9829, 0, false⟩,
 ⟨⟨#[104, 101, 108, 108, 105, 112]⟩, 8230, 0, false⟩,
 ⟨⟨#[105, 97, 99, 117, 116, 101]⟩, 237, 0, true⟩,
 ⟨⟨#[105, 99, 105, 114, 99]⟩, 238, 0, true⟩,
 ⟨⟨#[105, 101, 120, 99, 108]⟩, 161, 0, true⟩,
 ⟨⟨#[105, 103, 114, 97, 118, 101]⟩, 236, 0, true⟩,
 ⟨⟨#[105, 109, 97, 103, 101]⟩, 8465, 0, false⟩,
 ⟨⟨#[105, 110, 102, 105, 110]⟩, 8734, 0, false⟩,
 ⟨⟨#[105, 110, 116]⟩, 8747, 0, false⟩,
 ⟨⟨#[105, 111, 116, 97]⟩, 953, 0, false⟩,
 ⟨⟨#[105, 113, 117, 101, 115, 116]⟩, 191, 0, true⟩,
 ⟨⟨#[105, 115, 105, 110]⟩, 8712, 0, false⟩,
 ⟨⟨#[105, 117, 109, 108]⟩, 239, 0, true⟩,
 ⟨⟨#[107, 97, 112, 112, 97]⟩, 954, 0, false⟩,
 ⟨⟨#[108, 65, 114, 114]⟩, 8656, 0, false⟩,
 ⟨⟨#[108, 97, 109, 98, 100, 97]⟩, 955, 0, false⟩,
 ⟨⟨#[108, 97, 110, 103]⟩, 10216, 0, false⟩,
 ⟨⟨#[108, 97, 113, 117, 111]⟩, 171, 0, true⟩,
 ⟨⟨#[108, 97, 114, 114]⟩, 8592, 0, false⟩,
 ⟨⟨#[108, 98, 114, 97, 99, 101]⟩, 123, 0, false⟩,
 ⟨⟨#[108, 98, 114, 97, 99, 107]⟩, 91, 0, false⟩,
 ⟨⟨#[108, 99, 101, 105, 108]⟩, 8968, 0, false⟩,
 ⟨⟨#[108, 99, 117, 98]⟩, 123, 0, false⟩,
 ⟨⟨#[108, 100, 113, 117, 111]⟩, 8220, 0, false⟩,
 ⟨⟨#[108, 101]⟩, 8804, 0, false⟩,
 ⟨⟨#[108, 102, 108, 111, 111, 114]⟩, 8970, 0, false⟩,
 ⟨⟨#[108, 111, 119, 97, 115, 116]⟩, 8727, 0, false⟩,
 ⟨⟨#[108, 111, 119, 98, 97, 114]⟩, 95, 0, false⟩,
 ⟨⟨#[108, 111, 122]⟩, 9674, 0, false⟩,
 ⟨⟨#[108, 112, 97, 114]⟩, 40, 0, false⟩,
 ⟨⟨#[108, 114, 109]⟩, 8206, 0, false⟩,
 ⟨⟨#[108, 115, 97, 113, 117, 111]⟩, 8249, 0, false⟩,
 ⟨⟨#[108, 115, 113, 98]⟩, 91, 0, false⟩,
 ⟨⟨#[108, 115, 113, 117, 111]⟩, 8216, 0, false⟩,
 ⟨⟨#[108, 116]⟩, 60, 0, true⟩,
 ⟨⟨#[109, 97, 99, 114]⟩, 175, 0, true⟩,
 ⟨⟨#[109, 100, 97, 115, 104]⟩, 8212, 0, false⟩,
 ⟨⟨#[109, 105, 99, 114, 111]⟩, 181, 0, true⟩,
 ⟨⟨#[109, 105, 100, 100, 111, 116]⟩, 183, 0, true⟩,
 ⟨⟨#[109, 105, 110, 117, 115]⟩, 8722, 0, false⟩,
 ⟨⟨#[109, 117]⟩, 956, 0, false⟩,
 ⟨⟨#[110, 97, 98, 108, 97]⟩, 8711, 0, false⟩,
 ⟨⟨#[110, 98, 115, 112]⟩, 160, 0, true⟩,
 ⟨⟨#[110, 100, 97, 115, 104]⟩, 8211, 0, false⟩,
 ⟨⟨#[110, 101]⟩, 8800, 0, false⟩,
 ⟨⟨#[110, 105]⟩, 8715, 0, false⟩,
 ⟨⟨#[110, 111, 116]⟩, 172, 0, true⟩,
 ⟨⟨#[110, 111, 116, 105, 110]⟩, 8713, 0, false⟩,
 ⟨⟨#[110, 111, 116, 105, 110, 118, 97]⟩, 8713, 0, false⟩,
 ⟨⟨#[110, 111, 116, 110, 105]⟩, 8716, 0, false⟩,
 ⟨⟨#[110, 115, 117, 98]⟩, 8836, 0, false⟩,
 ⟨⟨#[110, 116, 105, 108, 100, 101]⟩, 241, 0, true⟩,
 ⟨⟨#[110, 117]⟩, 957, 0, false⟩,
 ⟨⟨#[110, 117, 109]⟩, 35, 0, false⟩,
 ⟨⟨#[110, 118, 108, 116]⟩, 60, 8402, false⟩,
 ⟨⟨#[111, 97, 99, 117, 116, 101]⟩, 243, 0, true⟩,
 ⟨⟨#[111, 99, 105, 114, 99]⟩, 244, 0, true⟩,
 ⟨⟨#[111, 101, 108, 105, 103]⟩, 339, 0, false⟩,
 ⟨⟨#[111, 103, 114, 97, 118, 101]⟩, 242, 0, true⟩,
 ⟨⟨#[111, 108, 105, 110, 101]⟩, 8254, 0, false⟩,
 ⟨⟨#[111, 109, 101, 103, 97]⟩, 969, 0, false⟩,
 ⟨⟨#[111, 109, 105, 99, 114, 111, 110]⟩, 959, 0, false⟩,
 ⟨⟨#[111, 112, 108, 117, 115]⟩, 8853, 0, false⟩,
 ⟨⟨#[111, 114]⟩, 8744, 0, false⟩,
 ⟨⟨#[111, 114, 100, 102]⟩, 170, 0, true⟩,
 ⟨⟨#[111, 114, 100, 109]⟩, 186, 0, true⟩,
 ⟨⟨#[111, 115, 108, 97, 115, 104]⟩, 248, 0, true⟩,
 ⟨⟨#[111, 116, 105, 108, 100, 101]⟩, 245, 0, true⟩,
 ⟨⟨#[111, 116, 105, 109, 101, 115]⟩, 8855, 0, false⟩,
 ⟨⟨#[111, 117, 109, 108]⟩, 246, 0, true⟩,
 ⟨⟨#[112, 97, 114, 97]⟩, 182, 0, true⟩,
 ⟨⟨#[112, 97, 114, 116]⟩, 8706, 0, false⟩,
 ⟨⟨#[112, 101, 114, 99, 110, 116]⟩, 37, 0, false⟩,
 ⟨⟨#[112, 101, 114, 105, 111, 100]⟩, 46, 0, false⟩,
 ⟨⟨#[112, 101, 114, 109, 105, 108]⟩, 8240, 0, false⟩,
 ⟨⟨#[112, 101, 114, 112]⟩, 8869, 0, false⟩,
 ⟨⟨#[112, 104, 105]⟩, 966, 0, false⟩,
 ⟨⟨#[112, 105]⟩, 960, 0, false⟩,
 ⟨⟨#[112, 105, 118]⟩, 982, 0, false⟩,
 ⟨⟨#[112, 108, 117, 115]⟩, 43, 0, false⟩,
 ⟨⟨#[112, 108, 117, 115, 109, 110]⟩, 177, 0, true⟩,
 ⟨⟨#[112, 111, 117, 110, 100]⟩, 163, 0, true⟩,
 ⟨⟨#[112, 114, 105, 109, 101]⟩, 8242, 0, false⟩,
 ⟨⟨#[112, 114, 111, 100]⟩, 8719, 0, false⟩,
 ⟨⟨#[112, 114, 111, 112]⟩, 8733, 0, false⟩,
 ⟨⟨#[112, 115, 105]⟩, 968, 0, false⟩,
 ⟨⟨#[113, 117, 101, 115, 116]⟩, 63, 0, false⟩,
 ⟨⟨#[113, 117, 111, 116]⟩, 34, 0, true⟩,
 ⟨⟨#[114, 65, 114, 114]⟩, 8658, 0, false⟩,
 ⟨⟨#[114, 97, 100, 105, 99]⟩, 8730, 0, false⟩,
 ⟨⟨#[114, 97, 110, 103]⟩, 10217, 0, false⟩,
 ⟨⟨#[114, 97, 113, 117, 111]⟩, 187, 0, true⟩,
 ⟨⟨#[114, 97, 114, 114]⟩, 8594, 0, false⟩,
 ⟨⟨#[114, 98, 114, 97, 99, 101]⟩, 125, 0, false⟩,
 ⟨⟨#[114, 98, 114, 97, 99, 107]⟩, 93, 0, false⟩,
 ⟨⟨#[114, 99, 101, 105, 108]⟩, 8969, 0, false⟩,
 ⟨⟨#[114, 99, 117, 98]⟩, 125, 0, false⟩,
 ⟨⟨#[114, 100, 113, 117, 111]⟩, 8221, 0, false⟩,
 ⟨⟨#[114, 101, 97, 108]⟩, 8476, 0, false⟩,
 ⟨⟨#[114, 101, 103]⟩, 174, 0, true⟩,
 ⟨⟨#[114, 102, 108, 111, 111, 114]⟩, 8971, 0, false⟩,
 ⟨⟨#[114, 104, 111]⟩, 961, 0, false⟩,
 ⟨⟨#[114, 108, 109]⟩, 8207, 0, false⟩,
 ⟨⟨#[114, 112, 97, 114]⟩, 41, 0, false⟩,
 ⟨⟨#[114, 115, 97, 113, 117, 111]⟩, 8250, 0, false⟩,
 ⟨⟨#[114, 115, 113, 98]⟩, 93, 0, false⟩,
 ⟨⟨#[114, 115, 113, 117, 111]⟩, 8217, 0, false⟩,
 ⟨⟨#[115, 98, 113, 117, 111]⟩, 8218, 0, false⟩,
 ⟨⟨#[115, 99, 97, 114, 111, 110]⟩, 353, 0, false⟩,
 ⟨⟨#[115, 100, 111, 116]⟩, 8901, 0, false⟩,
 ⟨⟨#[115, 101, 99, 116]⟩, 167, 0, true⟩,
 ⟨⟨#[115, 101, 109, 105]⟩, 59, 0, false⟩,
 ⟨⟨#[115, 104, 121]⟩, 173, 0, true⟩,
 ⟨⟨#[115, 105, 103, 109, 97]⟩, 963, 0, false⟩,
 ⟨⟨#[115, 105, 103, 109, 97, 102]⟩, 962, 0, false⟩,
 ⟨⟨#[115, 105, 109]⟩, 8764, 0, false⟩,
 ⟨⟨#[115, 111, 108]⟩, 47, 0, false⟩,
 ⟨⟨#[115, 112, 97, 100, 101, 115]⟩, 9824, 0, false⟩,
 ⟨⟨#[115, 117, 98]⟩, 8834, 0, false⟩,
 ⟨⟨#[115, 117, 98, 101]⟩, 8838, 0, false⟩,
 ⟨⟨#[115, 117, 109]⟩, 8721, 0, false⟩,
 ⟨⟨#[115, 117, 112]⟩, 8835, 0, false⟩,
 ⟨⟨#[115, 117, 112, 49]⟩, 185, 0, true⟩,
 ⟨⟨#[115, 117, 112, 50]⟩, 178, 0, true⟩,
 ⟨⟨#[115, 117, 112, 51]⟩, 179, 0, true⟩,
 ⟨⟨#[115, 117, 112, 101]⟩, 8839, 0, false⟩,
 ⟨⟨#[115, 122, 108, 105, 103]⟩, 223, 0, true⟩,
 ⟨⟨#[116, 97, 117]⟩, 964, 0, false⟩,
 ⟨⟨#[116, 104, 101, 114, 101, 52]⟩, 8756, 0, false⟩,
 ⟨⟨#[116, 104, 101, 116, 97]⟩, 952, 0, false⟩,
 ⟨⟨#[116, 104, 101, 116, 97, 115, 121, 109]⟩, 977, 0, false⟩,
 ⟨⟨#[116, 104, 105, 110, 115, 112]⟩, 8201, 0, false⟩,
 ⟨⟨#[116, 104, 111, 114, 110]⟩, 254, 0, true⟩,
 ⟨⟨#[116, 105, 108, 100, 101]⟩, 732, 0, false⟩,
 ⟨⟨#[116, 105, 109, 101, 115]⟩, 215, 0, true⟩,
 ⟨⟨#[116, 114, 97, 100, 101]⟩, 8482, 0, false⟩,
 ⟨⟨#[117, 65, 114, 114]⟩, 8657, 0, false⟩,
 ⟨⟨#[117, 97, 99, 117, 116, 101]⟩, 250, 0, true⟩,
 ⟨⟨#[117, 97, 114, 114]⟩, 8593, 0, false⟩,
 ⟨⟨#[117, 99, 105, 114, 99]⟩, 251, 0, true⟩,
 ⟨⟨#[117, 103, 114, 97, 118, 101]⟩, 249, 0, true⟩,
 ⟨⟨#[117, 109, 108]⟩, 168, 0, true⟩,
 ⟨⟨#[117, 112, 115, 105, 104]⟩, 978, 0, false⟩,
 ⟨⟨#[117, 112, 115, 105, 108, 111, 110]⟩, 965, 0, false⟩,
 ⟨⟨#[117, 117, 109, 108]⟩, 252, 0, true⟩,
 ⟨⟨#[118, 101, 114, 98, 97, 114]⟩, 124, 0, false⟩,
 ⟨⟨#[118, 101, 114, 116]⟩, 124, 0, false⟩,
 ⟨⟨#[119, 101, 105, 101, 114, 112]⟩, 8472, 0, false⟩,
 ⟨⟨#[120, 105]⟩, 958, 0, false⟩,
 ⟨⟨#[121, 97, 99, 117, 116, 101]⟩, 253, 0, true⟩,
 ⟨⟨#[121, 101, 110]⟩, 165, 0, true⟩,
 ⟨⟨#[121, 117, 109, 108]⟩, 255, 0, true⟩,
 ⟨⟨#[122, 101, 116, 97]⟩, 950, 0, false⟩,
 ⟨⟨#[122, 102, 114]⟩, 120119, 0, false⟩,
 ⟨⟨#[122, 119, 106]⟩, 8205, 0, false⟩,
 ⟨⟨#[122, 119, 110, 106]⟩, 8204, 0, false⟩]
def api_Entities.f : Option (List S75) := some ents
def entV (x : S75) : Value := .agg #[.string x.f0, .int .i32 x.f1, .int .i32 x.f2, .bool x.f3]
def entCells (x : S75) : List Value := [.string x.f0, .int .i32 x.f1, .int .i32 x.f2, .bool x.f3]

/-- what an operation that builds an entity of constants into slot k builds -/
def entOp (k : Nat) (o : Oper) : Option S75 :=
 match o with
 | ⟨some d, .build t ps, _, _, _, none⟩ =>
  match ps.toList with
  | [(0, .const (.string s)), (1, .const (.int .i32 a)), (2, .const (.int .i32 b)), (3, .const (.bool c))] =>
   if d = k then (if t = 75 then some ⟨s, a, b, c⟩ else none) else none
  | _ => none
 | _ => none
def entExt : Nat → List Oper → List S75
 | _, [] => []
 | k, o :: os => match entOp k o with | some x => x :: entExt (k + 1) os | none => []

theorem entOp_some {k : Nat} {o : Oper} {x : S75} (h : entOp k o = some x) :
  ∃ ty pos after, o = ⟨some k, .build 75 #[(0, .const (.string x.f0)), (1, .const (.int .i32 x.f1)), (2, .const (.int .i32 x.f2)), (3, .const (.bool x.f3))], ty, pos, after, none⟩ := by
 unfold entOp at h
 split at h
 ·rename_i d t ps ty pos after
  split at h
  ·rename_i s a b c hps
   split at h
   ·rename_i hd
    split at h
    ·rename_i ht
     injection h with h
     subst h hd ht
     refine ⟨ty, pos, after, ?_⟩
     have hp : ps = #[(0, .const (.string s)), (1, .const (.int .i32 a)), (2, .const (.int .i32 b)), (3, .const (.bool c))] := by
      rw [← Array.toArray_toList (xs := ps), hps]
     rw [hp]
    ·cases h
   ·cases h
  ·cases h
 ·cases h

theorem run_build_ent (w : World) (s : ByteArray) (a b : Int) (c : Bool) :
  (Instr.build 75 #[(0, .string s), (1, .int .i32 a), (2, .int .i32 b), (3, .bool c)]).run Tryd.prog w = .ok (.agg #[.string s, .int .i32 a, .int .i32 b, .bool c]) w := by kernel_rfl

theorem wp_build_ent {ops : Array Oper} {Q : Exit → Act → World → Prop} {rest : List Oper} {a : Act} {w : World} {k : Nat} {o : Oper} {x : S75} (h : entOp k o = some x)
  (hr : wpList Tryd.prog ops Q rest (a.put (some k) (entV x)) w) : wpList Tryd.prog ops Q (o :: rest) a w := by
 obtain ⟨ty, pos, after, rfl⟩ := entOp_some h
 refine wpList_plain rfl fun K hK => ?_
 have hb := run_build_ent w x.f0 x.f1 x.f2 x.f3
 unfold Oper.wp
 simp only [execOp, Act.eval, List.map_toArray, List.map_cons, List.map_nil, Sem.run_bind, hb, Result.andThen_ok, Sem.run_pure]
 exact hK _ _ hr

theorem wp_builds {ops : Array Oper} {Q : Exit → Act → World → Prop} {rest : List Oper} {w : World} : ∀ (os : List Oper) (k : Nat) (a : Act), (entExt k os).length = os.length → k + os.length ≤ a.tmps.size →
  (∀ a' : Act, a'.defers = a.defers → a'.tmps.size = a.tmps.size → (∀ j x, (entExt k os)[j]? = some x → a'.tmps[k + j]? = some (entV x)) → (∀ i, i < k → a'.tmps[i]? = a.tmps[i]?) → wpList Tryd.prog ops Q rest a' w) →
  wpList Tryd.prog ops Q (os ++ rest) a w
 | [], k, a, _, _, h => h a rfl rfl (fun j x hj => by simp [entExt] at hj) (fun _ _ => rfl)
 | o :: os, k, a, hl, hs, h => by
  cases he : entOp k o with
  | none => simp [entExt, he] at hl
  | some x =>
   have hx : entExt k (o :: os) = x :: entExt (k + 1) os := by simp [entExt, he]
   rw [hx] at hl h
   simp only [List.length_cons] at hl hs
   refine wp_build_ent he (wp_builds os (k + 1) _ (by omega) (by simp [Act.put]; omega) fun a' h1 h2 h3 h4 => ?_)
   refine h a' (by rw [h1]; rfl) (by rw [h2]; simp [Act.put]) (fun j y hj => ?_) (fun i hi => ?_)
   ·cases j with
    | zero =>
     simp at hj
     subst hj
     rw [Nat.add_zero, h4 k (by omega)]
     simp [Act.put, show k < a.tmps.size by omega]
    | succ j =>
     simp only [List.getElem?_cons_succ] at hj
     rw [show k + (j + 1) = k + 1 + j from by omega]
     exact h3 j y hj
   ·rw [h4 i (by omega)]
    simp [Act.put, show ¬ k = i by omega]

/-! ### the slice's cells -/
theorem fill_ents : ∀ (xs : List S75) (k : Nat) (dn : List Value) (tl : List Value), dn.length = k * 4 → tl.length = xs.length * 4 →
  Instr.fill (fun i => some (i * 4, 4)) (dn ++ tl).toArray ((xs.zipIdx k).map fun p => (p.2, entV p.1)) = some (dn ++ xs.flatMap entCells).toArray
 | [], k, dn, tl, _, ht => by
  obtain rfl : tl = [] := List.eq_nil_of_length_eq_zero (by simpa using ht)
  simp [Instr.fill]
 | x :: xs, k, dn, tl, hd, ht => by
  match tl, ht with
  | t0 :: t1 :: t2 :: t3 :: tl, ht =>
   have ht' : tl.length = xs.length * 4 := by simp at ht; omega
   have ih := fill_ents xs (k + 1) (dn ++ entCells x) tl (by simp [entCells]; omega) ht'
   simp only [List.zipIdx_cons, List.map_cons, Instr.fill]
   have hc : (entV x).cells = #[.string x.f0, .int .i32 x.f1, .int .i32 x.f2, .bool x.f3] := rfl
   rw [hc]
   rw [if_neg (by simp; omega)]
   have e : (Array.zipIdx #[Value.string x.f0, .int .i32 x.f1, .int .i32 x.f2, .bool x.f3]).foldl (fun cs (c, j) => cs.setIfInBounds (k * 4 + j) c) (dn ++ t0 :: t1 :: t2 :: t3 :: tl).toArray = (dn ++ entCells x ++ tl).toArray := by
    rw [← hd]
    simp [entCells]
   rw [e, ih]
   simp [List.append_assoc]
  | [], ht => simp at ht
  | [_], ht => simp at ht; omega
  | [_, _], ht => simp at ht; omega
  | [_, _, _], ht => simp at ht; omega

noncomputable def entOps : Array Oper := match Tryd.f49.body with
 | some (.seq _ (.seq (.region _ ops _) _)) => ops
 | _ => #[]
noncomputable def entHead : Array Oper := match Tryd.f49.body with
 | some (.seq (.region _ ops _) _) => ops
 | _ => #[]
theorem ent_body : Tryd.f49.body = some (.seq (.region 0 entHead false) (.seq (.region 1 entOps false) .ret)) := by kernel_rfl
theorem ent_ext : entExt 1 (entOps.toList.take 301) = ents := by kernel_rfl
theorem ent_take : (entOps.toList.take 301).length = 301 := by kernel_rfl
def entTail (l : List Oper) : Option (Array (Nat × Operand)) :=
 match l with
 | [⟨some d, .buildSlice t n ps, _, _, _, none⟩, ⟨some d', .assign (.tmp u), _, _, _, none⟩] =>
  if d = 302 then (if t = 72 then (if n = 301 then (if d' = 0 then (if u = 302 then some ps else none) else none) else none) else none) else none
 | _ => none
theorem entTail_some {l : List Oper} {ps : Array (Nat × Operand)} (h : entTail l = some ps) :
  ∃ ty pos after ty' pos' after', l = [⟨some 302, .buildSlice 72 301 ps, ty, pos, after, none⟩, ⟨some 0, .assign (.tmp 302), ty', pos', after', none⟩] := by
 unfold entTail at h
 split at h
 ·rename_i d t n ps' ty pos after d' u ty' pos' after'
  by_cases h1 : d = 302
  ·rw [if_pos h1] at h
   by_cases h2 : t = 72
   ·rw [if_pos h2] at h
    by_cases h3 : n = 301
    ·rw [if_pos h3] at h
     by_cases h4 : d' = 0
     ·rw [if_pos h4] at h
      by_cases h5 : u = 302
      ·rw [if_pos h5] at h
       injection h with h
       subst h1 h2 h3 h4 h5 h
       exact ⟨ty, pos, after, ty', pos', after', rfl⟩
      ·rw [if_neg h5] at h; cases h
     ·rw [if_neg h4] at h; cases h
    ·rw [if_neg h3] at h; cases h
   ·rw [if_neg h2] at h; cases h
  ·rw [if_neg h1] at h; cases h
 ·cases h
theorem ent_tail : entTail (entOps.toList.drop 301) = some ((List.range 301).map fun i => (i, Operand.tmp (i + 1))).toArray := by kernel_rfl
theorem ent_headl : entHead = #[⟨some 0, .assign (.const (.slice none 0 0)), 72, "entities.go:12", #[], none⟩] := by kernel_rfl
theorem ents_length : ents.length = 301 := by kernel_rfl

theorem ents_cells_size : (ents.flatMap entCells).length = 1204 := by kernel_rfl
theorem infoEnt : (Tryd.prog.info? 75).map (fun i => (i.zero, i.size, i.bytes)) = some (some (.agg #[.string ⟨#[]⟩, .int .i32 0, .int .i32 0, .bool false]), 4, 32) := by kernel_rfl
theorem run_buildSlice_ents (w : World) (xs : List S75) (n : Nat) (hl : xs.length = n) (h0 : n ≠ 0) (hn : n ≤ 1000) :
  (Instr.buildSlice 72 n ((xs.zipIdx 0).map fun p => (p.2, entV p.1)).toArray).run Tryd.prog w =
  .ok (.slice (some ⟨w.heap.size, 0, none⟩) n n) (w.alloc (.cells (xs.flatMap entCells).toArray 75)) := by
 obtain ⟨i0, hi, hz0, hz1, hz2⟩ := info_parts infoEnt
 have hf : ∀ f : Nat → Value, Instr.fill (fun i => some (i * 4, 4)) (Array.map f (Array.range (n * 4))) ((xs.zipIdx 0).map fun p => (p.2, entV p.1)) = some (xs.flatMap entCells).toArray := fun f => by
  have h := fill_ents xs 0 [] (Array.map f (Array.range (n * 4))).toList rfl (by rw [hl]; simp)
  simpa only [List.nil_append, Array.toArray_toList] using h
 have hz := Tryd.zeroValue75 w
 have hg : ¬ 16777216 < n * 4 := by omega
 have h4 : ¬ n * 4 = 0 := by omega
 simp [Instr.buildSlice, go_sem, run_underlying Tryd.underlying72, sizeOf, typeInfo, hi, hz1, hg]
 rw [if_neg h4, hf]
 rfl

theorem zip_eval (xs : List S75) (a : Act) (h : ∀ j x, xs[j]? = some x → a.tmps[1 + j]? = some (entV x)) :
  ((List.range xs.length).map fun i => (i, a.eval (.tmp (i + 1)))) = (xs.zipIdx 0).map fun p => (p.2, entV p.1) := by
 apply List.ext_getElem
 ·simp
 ·intro i h1 h2
  simp only [List.getElem_map, List.getElem_range, List.getElem_zipIdx, Nat.zero_add]
  have hi : i < xs.length := by simpa using h1
  have := h i xs[i] (List.getElem?_eq_getElem hi)
  rw [Nat.add_comm] at this
  simp [Act.eval, Array.getD_eq_getD_getElem?, this]

theorem flat_len : ∀ xs : List S75, (xs.flatMap entCells).length = xs.length * 4
 | [] => rfl
 | x :: xs => by
  have := flat_len xs
  simp only [List.flatMap_cons, List.length_append, List.length_cons, this]
  simp only [entCells, List.length_cons, List.length_nil]
  omega
theorem flat_at : ∀ (xs : List S75) (j : Nat) (x : S75), xs[j]? = some x → ((xs.flatMap entCells).drop (j * 4)).take 4 = entCells x
 | [], j, x, h => by simp at h
 | y :: xs, 0, x, h => by
  simp at h
  subst h
  simp [entCells]
 | y :: xs, j + 1, x, h => by
  have := flat_at xs j x (by simpa using h)
  rw [show (j + 1) * 4 = 4 + j * 4 from by omega, List.flatMap_cons, ← List.drop_drop]
  have e : (entCells y ++ xs.flatMap entCells).drop 4 = xs.flatMap entCells := by simp [entCells]
  rw [e, this]
theorem reps_ents (w : World) (base : Nat) (ok : Nat → Prop) (xs : List S75) : Reps (k75.M w base ok) 4 xs (xs.flatMap entCells) :=
 ⟨flat_len xs, fun j p hj => by rw [flat_at xs j p hj]; exact k75_mkM w base ok p⟩

set_option maxRecDepth 100000 in
/-- **api.Entities()**: a new slice that holds the table. -/
theorem api_Entities.calls (r : List S75) (w : World) (h : api_Entities.f = some r) :
  Calls Tryd.prog 49 #[] w fun e w' => ∃ v0_ : Value, e = .returned (v0_) ∧ Kd.R k75 75 w' w.heap.size (fun _ => True) v0_ r ∧ Below w.heap.size w w' := by
 obtain rfl := Option.some.inj h
 have hlen := ents_length
 have hsz := ents_cells_size
 have hex := ent_ext
 generalize ents = xs at hlen hsz hex ⊢
 refine calls_of_wp Tryd.func49 ent_body ?_
 apply wp_seq_k; intro K1 hK1
 refine wp_region_list ?_
 rw [ent_headl]
 refine wpList_plain rfl fun K hK => ?_
 unfold Oper.wp
 simp only [execOp, Act.eval, Sem.run_pure]
 refine hK _ _ (wpList_nil (hK1 _ _ ?_))
 clear hK hK1 K K1
 apply wp_seq_k; intro K1 hK1
 refine wp_region_list ?_
 obtain ⟨ty, pos, after, ty', pos', after', ht⟩ := entTail_some ent_tail
 rw [← List.take_append_drop 301 entOps.toList, ht]
 have htk := ent_take
 refine wp_builds _ 1 _ (by rw [hex, hlen, htk]) (by rw [htk]; simp [Tryd.ntmps49, Act.put]) fun a' h1 h2 h3 h4 => ?_
 rw [hex] at h3
 have hsize : a'.tmps.size = 303 := by rw [h2]; simp [Tryd.ntmps49, Act.put]
 have hz := zip_eval xs a' h3
 rw [hlen] at hz
 have hrun := run_buildSlice_ents w xs 301 hlen (by omega) (by omega)
 rw [← hz] at hrun
 refine wpList_plain rfl fun K hK => ?_
 unfold Oper.wp
 simp only [execOp, List.map_toArray, List.map_map, Function.comp_def, Sem.run_bind, hrun, Result.andThen_ok, Sem.run_pure]
 refine hK _ _ ?_
 clear hK K
 refine wpList_plain rfl fun K hK => ?_
 unfold Oper.wp
 simp only [execOp, Sem.run_pure]
 refine hK _ _ (wpList_nil (hK1 _ _ ?_))
 apply wp_ret
 have e302 : (Act.put a' (some 302) (Value.slice (some ⟨w.heap.size, 0, none⟩) 301 301)).eval (.tmp 302) = Value.slice (some ⟨w.heap.size, 0, none⟩) 301 301 := by
  simp [Act.eval, Act.put, hsize, Array.getD_eq_getD_getElem?]
 refine bodyPost_ret (v := .slice (some ⟨w.heap.size, 0, none⟩) 301 301) ?_ ?_ ?_
 ·simp [results, Tryd.results49, Act.put, Act.eval, hsize, Array.getD_eq_getD_getElem?]
 ·simp [Act.put, h1]
 ·refine ⟨_, rfl, ⟨fun _ _ => trivial, xs.flatMap entCells, ⟨by rw [hlen, hsz]; rfl, .inr ⟨w.heap.size, 301, (xs.flatMap entCells).toArray, by rw [hlen], Nat.le_refl _, ?_, by omega, by simp only [maxLen]; omega, by simp [hsz]; rfl, ?_⟩⟩, ?_⟩, (Below.refl _ _).alloc (Nat.le_refl _) _⟩
  ·exact heap_alloc_new w _
  ·rw [hlen]
   refine List.take_of_length_le ?_
   show (xs.flatMap entCells).toArray.toList.length ≤ 301 * 4
   rw [show (xs.flatMap entCells).toArray.toList = xs.flatMap entCells from rfl]
   omega
  ·exact reps_ents _ _ _ xs
end Go.Proofs.YthmbbkbmlnaghaaDoor.P
end
section
/-
 What a number says: the contract of 'charref.says' (numbers from 0 on), over the array of 'charref.windows'.
-/
namespace Go.Proofs.YthmbbkbmlnaghaaDoor.P
open Go.RowKit Go.Proofs.YthmbbkbmlnaghaaDoorW.PrintWords Go.Proofs.YthmbbkbmlnaghaaDoorW.PrintLast Go.Proofs.YthmbbkbmlnaghaaDoorW.PrintMore
set_option linter.unusedVariables false
set_option linter.unusedSimpArgs false

def winL : List Int := [8364, 129, 8218, 402, 8222, 8230, 8224, 8225, 710, 8240, 352, 8249, 338, 141, 381, 143, 144, 8216, 8217, 8220, 8221, 8226, 8211, 8212, 732, 8482, 353, 8250, 339, 157, 382, 376]
def winC : Array Value := #[.int .i32 8364, .int .i32 129, .int .i32 8218, .int .i32 402, .int .i32 8222, .int .i32 8230, .int .i32 8224, .int .i32 8225, .int .i32 710, .int .i32 8240, .int .i32 352, .int .i32 8249, .int .i32 338, .int .i32 141, .int .i32 381, .int .i32 143, .int .i32 144, .int .i32 8216, .int .i32 8217, .int .i32 8220, .int .i32 8221, .int .i32 8226, .int .i32 8211, .int .i32 8212, .int .i32 732, .int .i32 8482, .int .i32 353, .int .i32 8250, .int .i32 339, .int .i32 157, .int .i32 382, .int .i32 376]
def winZ : Array Value := #[.int .i32 0, .int .i32 0, .int .i32 0, .int .i32 0, .int .i32 0, .int .i32 0, .int .i32 0, .int .i32 0, .int .i32 0, .int .i32 0, .int .i32 0, .int .i32 0, .int .i32 0, .int .i32 0, .int .i32 0, .int .i32 0, .int .i32 0, .int .i32 0, .int .i32 0, .int .i32 0, .int .i32 0, .int .i32 0, .int .i32 0, .int .i32 0, .int .i32 0, .int .i32 0, .int .i32 0, .int .i32 0, .int .i32 0, .int .i32 0, .int .i32 0, .int .i32 0]
def winP : Array (Nat × Value) := #[(0, .int .i32 8364), (1, .int .i32 129), (2, .int .i32 8218), (3, .int .i32 402), (4, .int .i32 8222), (5, .int .i32 8230), (6, .int .i32 8224), (7, .int .i32 8225), (8, .int .i32 710), (9, .int .i32 8240), (10, .int .i32 352), (11, .int .i32 8249), (12, .int .i32 338), (13, .int .i32 141), (14, .int .i32 381), (15, .int .i32 143), (16, .int .i32 144), (17, .int .i32 8216), (18, .int .i32 8217), (19, .int .i32 8220), (20, .int .i32 8221), (21, .int .i32 8226), (22, .int .i32 8211), (23, .int .i32 8212), (24, .int .i32 732), (25, .int .i32 8482), (26, .int .i32 353), (27, .int .i32 8250), (28, .int .i32 339), (29, .int .i32 157), (30, .int .i32 382), (31, .int .i32 376)]
def winV : Value := .agg winC
theorem win_size : winC.size = 32 := rfl
theorem winZ_size : winZ.size = 32 := rfl
theorem win_one : winC.all (·.oneCell') = true := by kernel_rfl
theorem win_info : (Tryd.prog.info? 50).map (fun i => (i.zero, i.size)) = some (some (.agg winZ), 32) := by kernel_rfl
theorem win_under : Tryd.prog.underlying 50 = some (.array 32 21) := by kernel_rfl
theorem run_build_win (w : World) : (Instr.build 50 winP).run Tryd.prog w = .ok winV w := by kernel_rfl
theorem win_alloc (w : World) : (Instr.alloc 50 true (.tuple #[])).run Tryd.prog w = .ok (.pointer (some ⟨w.heap.size, 0, none⟩)) (w.alloc (.cells winZ 50)) := by
 have hz := (zero_of_info win_info).1 w
 simp [Instr.alloc, hz, go_sem, newVar, newRow, newObj, Value.cells]
 rfl

noncomputable def winOps1 : Array Oper := match Tryd.f28.body with
 | some (.seq (.region _ ops _) _) => ops
 | _ => #[]
noncomputable def winOps2 : Array Oper := match Tryd.f28.body with
 | some (.seq _ (.seq (.region _ ops _) _)) => ops
 | _ => #[]
theorem win_body : Tryd.f28.body = some (.seq (.region 0 winOps1 false) (.seq (.region 1 winOps2 false) .ret)) := by kernel_rfl
def winChk1 (l : List Oper) : Bool := match l with
 | [⟨some d, .alloc t, _, _, _, none⟩] => d == 0 && t == 50
 | _ => false
def winChk2 (l : List Oper) : Option (Array (Nat × Operand)) := match l with
 | [⟨some d, .build t ps, _, _, _, none⟩, ⟨none, .store t' (.tmp x) (.tmp y), _, _, _, none⟩] => if (d == 1 && t == 50 && t' == 50 && x == 0 && y == 1) = true then some ps else none
 | _ => none
theorem winChk1_ok : winChk1 winOps1.toList = true := by kernel_rfl
noncomputable def winPs : Array (Nat × Operand) := match winOps2.toList with
 | ⟨_, .build _ ps, _, _, _, _⟩ :: _ => ps
 | _ => #[]
theorem winChk2_ok : winChk2 winOps2.toList = some winPs := by kernel_rfl
theorem winPs_val (a : Act) : winPs.map (fun (i, x) => (i, a.eval x)) = winP := by kernel_rfl
theorem winChk1_some {l : List Oper} (h : winChk1 l = true) : ∃ ty pos after, l = [⟨some 0, .alloc 50, ty, pos, after, none⟩] := by
 unfold winChk1 at h
 split at h
 ·rename_i d t ty pos after
  simp only [Bool.and_eq_true, beq_iff_eq] at h
  obtain ⟨rfl, rfl⟩ := h
  exact ⟨_, _, _, rfl⟩
 ·cases h
theorem winChk2_some {l : List Oper} {ps : Array (Nat × Operand)} (h : winChk2 l = some ps) :
  ∃ ty pos after ty' pos' after', l = [⟨some 1, .build 50 ps, ty, pos, after, none⟩, ⟨none, .store 50 (.tmp 0) (.tmp 1), ty', pos', after', none⟩] := by
 unfold winChk2 at h
 split at h
 ·rename_i d t ps' ty pos after t' x y ty' pos' after'
  split at h
  ·rename_i hc
   simp only [Bool.and_eq_true, beq_iff_eq] at hc
   obtain ⟨⟨⟨⟨rfl, rfl⟩, rfl⟩, rfl⟩, rfl⟩ := hc
   injection h with h
   subst h
   exact ⟨_, _, _, _, _, _, rfl⟩
  ·cases h
 ·cases h

theorem win_calls (w : World) : Calls Tryd.prog 28 #[] w fun e w' => e = .returned winV ∧ Below w.heap.size w w' := by
 have hsz := win_size
 have hszZ := winZ_size
 have hone := win_one
 have hbld := run_build_win
 have hal := win_alloc w
 have hpv := winPs_val
 have hinf := (zero_of_info win_info).2
 have hun := win_under
 unfold winV at hbld ⊢
 generalize winC = C at hsz hone hbld ⊢
 generalize winZ = Z at hszZ hal
 generalize winP = PP at hbld hpv
 refine calls_of_wp Tryd.func28 win_body ?_
 refine (fun (h : ∀ a0 : Act, a0.tmps.size = 2 → a0.defers = [] → Code.wp _ _ _ a0 w) => h _ (by simp [Tryd.ntmps28]) rfl) ?_
 intro a0 hs0 hd0
 apply wp_seq_k; intro K1 hK1
 refine wp_region_list ?_
 obtain ⟨ty, pos, after, h1⟩ := winChk1_some winChk1_ok
 rw [h1]
 refine wpList_plain rfl fun K hK => ?_
 unfold Oper.wp
 simp only [execOp, Sem.run_bind, hal, Result.andThen_ok, Sem.run_pure]
 refine hK _ _ (wpList_nil (hK1 _ _ ?_))
 clear hK hK1 K K1
 apply wp_seq_k; intro K1 hK1
 refine wp_region_list ?_
 obtain ⟨ty2, pos2, after2, ty3, pos3, after3, h2⟩ := winChk2_some winChk2_ok
 rw [h2]
 refine wpList_plain rfl fun K hK => ?_
 unfold Oper.wp
 simp only [execOp, Sem.run_bind, hpv, hbld, Result.andThen_ok, Sem.run_pure]
 refine hK _ _ ?_
 clear hK K
 refine wpList_plain rfl fun K hK => ?_
 have e0 : Act.eval (Act.put (Act.put a0 (some 0) (Value.pointer (some ⟨w.heap.size, 0, none⟩))) (some 1) (Value.agg C)) (.tmp 0) = Value.pointer (some ⟨w.heap.size, 0, none⟩) := by
  simp [Act.eval, Act.put, hs0, Array.getD_eq_getD_getElem?, Array.getElem?_setIfInBounds]
 have e1 : Act.eval (Act.put (Act.put a0 (some 0) (Value.pointer (some ⟨w.heap.size, 0, none⟩))) (some 1) (Value.agg C)) (.tmp 1) = Value.agg C := by
  simp [Act.eval, Act.put, hs0, Array.getD_eq_getD_getElem?, Array.getElem?_setIfInBounds]
 have hst := run_storeAt_new (P := Tryd.prog) w 50 Z C (by rw [hinf, hsz]) (by rw [hszZ, hsz]) hone
 unfold Oper.wp
 simp only [execOp, e0, e1, Sem.run_bind, hst, Result.andThen_ok, Sem.run_pure]
 refine hK _ _ (wpList_nil (hK1 _ _ ?_))
 apply wp_ret
 refine bodyPost_ret (v := .agg C) ?_ ?_ ⟨rfl, (Below.refl _ _).alloc (Nat.le_refl _) _⟩
 ·refine results_cell_row Tryd.results28 _ _ w.heap.size 50 C (0, 0) _ ?_ (heap_alloc_new w _) hun rfl (by rw [hinf, hsz])
  simp [Act.put, hs0, Array.getD_eq_getD_getElem?, Array.getElem?_setIfInBounds]
 ·simp [Act.put, hd0]

theorem win_index (k : Nat) (hk : k < 32) (w : World) : (Instr.index 50 winV (.int .i64 (k : Int))).run Tryd.prog w = .ok (.int .i32 (winL.getD k 0)) w := by
 rcases (show k = 0 ∨ k = 1 ∨ k = 2 ∨ k = 3 ∨ k = 4 ∨ k = 5 ∨ k = 6 ∨ k = 7 ∨ k = 8 ∨ k = 9 ∨ k = 10 ∨ k = 11 ∨ k = 12 ∨ k = 13 ∨ k = 14 ∨ k = 15 ∨ k = 16 ∨ k = 17 ∨ k = 18 ∨ k = 19 ∨ k = 20 ∨ k = 21 ∨ k = 22 ∨ k = 23 ∨ k = 24 ∨ k = 25 ∨ k = 26 ∨ k = 27 ∨ k = 28 ∨ k = 29 ∨ k = 30 ∨ k = 31 from by omega) with rfl | rfl | rfl | rfl | rfl | rfl | rfl | rfl | rfl | rfl | rfl | rfl | rfl | rfl | rfl | rfl | rfl | rfl | rfl | rfl | rfl | rfl | rfl | rfl | rfl | rfl | rfl | rfl | rfl | rfl | rfl | rfl
 all_goals kernel_rfl

def saysF (n : Int) : Int × Bool :=
 if n = 0 ∨ n > 1114111 ∨ (n ≥ 55296 ∧ n ≤ 57343) then (65533, false)
 else if n ≥ 128 ∧ n ≤ 159 then (winL.getD (n - 128).toNat 0, winL.getD (n - 128).toNat 0 == n)
 else (n, true)
def charref_says.f (n : Int) : Option (Int × Bool) := if 0 ≤ n ∧ n ≤ 9223372036854775807 then some (saysF n) else none


theorem win_at (n : Int) (h0 : 128 ≤ n) (h1 : n ≤ 159) (w : World) : (Instr.index 50 winV (.int .i64 (n - 128))).run Tryd.prog w = .ok (.int .i32 (winL.getD (n - 128).toNat 0)) w := by
 obtain ⟨k, hk⟩ : ∃ k : Nat, n - 128 = (k : Int) := ⟨(n - 128).toNat, by omega⟩
 rw [hk, Int.toNat_natCast]
 exact win_index k (by omega) w

set_option maxHeartbeats 1000000 in
theorem charref_says.calls (a0 : Int) (r1 : Int) (r2 : Bool) (w : World) (h : charref_says.f a0 = some (r1, r2)) :
  Calls Tryd.prog 18 #[.int .i64 a0] w fun e w' => e = .returned (.tuple #[.int .i32 r1, .bool r2]) ∧ Below w.heap.size w w' := by
 unfold charref_says.f at h
 split at h
 ·rename_i hd
  obtain ⟨h0, h63⟩ := hd
  have h := Option.some.inj h
  unfold saysF at h
  split at h
  ·rename_i hc
   injection h with e1 e2
   subst e1 e2
   have hB : Below w.heap.size w w := Below.refl _ _
   rcases hc with hc | hc | ⟨hc, hc'⟩
   ·subst hc
    go_enter Tryd.func18, Tryd.ntmps18
    go_wp2
    go_ret2
    exact ⟨rfl, hB⟩
   ·have d0 : (a0 == 0) = false := by simp; omega
    have d1 : decide (1114111 < a0) = true := by simpa using hc
    go_enter Tryd.func18, Tryd.ntmps18
    go_wp2
    go_ret2
    exact ⟨rfl, hB⟩
   ·have d0 : (a0 == 0) = false := by simp; omega
    have d1 : decide (1114111 < a0) = false := by simp; omega
    go_enter Tryd.func18, Tryd.ntmps18
    go_wp2
    go_ret2
    exact ⟨rfl, hB⟩
  ·rename_i hc
   have d0 : (a0 == 0) = false := by simp; omega
   have d1 : decide (1114111 < a0) = false := by simp; omega
   have hwr : wrap32 a0 = a0 := by unfold wrap32; omega
   split at h
   ·rename_i hw
    obtain ⟨hw1, hw2⟩ := hw
    injection h with e1 e2
    have hat := win_at a0 hw1 hw2
    generalize winL.getD (a0 - 128).toNat 0 = r at e1 e2 hat
    subst e1
    have d2 : decide (55296 ≤ a0) = false := by simp; omega
    go_enter Tryd.func18, Tryd.ntmps18
    go_wp2_with (go_at_call 28; refine (win_calls _).mono ?_; rintro e w' ⟨rfl, hb⟩)
    go_ret2
    exact ⟨by rw [← e2]; simp [hwr], by assumption⟩
   ·rename_i hw
    injection h with e1 e2
    subst e1 e2
    have hB : Below w.heap.size w w := Below.refl _ _
    by_cases hlo : 55296 ≤ a0
    ·have d3 : decide (a0 ≤ 57343) = false := by simp; omega
     go_enter Tryd.func18, Tryd.ntmps18
     go_wp2
     go_ret2
     exact ⟨by simp [hwr], hB⟩
    ·have d2 : decide (55296 ≤ a0) = false := by simp; omega
     by_cases h8 : 128 ≤ a0
     ·have d3 : decide (a0 ≤ 159) = false := by simp; omega
      go_enter Tryd.func18, Tryd.ntmps18
      go_wp2
      go_ret2
      exact ⟨by simp [hwr], hB⟩
     ·go_enter Tryd.func18, Tryd.ntmps18
      go_wp2
      go_ret2
      exact ⟨by simp [hwr], hB⟩
 ·cases h
end Go.Proofs.YthmbbkbmlnaghaaDoor.P
end
section
/-
 Runes to a text: the conversion 'string(runes)' of a row that is read and of a row of the call's own.
-/
namespace Go.Proofs.YthmbbkbmlnaghaaDoor.P
open Go.RowKit Go.Proofs.YthmbbkbmlnaghaaDoorW.PrintWords Go.Proofs.YthmbbkbmlnaghaaDoorW.PrintLast Go.Proofs.YthmbbkbmlnaghaaDoorW.PrintMore
set_option linter.unusedVariables false

def Hc_text (xs : List Int) : ByteArray := runesBytes xs

theorem Hc_of_reads {P : Program} {w : World} {src dst e : TypeId} {A : Option Addr} {n c : Nat} {xs : List Int} (hs : P.underlying src = some (.slice e)) (he : P.underlying e = some (.int .i32)) (hd : P.underlying dst = some .string)
  (h : ReadsInt w .i32 A n xs) : (convert src dst (.slice A n c)).run P w = .ok (.string (Hc_text xs)) w := by
 have hn : xs.length = n := h.1
 rcases A with _ | ad
 ·have h0 : n = 0 := by
   rcases Nat.eq_zero_or_pos n with h0 | h0
   ·exact h0
   ·obtain ⟨ad, h', _⟩ := h.2.2 h0
    cases h'
  subst h0
  obtain rfl : xs = [] := List.eq_nil_of_length_eq_zero hn
  exact run_convert_runes_nil w src dst e 0 c hs he hd
 ·have := run_convert_runes (P := P) w src dst e ad n c xs (by omega) hs he hd (fun j hj => by
   obtain ⟨ad', he', hc⟩ := h.2.2 (by omega)
   injection he' with he'
   subst he'
   exact hc j (by omega))
  rw [List.take_of_length_le (by omega)] at this
  exact this
theorem Hc_own_runes {P : Program} {w : World} {base n : Nat} {e' src dst e : TypeId} {v : Value} {xs : List Int} (hs : P.underlying src = some (.slice e)) (he : P.underlying e = some (.int .i32)) (hd : P.underlying dst = some .string)
  (h : w.ownsRow base e' 1 v n (nums .i32 xs)) : (convert src dst v).run P w = .ok (.string (Hc_text xs)) w := by
 obtain ⟨A, c, rfl, hr⟩ := own_reads h
 exact Hc_of_reads hs he hd hr
end Go.Proofs.YthmbbkbmlnaghaaDoor.P
end
