/-
  Part 2 of 7 of the proof's texts, joined: PA0, PA2, Hent.
  (Where a joined text began as one that the kit's print.sh printed, it is trimmed here to what this claim uses, by this session's pack.py.)
-/
import Derived.Test.YtilpbfbnnmclhaaQCharrefPieces0
import Derived.Test.YtilpbfbnnmclhaaProg
import Derived.Below
import Derived.Deep.Draws
import Derived.Deep.AppendLies
import Derived.Maps.AppendAt
import Derived.OwnWalk
import Derived.Laws.BytesArg
import Derived.Laws.MakeOwn
import Derived.Laws.OwnMore
import Derived.Deep.OwnRows
import Derived.Tactics
import Derived.Lib.ConvBytes
import Derived.Laws.Slices
import Derived.WalkKit
import Derived.KernelRfl
import Derived.RowKit3
import Derived.Deep.LoopGhost
import Derived.Deep.QuietTactic
import Derived.BigQuiet
import Derived.WideLaws
import Derived.Deep.DeepCutAuto
import Derived.Deep.CutBlock
import Derived.Deep.RegionHeld3
import Derived.Laws.Rows
import Derived.Lib.AppendStr
import Derived.ArgAppend
import Derived.Laws.IdiomCopy
import Derived.OrdersHeld
import Derived.Laws.BitsLemmas
import Derived.RowKit
section
namespace Go.Proofs.Ytilpbfbnnmclhaa.P
open Go.RowKit Go.Proofs.YtilpbfbnnmclhaaW.PrintWords Go.Proofs.YtilpbfbnnmclhaaW.PrintLast Go.Proofs.YtilpbfbnnmclhaaW.PrintMore
attribute [local go_sem] max2_int min2_int max_two min_two max_three min_three max_four min_four   -- for this text's walks alone
set_option linter.unusedVariables false
set_option linter.unusedSimpArgs false



def errW : Option Int → Value
 | none => .nilIface
 | some c => .iface 0 (.int .i64 c)
theorem errW_none : errW none = .nilIface := rfl
theorem errW_some (c : Int) : errW (some c) = .iface 0 (.int .i64 c) := rfl

theorem info5 : (Try.prog.info? 5).map (fun i => (i.zero, i.size, i.bytes)) = some (some (.int .u8 0), 1, 1) := by kernel_rfl
theorem info21 : (Try.prog.info? 21).map (fun i => (i.zero, i.size, i.bytes)) = some (some (.int .i32 0), 1, 4) := by kernel_rfl
theorem info40 : (Try.prog.info? 40).map (fun i => (i.zero, i.size, i.bytes)) = some (some (.agg #[(.int .i64 0), (.string ⟨#[]⟩), (.string ⟨#[]⟩), (.bool false)]), 4, 48) := by kernel_rfl
theorem info67 : (Try.prog.info? 67).map (fun i => (i.zero, i.size, i.bytes)) = some (some (.agg #[(.int .i32 0), (.int .i64 0), (.int .i64 0), (.bool false)]), 4, 32) := by kernel_rfl
-- the values' own types
/-! #### struct type 67 -/
structure S67 where
 f0 : Int
 f1 : Int
 f2 : Int
 f3 : Bool
def z67 : S67 := ⟨(0 : Int), (0 : Int), (0 : Int), false⟩
def k67 : Kd S67 := Kd.iso (Kd.pair (Kd.int .i32) (Kd.pair (Kd.int .i64) (Kd.pair (Kd.int .i64) Kd.bool))) (fun x : S67 => (x.f0, x.f1, x.f2, x.f3))
theorem k67_open {w : World} {x : S67} {cs : List Value} (h : k67.K w x cs) : cs = [.int .i32 x.f0, .int .i64 x.f1, .int .i64 x.f2, .bool x.f3] := by
 obtain ⟨_, _, rfl, rfl, ⟨_, _, rfl, rfl, ⟨_, _, rfl, rfl, rfl⟩⟩⟩ := h
 exact rfl
theorem k67_mkM (w : World) (base : Nat) (ok : Nat → Prop) (x : S67)  : k67.M w base ok x [.int .i32 x.f0, .int .i64 x.f1, .int .i64 x.f2, .bool x.f3] := ⟨[.int .i32 x.f0], [.int .i64 x.f1, .int .i64 x.f2, .bool x.f3], rfl, rfl, ⟨[.int .i64 x.f1], [.int .i64 x.f2, .bool x.f3], rfl, rfl, ⟨[.int .i64 x.f2], [.bool x.f3], rfl, rfl, rfl⟩⟩⟩
def rd_T67 (xs : List S67) (i : Int) : S67 := xs.getD i.toNat z67
theorem at_T67 {w : World} {A : Option Addr} {n : Nat} {xs : List S67} (h : Kd.C k67 w A n xs) (i : Int) (h0 : 0 ≤ i) (h1 : i < n) : ∃ ad , A = some ad ∧ w.cell? (ad.add (i.toNat * 4)) = some (.int .i32 (rd_T67 xs i).f0) ∧ w.cell? ⟨(ad.add (i.toNat * 4)).block, (ad.add (i.toNat * 4)).off + 1, none⟩ = some (.int .i64 (rd_T67 xs i).f1) ∧ w.cell? ⟨(ad.add (i.toNat * 4)).block, (ad.add (i.toNat * 4)).off + 2, none⟩ = some (.int .i64 (rd_T67 xs i).f2) ∧ w.cell? ⟨(ad.add (i.toNat * 4)).block, (ad.add (i.toNat * 4)).off + 3, none⟩ = some (.bool (rd_T67 xs i).f3) := by
 obtain ⟨ad, c, e, _, hK, hc0⟩ := Kd.C_get h z67 i h0 h1
 have hc : ∀ j u, c[j]? = some u → w.cell? (ad.add (i.toNat * 4 + j)) = some u := hc0
 obtain rfl := k67_open hK
 exact ⟨ad, e, hc 0 _ rfl, by rw [← add_field _ _ 1 (by omega)]; exact hc 1 _ rfl, by rw [← add_field _ _ 2 (by omega)]; exact hc 2 _ rfl, by rw [← add_field _ _ 3 (by omega)]; exact hc 3 _ rfl⟩

/-! #### struct type 98 -/
structure S98 where
 f0 : ByteArray
 f1 : Int
 f2 : Int
 f3 : Bool
def z98 : S98 := ⟨(⟨#[]⟩ : ByteArray), (0 : Int), (0 : Int), false⟩
def k98 : Kd S98 := Kd.iso (Kd.pair Kd.string (Kd.pair (Kd.int .i32) (Kd.pair (Kd.int .i32) Kd.bool))) (fun x : S98 => (x.f0, x.f1, x.f2, x.f3))
theorem k98_open {w : World} {x : S98} {cs : List Value} (h : k98.K w x cs) : cs = [.string x.f0, .int .i32 x.f1, .int .i32 x.f2, .bool x.f3] := by
 obtain ⟨_, _, rfl, rfl, ⟨_, _, rfl, rfl, ⟨_, _, rfl, rfl, rfl⟩⟩⟩ := h
 exact rfl
theorem k98_mkM (w : World) (base : Nat) (ok : Nat → Prop) (x : S98)  : k98.M w base ok x [.string x.f0, .int .i32 x.f1, .int .i32 x.f2, .bool x.f3] := ⟨[.string x.f0], [.int .i32 x.f1, .int .i32 x.f2, .bool x.f3], rfl, rfl, ⟨[.int .i32 x.f1], [.int .i32 x.f2, .bool x.f3], rfl, rfl, ⟨[.int .i32 x.f2], [.bool x.f3], rfl, rfl, rfl⟩⟩⟩
def rd_T98 (xs : List S98) (i : Int) : S98 := xs.getD i.toNat z98
theorem at_T98 {w : World} {A : Option Addr} {n : Nat} {xs : List S98} (h : Kd.C k98 w A n xs) (i : Int) (h0 : 0 ≤ i) (h1 : i < n) : ∃ ad , A = some ad ∧ w.cell? (ad.add (i.toNat * 4)) = some (.string (rd_T98 xs i).f0) ∧ w.cell? ⟨(ad.add (i.toNat * 4)).block, (ad.add (i.toNat * 4)).off + 1, none⟩ = some (.int .i32 (rd_T98 xs i).f1) ∧ w.cell? ⟨(ad.add (i.toNat * 4)).block, (ad.add (i.toNat * 4)).off + 2, none⟩ = some (.int .i32 (rd_T98 xs i).f2) ∧ w.cell? ⟨(ad.add (i.toNat * 4)).block, (ad.add (i.toNat * 4)).off + 3, none⟩ = some (.bool (rd_T98 xs i).f3) := by
 obtain ⟨ad, c, e, _, hK, hc0⟩ := Kd.C_get h z98 i h0 h1
 have hc : ∀ j u, c[j]? = some u → w.cell? (ad.add (i.toNat * 4 + j)) = some u := hc0
 obtain rfl := k98_open hK
 exact ⟨ad, e, hc 0 _ rfl, by rw [← add_field _ _ 1 (by omega)]; exact hc 1 _ rfl, by rw [← add_field _ _ 2 (by omega)]; exact hc 2 _ rfl, by rw [← add_field _ _ 3 (by omega)]; exact hc 3 _ rfl⟩

/-! #### struct type 40 -/
structure S40 where
 f0 : Int
 f1 : ByteArray
 f2 : ByteArray
 f3 : Bool
def z40 : S40 := ⟨(0 : Int), (⟨#[]⟩ : ByteArray), (⟨#[]⟩ : ByteArray), false⟩
def k40 : Kd S40 := Kd.iso (Kd.pair (Kd.int .i64) (Kd.pair Kd.string (Kd.pair Kd.string Kd.bool))) (fun x : S40 => (x.f0, x.f1, x.f2, x.f3))
theorem k40_open {w : World} {x : S40} {cs : List Value} (h : k40.K w x cs) : cs = [.int .i64 x.f0, .string x.f1, .string x.f2, .bool x.f3] := by
 obtain ⟨_, _, rfl, rfl, ⟨_, _, rfl, rfl, ⟨_, _, rfl, rfl, rfl⟩⟩⟩ := h
 exact rfl
theorem k40_mkM (w : World) (base : Nat) (ok : Nat → Prop) (x : S40)  : k40.M w base ok x [.int .i64 x.f0, .string x.f1, .string x.f2, .bool x.f3] := ⟨[.int .i64 x.f0], [.string x.f1, .string x.f2, .bool x.f3], rfl, rfl, ⟨[.string x.f1], [.string x.f2, .bool x.f3], rfl, rfl, ⟨[.string x.f2], [.bool x.f3], rfl, rfl, rfl⟩⟩⟩
def rd_T40 (xs : List S40) (i : Int) : S40 := xs.getD i.toNat z40
theorem at_T40 {w : World} {A : Option Addr} {n : Nat} {xs : List S40} (h : Kd.C k40 w A n xs) (i : Int) (h0 : 0 ≤ i) (h1 : i < n) : ∃ ad , A = some ad ∧ w.cell? (ad.add (i.toNat * 4)) = some (.int .i64 (rd_T40 xs i).f0) ∧ w.cell? ⟨(ad.add (i.toNat * 4)).block, (ad.add (i.toNat * 4)).off + 1, none⟩ = some (.string (rd_T40 xs i).f1) ∧ w.cell? ⟨(ad.add (i.toNat * 4)).block, (ad.add (i.toNat * 4)).off + 2, none⟩ = some (.string (rd_T40 xs i).f2) ∧ w.cell? ⟨(ad.add (i.toNat * 4)).block, (ad.add (i.toNat * 4)).off + 3, none⟩ = some (.bool (rd_T40 xs i).f3) := by
 obtain ⟨ad, c, e, _, hK, hc0⟩ := Kd.C_get h z40 i h0 h1
 have hc : ∀ j u, c[j]? = some u → w.cell? (ad.add (i.toNat * 4 + j)) = some u := hc0
 obtain rfl := k40_open hK
 exact ⟨ad, e, hc 0 _ rfl, by rw [← add_field _ _ 1 (by omega)]; exact hc 1 _ rfl, by rw [← add_field _ _ 2 (by omega)]; exact hc 2 _ rfl, by rw [← add_field _ _ 3 (by omega)]; exact hc 3 _ rfl⟩

end Go.Proofs.Ytilpbfbnnmclhaa.P
end
section
namespace Go.Proofs.Ytilpbfbnnmclhaa.P
open Go.RowKit Go.Proofs.YtilpbfbnnmclhaaW.PrintWords Go.Proofs.YtilpbfbnnmclhaaW.PrintLast Go.Proofs.YtilpbfbnnmclhaaW.PrintMore
attribute [local go_sem] max2_int min2_int max_two min_two max_three min_three max_four min_four   -- for this text's walks alone
set_option linter.unusedVariables false
set_option linter.unusedSimpArgs false

/-! ### sieveref04_Digit: function 50 -/
def sieveref04_Digit.f (a0 : Int) : Option (Bool) := if a0 ≥ 48 then (some (decide (a0 ≤ 57))) else (some false)
set_option maxHeartbeats 8000000 in
set_option maxRecDepth 100000 in
theorem sieveref04_Digit.calls (a0 : Int) (r : Bool) (w : World) (h : sieveref04_Digit.f a0 = some r) :
  Calls Try.prog 50 #[.int .i32 a0] w fun e w' => e = .returned (.bool r) ∧ Drawn0 w w' := by
 have H : (if a0 ≥ 48 then (some (decide (a0 ≤ 57))) else (some false)) = some r := h
 clear h
 by_cases c2 : a0 ≥ 48
 ·rw [if_pos c2] at H
  have c2b0 : decide (48 ≤ a0) = true := decide_eq_true c2
  clear c2
  obtain rfl := Option.some.inj H
  go_enter Try.func50, Try.ntmps50
  go_wp2
  go_ret
  exact ⟨by first | rfl | (simp; done) | (simp [*]; done), by repeat (first | exact Drawn0.refl _ | apply Drawn0.step)⟩
 ·rw [if_neg c2] at H
  have c2b0 : decide (48 ≤ a0) = false := decide_eq_false c2
  clear c2
  obtain rfl := Option.some.inj H
  go_enter Try.func50, Try.ntmps50
  go_wp2
  go_ret
  exact ⟨by first | rfl | (simp; done) | (simp [*]; done), by repeat (first | exact Drawn0.refl _ | apply Drawn0.step)⟩

/-! ### sieveref04_Value: function 69 -/
def sieveref04_Value.j0 : Nat → Int → Bool → Option (Int)
 | 0, _, _ => none
 | k + 1, x0, x9 => if x9 = true then (some (wrap64 ((wrap64 (wrap32 (x0 - 97))) + 10))) else (if x0 ≥ 65 then (if x0 ≤ 70 then (some (wrap64 ((wrap64 (wrap32 (x0 - 65))) + 10))) else (some (-1))) else (some (-1)))
def sieveref04_Value.f (k : Nat) (a0 : Int) : Option (Int) := (sieveref04_Digit.f a0).bind fun t123 => (if t123 = true then (some (wrap64 (wrap32 (a0 - 48)))) else (if a0 ≥ 97 then (sieveref04_Value.j0 k a0 (decide (a0 ≤ 102))) else (sieveref04_Value.j0 k a0 false)))
theorem sieveref04_Value.mono_l : ∀ k, (∀ y0 y1, LeO (sieveref04_Value.j0 k y0 y1) (sieveref04_Value.j0 (k + 1) y0 y1))
 | 0 => fun _ _ r h => by simp [sieveref04_Value.j0] at h
 | k + 1 => by
  have ih0 := sieveref04_Value.mono_l k
  ·intro y0 y1
   unfold sieveref04_Value.j0
   repeat' first
   | (with_reducible exact ih0 _ _)
   | (with_reducible exact LeO.refl _)
   | (with_reducible exact LeO.none _)
   | (with_reducible refine LeO.ite ?_ ?_)
   | (with_reducible refine LeO.bind ?_ (fun _ => ?_))
   | exact ih0 _ _
   | exact LeO.none _
   | refine LeO.ite ?_ ?_
   | refine LeO.bind ?_ (fun _ => ?_)
theorem sieveref04_Value.mono : ∀ a0 k, LeO (sieveref04_Value.f k a0) (sieveref04_Value.f (k + 1) a0) := by
 intro a0 k
 have ih0 := sieveref04_Value.mono_l k
 unfold sieveref04_Value.f
 repeat' first
   | (with_reducible exact ih0 _ _)
   | (with_reducible exact LeO.refl _)
   | (with_reducible exact LeO.none _)
   | (with_reducible refine LeO.ite ?_ ?_)
   | (with_reducible refine LeO.bind ?_ (fun _ => ?_))
   | exact ih0 _ _
   | exact LeO.none _
   | refine LeO.ite ?_ ?_
   | refine LeO.bind ?_ (fun _ => ?_)
set_option maxHeartbeats 8000000 in
set_option maxRecDepth 100000 in
theorem sieveref04_Value.calls (k : Nat) (a0 : Int) (r : Int) (w : World) (h : sieveref04_Value.f k a0 = some r) :
  Calls Try.prog 69 #[.int .i32 a0] w fun e w' => e = .returned (.int .i64 r) ∧ Drawn0 w w' := by
 have H : ((sieveref04_Digit.f a0).bind fun t123 => (if t123 = true then (some (wrap64 (wrap32 (a0 - 48)))) else (if a0 ≥ 97 then (sieveref04_Value.j0 k a0 (decide (a0 ≤ 102))) else (sieveref04_Value.j0 k a0 false)))) = some r := h
 clear h
 replace H := Option.bind_eq_some_iff.mp H
 obtain ⟨t123, A20, H⟩ := H
 replace H : (if t123 = true then (some (wrap64 (wrap32 (a0 - 48)))) else (if a0 ≥ 97 then (sieveref04_Value.j0 k a0 (decide (a0 ≤ 102))) else (sieveref04_Value.j0 k a0 false))) = some r := H
 have A2 := Aside0.mk A20
 clear A20
 by_cases c3 : t123 = true
 ·subst c3
  have H1 : (some (wrap64 (wrap32 (a0 - 48)))) = some r := by rw [if_pos rfl] at H; exact H
  clear H
  have H := H1
  clear H1
  obtain rfl := Option.some.inj H
  go_enter Try.func69, Try.ntmps69
  go_wp2_with (first | ((with_reducible refine gate_callee (f := 50) rfl ?_); refine goesL_ (some 5) rfl rfl Try.func50 (by kernel_rfl) rfl #[.int .i32 a0] rfl (by (try simp only [List.map_toArray, List.map_cons, List.map_nil]); first | done | rfl | (simp only [List.length_drop, List.length_take]; rfl) | (simp [*] <;> rfl)) ?_; (with_reducible refine (sieveref04_Digit.calls a0 true _ A2.out).mono ?_); rintro e w' ⟨rfl, ⟨nd, rfl⟩⟩; refine ⟨_, rfl, ?_⟩))
  go_ret
  exact ⟨by first | rfl | (simp; done) | (simp [*]; done), by repeat (first | exact Drawn0.refl _ | apply Drawn0.step)⟩
 ·replace c3 := Bool.eq_false_iff.mpr c3
  subst c3
  have H1 : (if a0 ≥ 97 then (sieveref04_Value.j0 k a0 (decide (a0 ≤ 102))) else (sieveref04_Value.j0 k a0 false)) = some r := by rw [if_neg (show ¬ (false = true) by decide)] at H; exact H
  clear H
  have H := H1
  clear H1
  have HC4 := Aside0.mk H
  clear H
  go_enter Try.func69, Try.ntmps69
  go_upto_region 3 with (first | ((with_reducible refine gate_callee (f := 50) rfl ?_); refine goesL_ (some 5) rfl rfl Try.func50 (by kernel_rfl) rfl #[.int .i32 a0] rfl (by (try simp only [List.map_toArray, List.map_cons, List.map_nil]); first | done | rfl | (simp only [List.length_drop, List.length_take]; rfl) | (simp [*] <;> rfl)) ?_; (with_reducible refine (sieveref04_Digit.calls a0 false _ A2.out).mono ?_); rintro e w' ⟨rfl, ⟨nd, rfl⟩⟩; refine ⟨_, rfl, ?_⟩))
  (try simp only [Act.put, List.setIfInBounds_toArray, List.set_cons_zero, List.set_cons_succ])
  go_cut [9] (fun v9 wc => ∃ (kq : Nat) (x9_3 : Bool), v9 = .bool x9_3 ∧ Aside0 (sieveref04_Value.j0 kq a0 x9_3 = some r) ∧ Aside0 (kq ≤ k) ∧ Drawn0 w wc)
  case first =>
   have H := HC4.out
   clear HC4
   by_cases c5 : a0 ≥ 97
   ·rw [if_pos c5] at H
    have c5b0 : decide (97 ≤ a0) = true := decide_eq_true c5
    clear c5
    (first | rw [c5b0] | (simp only [i64_w, i32_w]; rw [c5b0]) | skip)
    have H' := Aside0.mk H
    clear H
    go_wp2
    go_meet
    case rel => exact ⟨_, (decide (a0 ≤ 102)), (by first | rfl | (simp; done) | (simp [*]; done) | (unfold bt; split <;> first | rfl | (exfalso; simp_all; done) | (exfalso; simp_all; omega))), H', ⟨by first | omega | exact Nat.le_refl _⟩, by repeat (first | exact Drawn0.refl _ | apply Drawn0.step)⟩
   ·rw [if_neg c5] at H
    have c5b0 : decide (97 ≤ a0) = false := decide_eq_false c5
    clear c5
    (first | rw [c5b0] | (simp only [i64_w, i32_w]; rw [c5b0]) | skip)
    have H' := Aside0.mk H
    clear H
    go_wp2
    go_meet
    case rel => exact ⟨_, (false), (by first | rfl | (simp; done) | (simp [*]; done) | (unfold bt; split <;> first | rfl | (exfalso; simp_all; done) | (exfalso; simp_all; omega))), H', ⟨by first | omega | exact Nat.le_refl _⟩, by repeat (first | exact Drawn0.refl _ | apply Drawn0.step)⟩
  case rest =>
   clear HC4
   try clear p2
   try clear c3
   try clear p3
   try clear c5
   try clear c5b0
   obtain ⟨kq, x9_3, rfl, HA, HJ3, ⟨mc3, rfl⟩⟩ := hcut
   cases kq with
   | zero => exact absurd HA.out (by simp [sieveref04_Value.j0])
   | succ kj3 =>
    have H := HA.out
    clear HA
    simp only [sieveref04_Value.j0] at H
    by_cases c6 : x9_3 = true
    ·subst c6
     have H1 : (some (wrap64 ((wrap64 (wrap32 (a0 - 97))) + 10))) = some r := by rw [if_pos rfl] at H; exact H
     clear H
     have H := H1
     clear H1
     obtain rfl := Option.some.inj H
     go_wp2
     go_ret
     exact ⟨by first | rfl | (simp; done) | (simp [*]; done), by repeat (first | exact Drawn0.refl _ | apply Drawn0.step)⟩
    ·replace c6 := Bool.eq_false_iff.mpr c6
     subst c6
     have H1 : (if a0 ≥ 65 then (if a0 ≤ 70 then (some (wrap64 ((wrap64 (wrap32 (a0 - 65))) + 10))) else (some (-1))) else (some (-1))) = some r := by rw [if_neg (show ¬ (false = true) by decide)] at H; exact H
     clear H
     have H := H1
     clear H1
     by_cases c7 : a0 ≥ 65
     ·rw [if_pos c7] at H
      have c7b0 : decide (65 ≤ a0) = true := decide_eq_true c7
      clear c7
      by_cases c8 : a0 ≤ 70
      ·rw [if_pos c8] at H
       have c8b0 : decide (a0 ≤ 70) = true := decide_eq_true c8
       clear c8
       obtain rfl := Option.some.inj H
       go_wp2
       go_ret
       exact ⟨by first | rfl | (simp; done) | (simp [*]; done), by repeat (first | exact Drawn0.refl _ | apply Drawn0.step)⟩
      ·rw [if_neg c8] at H
       have c8b0 : decide (a0 ≤ 70) = false := decide_eq_false c8
       clear c8
       obtain rfl := Option.some.inj H
       go_wp2
       go_ret
       exact ⟨by first | rfl | (simp; done) | (simp [*]; done), by repeat (first | exact Drawn0.refl _ | apply Drawn0.step)⟩
     ·rw [if_neg c7] at H
      have c7b0 : decide (65 ≤ a0) = false := decide_eq_false c7
      clear c7
      obtain rfl := Option.some.inj H
      go_wp2
      go_ret
      exact ⟨by first | rfl | (simp; done) | (simp [*]; done), by repeat (first | exact Drawn0.refl _ | apply Drawn0.step)⟩

/-! ### sieveref04_Hex: function 65 -/
def sieveref04_Hex.f (k : Nat) (a0 : Int) : Option (Bool) := (sieveref04_Value.f k a0).bind fun t124 => (some (decide (t124 ≥ 0)))
theorem sieveref04_Hex.mono : ∀ a0 k, LeO (sieveref04_Hex.f k a0) (sieveref04_Hex.f (k + 1) a0) := by
 intro a0 k
 unfold sieveref04_Hex.f
 repeat' first
   | (with_reducible exact sieveref04_Value.mono _ _)
   | (with_reducible exact LeO.refl _)
   | (with_reducible exact LeO.none _)
   | (with_reducible refine LeO.ite ?_ ?_)
   | (with_reducible refine LeO.bind ?_ (fun _ => ?_))
   | exact sieveref04_Value.mono _ _
   | exact LeO.none _
   | refine LeO.ite ?_ ?_
   | refine LeO.bind ?_ (fun _ => ?_)
set_option maxHeartbeats 8000000 in
set_option maxRecDepth 100000 in
theorem sieveref04_Hex.calls (k : Nat) (a0 : Int) (r : Bool) (w : World) (h : sieveref04_Hex.f k a0 = some r) :
  Calls Try.prog 65 #[.int .i32 a0] w fun e w' => e = .returned (.bool r) ∧ Drawn0 w w' := by
 have H : ((sieveref04_Value.f k a0).bind fun t124 => (some (decide (t124 ≥ 0)))) = some r := h
 clear h
 replace H := Option.bind_eq_some_iff.mp H
 obtain ⟨t124, A20, H⟩ := H
 replace H : (some (decide (t124 ≥ 0))) = some r := H
 have A2 := Aside0.mk A20
 clear A20
 obtain rfl := Option.some.inj H
 go_enter Try.func65, Try.ntmps65
 go_wp2_with (first | ((with_reducible refine gate_callee (f := 69) rfl ?_); refine goesL_ (some 4) rfl rfl Try.func69 (by kernel_rfl) rfl #[.int .i32 a0] rfl (by (try simp only [List.map_toArray, List.map_cons, List.map_nil]); first | done | rfl | (simp only [List.length_drop, List.length_take]; rfl) | (simp [*] <;> rfl)) ?_; (with_reducible refine (sieveref04_Value.calls k a0 t124 _ A2.out).mono ?_); rintro e w' ⟨rfl, ⟨nd, rfl⟩⟩; refine ⟨_, rfl, ?_⟩))
 go_ret
 exact ⟨by first | rfl | (simp; done) | (simp [*]; done), by repeat (first | exact Drawn0.refl _ | apply Drawn0.step)⟩

/-! ### sieveref06_digitsOf: function 45 -/
def sieveref06_digitsOf.l0 : Nat → ByteArray → Bool → Int → Option (ByteArray)
 | 0, _, _, _ => none
 | k + 1, x0, x1, x5 => if x5 < (x0.size : Int) then (if 0 ≤ x5 then ((sieveref04_Digit.f (wrap32 (bt x0 x5))).bind fun t125 => (if t125 = true then (sieveref06_digitsOf.l0 k x0 x1 (wrap64 (x5 + 1))) else (if x1 = true then ((sieveref04_Hex.f k (wrap32 (bt x0 x5))).bind fun t126 => (if t126 = true then (sieveref06_digitsOf.l0 k x0 x1 (wrap64 (x5 + 1))) else (if x5 ≤ (x0.size : Int) then (some (x0.extract 0 (x5 : Int).toNat)) else (none)))) else (if x5 ≤ (x0.size : Int) then (some (x0.extract 0 (x5 : Int).toNat)) else (none))))) else (none)) else (if 0 ≤ x5 then (if x5 ≤ (x0.size : Int) then (some (x0.extract 0 (x5 : Int).toNat)) else (none)) else (none))
def sieveref06_digitsOf.f (k : Nat) (a0 : ByteArray) (a1 : Bool) : Option (ByteArray) := sieveref06_digitsOf.l0 k a0 a1 0
theorem sieveref06_digitsOf.mono_l : ∀ k, (∀ y0 y1 y2, LeO (sieveref06_digitsOf.l0 k y0 y1 y2) (sieveref06_digitsOf.l0 (k + 1) y0 y1 y2))
 | 0 => fun _ _ _ r h => by simp [sieveref06_digitsOf.l0] at h
 | k + 1 => by
  have ih0 := sieveref06_digitsOf.mono_l k
  ·intro y0 y1 y2
   unfold sieveref06_digitsOf.l0
   repeat' first
   | (with_reducible exact ih0 _ _ _)
   | (with_reducible exact sieveref04_Hex.mono _ _)
   | (with_reducible exact LeO.refl _)
   | (with_reducible exact LeO.none _)
   | (with_reducible refine LeO.ite ?_ ?_)
   | (with_reducible refine LeO.bind ?_ (fun _ => ?_))
   | exact ih0 _ _ _
   | exact sieveref04_Hex.mono _ _
   | exact LeO.none _
   | refine LeO.ite ?_ ?_
   | refine LeO.bind ?_ (fun _ => ?_)
theorem sieveref06_digitsOf.mono : ∀ a0 a1 k, LeO (sieveref06_digitsOf.f k a0 a1) (sieveref06_digitsOf.f (k + 1) a0 a1) := by
 intro a0 a1 k
 have ih0 := sieveref06_digitsOf.mono_l k
 unfold sieveref06_digitsOf.f
 repeat' first
   | (with_reducible exact ih0 _ _ _)
   | (with_reducible exact sieveref04_Hex.mono _ _)
   | (with_reducible exact LeO.refl _)
   | (with_reducible exact LeO.none _)
   | (with_reducible refine LeO.ite ?_ ?_)
   | (with_reducible refine LeO.bind ?_ (fun _ => ?_))
   | exact ih0 _ _ _
   | exact sieveref04_Hex.mono _ _
   | exact LeO.none _
   | refine LeO.ite ?_ ?_
   | refine LeO.bind ?_ (fun _ => ?_)
set_option maxHeartbeats 8000000 in
set_option maxRecDepth 100000 in
theorem sieveref06_digitsOf.calls (k : Nat) (a0 : ByteArray) (a1 : Bool) (r : ByteArray) (w : World) (h : sieveref06_digitsOf.f k a0 a1 = some r) :
  Calls Try.prog 45 #[.string a0, .bool a1] w fun e w' => e = .returned (.string r) ∧ Drawn0 w w' := by
 have H : (sieveref06_digitsOf.l0 k a0 a1 0) = some r := h
 clear h
 have H' := Aside0.mk H
 clear H
 go_enter Try.func45, Try.ntmps45
 go_wp2
 go_loopg [5] k (fun kq v5 w' => ∃ (x5_1 : Int), v5 = .int .i64 x5_1 ∧ Aside0 (sieveref06_digitsOf.l0 kq a0 a1 x5_1 = some r) ∧ Aside0 (kq ≤ k) ∧ Drawn0 w w')
 case atStart => exact ⟨(0), (by first | rfl | (simp; done) | (simp [*]; done) | (unfold bt; split <;> first | rfl | (exfalso; simp_all; done) | (exfalso; simp_all; omega))), H', ⟨Nat.le_refl _⟩, by repeat (first | exact Drawn0.refl _ | apply Drawn0.step)⟩
 case round =>
  clear H'
  try clear p2
  obtain ⟨x5_1, rfl, HA, HK1, ⟨m1, rfl⟩⟩ := hrel
  cases gk with
  | zero => exact absurd HA.out (by simp [sieveref06_digitsOf.l0])
  | succ k1 =>
   have H := HA.out
   clear HA
   simp only [sieveref06_digitsOf.l0] at H
   by_cases c3 : x5_1 < (a0.size : Int)
   ·rw [if_pos c3] at H
    have c3b0 : decide (x5_1 < (a0.size : Int)) = true := decide_eq_true c3
    clear c3
    by_cases c4 : 0 ≤ x5_1
    ·rw [if_pos c4] at H
     have c4b0 : decide (0 ≤ x5_1) = true := decide_eq_true c4
     clear c4
     replace H := Option.bind_eq_some_iff.mp H
     obtain ⟨t125, A60, H⟩ := H
     replace H : (if t125 = true then (sieveref06_digitsOf.l0 k1 a0 a1 (wrap64 (x5_1 + 1))) else (if a1 = true then ((sieveref04_Hex.f k1 (wrap32 (bt a0 x5_1))).bind fun t126 => (if t126 = true then (sieveref06_digitsOf.l0 k1 a0 a1 (wrap64 (x5_1 + 1))) else (if x5_1 ≤ (a0.size : Int) then (some (a0.extract 0 (x5_1 : Int).toNat)) else (none)))) else (if x5_1 ≤ (a0.size : Int) then (some (a0.extract 0 (x5_1 : Int).toNat)) else (none)))) = some r := H
     have A6 := Aside0.mk A60
     clear A60
     by_cases c7 : t125 = true
     ·subst c7
      have H1 : (sieveref06_digitsOf.l0 k1 a0 a1 (wrap64 (x5_1 + 1))) = some r := by rw [if_pos rfl] at H; exact H
      clear H
      have H := H1
      clear H1
      have H' := Aside0.mk H
      clear H
      have p5 : 0 ≤ (x5_1 : Int) := of_decide_eq_true (by first | (with_reducible assumption) | assumption)
      have q5 : x5_1 < (a0.size : Int) := of_decide_eq_true (by first | (with_reducible assumption) | assumption)
      have hx5 := bt_at a0 x5_1
      replace p5 := eq_true p5
      replace q5 := eq_true q5
      go_wp2_with (first | (go_at_call 50; (with_reducible refine (sieveref04_Digit.calls (wrap32 (bt a0 x5_1)) true _ A6.out).mono ?_); rintro e w' ⟨rfl, ⟨nd, rfl⟩⟩))
      go_roundg k1
      case measure => have := HK1.out; omega
      case rel => exact ⟨(wrap64 (x5_1 + 1)), (by first | rfl | (simp; done) | (simp [*]; done) | (unfold bt; split <;> first | rfl | (exfalso; simp_all; done) | (exfalso; simp_all; omega))), H', ⟨by have := HK1.out; omega⟩, by repeat (first | exact Drawn0.refl _ | apply Drawn0.step)⟩
     ·replace c7 := Bool.eq_false_iff.mpr c7
      subst c7
      have H1 : (if a1 = true then ((sieveref04_Hex.f k1 (wrap32 (bt a0 x5_1))).bind fun t126 => (if t126 = true then (sieveref06_digitsOf.l0 k1 a0 a1 (wrap64 (x5_1 + 1))) else (if x5_1 ≤ (a0.size : Int) then (some (a0.extract 0 (x5_1 : Int).toNat)) else (none)))) else (if x5_1 ≤ (a0.size : Int) then (some (a0.extract 0 (x5_1 : Int).toNat)) else (none))) = some r := by rw [if_neg (show ¬ (false = true) by decide)] at H; exact H
      clear H
      have H := H1
      clear H1
      by_cases c8 : a1 = true
      ·subst c8
       have H1 : ((sieveref04_Hex.f k1 (wrap32 (bt a0 x5_1))).bind fun t126 => (if t126 = true then (sieveref06_digitsOf.l0 k1 a0 true (wrap64 (x5_1 + 1))) else (if x5_1 ≤ (a0.size : Int) then (some (a0.extract 0 (x5_1 : Int).toNat)) else (none)))) = some r := by rw [if_pos rfl] at H; exact H
       clear H
       have H := H1
       clear H1
       replace H := Option.bind_eq_some_iff.mp H
       obtain ⟨t126, A100, H⟩ := H
       replace H : (if t126 = true then (sieveref06_digitsOf.l0 k1 a0 true (wrap64 (x5_1 + 1))) else (if x5_1 ≤ (a0.size : Int) then (some (a0.extract 0 (x5_1 : Int).toNat)) else (none))) = some r := H
       have A10 := Aside0.mk A100
       clear A100
       by_cases c11 : t126 = true
       ·subst c11
        have H1 : (sieveref06_digitsOf.l0 k1 a0 true (wrap64 (x5_1 + 1))) = some r := by rw [if_pos rfl] at H; exact H
        clear H
        have H := H1
        clear H1
        have H' := Aside0.mk H
        clear H
        have p5 : 0 ≤ (x5_1 : Int) := of_decide_eq_true (by first | (with_reducible assumption) | assumption)
        have q5 : x5_1 < (a0.size : Int) := of_decide_eq_true (by first | (with_reducible assumption) | assumption)
        have hx5 := bt_at a0 x5_1
        replace p5 := eq_true p5
        replace q5 := eq_true q5
        go_wp2_with (first | (go_at_call 50; (with_reducible refine (sieveref04_Digit.calls (wrap32 (bt a0 x5_1)) false _ A6.out).mono ?_); rintro e w' ⟨rfl, ⟨nd, rfl⟩⟩; have p9 : 0 ≤ (x5_1 : Int) := of_decide_eq_true (by first | (with_reducible assumption) | assumption); have q9 : x5_1 < (a0.size : Int) := of_decide_eq_true (by first | (with_reducible assumption) | assumption); have hx9 := bt_at a0 x5_1; replace p9 := eq_true p9; replace q9 := eq_true q9) | (go_at_call 65; (with_reducible refine (sieveref04_Hex.calls k1 (wrap32 (bt a0 x5_1)) true _ A10.out).mono ?_); rintro e w' ⟨rfl, ⟨nd, rfl⟩⟩))
        go_roundg k1
        case measure => have := HK1.out; omega
        case rel => exact ⟨(wrap64 (x5_1 + 1)), (by first | rfl | (simp; done) | (simp [*]; done) | (unfold bt; split <;> first | rfl | (exfalso; simp_all; done) | (exfalso; simp_all; omega))), H', ⟨by have := HK1.out; omega⟩, by repeat (first | exact Drawn0.refl _ | apply Drawn0.step)⟩
       ·replace c11 := Bool.eq_false_iff.mpr c11
        subst c11
        have H1 : (if x5_1 ≤ (a0.size : Int) then (some (a0.extract 0 (x5_1 : Int).toNat)) else (none)) = some r := by rw [if_neg (show ¬ (false = true) by decide)] at H; exact H
        clear H
        have H := H1
        clear H1
        have c12b0 := eq_true (of_decide_eq_true (by first | (with_reducible assumption) | assumption) : 0 ≤ x5_1)
        by_cases c13 : x5_1 ≤ (a0.size : Int)
        ·rw [if_pos c13] at H
         have c13b0 := eq_true c13
         have c13b1 : decide (x5_1 ≤ (a0.size : Int)) = true := decide_eq_true c13
         clear c13
         obtain rfl := Option.some.inj H
         have p5 : 0 ≤ (x5_1 : Int) := of_decide_eq_true (by first | (with_reducible assumption) | assumption)
         have q5 : x5_1 < (a0.size : Int) := of_decide_eq_true (by first | (with_reducible assumption) | assumption)
         have hx5 := bt_at a0 x5_1
         replace p5 := eq_true p5
         replace q5 := eq_true q5
         go_wp2_with (first | (go_at_call 50; (with_reducible refine (sieveref04_Digit.calls (wrap32 (bt a0 x5_1)) false _ A6.out).mono ?_); rintro e w' ⟨rfl, ⟨nd, rfl⟩⟩; have p9 : 0 ≤ (x5_1 : Int) := of_decide_eq_true (by first | (with_reducible assumption) | assumption); have q9 : x5_1 < (a0.size : Int) := of_decide_eq_true (by first | (with_reducible assumption) | assumption); have hx9 := bt_at a0 x5_1; replace p9 := eq_true p9; replace q9 := eq_true q9) | (go_at_call 65; (with_reducible refine (sieveref04_Hex.calls k1 (wrap32 (bt a0 x5_1)) false _ A10.out).mono ?_); rintro e w' ⟨rfl, ⟨nd, rfl⟩⟩))
         go_ret
         exact ⟨by first | rfl | (simp; done) | (simp [*]; done), by repeat (first | exact Drawn0.refl _ | apply Drawn0.step)⟩
        ·rw [if_neg c13] at H
         exact absurd H (by simp)
      ·replace c8 := Bool.eq_false_iff.mpr c8
       subst c8
       have H1 : (if x5_1 ≤ (a0.size : Int) then (some (a0.extract 0 (x5_1 : Int).toNat)) else (none)) = some r := by rw [if_neg (show ¬ (false = true) by decide)] at H; exact H
       clear H
       have H := H1
       clear H1
       have c14b0 := eq_true (of_decide_eq_true (by first | (with_reducible assumption) | assumption) : 0 ≤ x5_1)
       by_cases c15 : x5_1 ≤ (a0.size : Int)
       ·rw [if_pos c15] at H
        have c15b0 := eq_true c15
        have c15b1 : decide (x5_1 ≤ (a0.size : Int)) = true := decide_eq_true c15
        clear c15
        obtain rfl := Option.some.inj H
        have p5 : 0 ≤ (x5_1 : Int) := of_decide_eq_true (by first | (with_reducible assumption) | assumption)
        have q5 : x5_1 < (a0.size : Int) := of_decide_eq_true (by first | (with_reducible assumption) | assumption)
        have hx5 := bt_at a0 x5_1
        replace p5 := eq_true p5
        replace q5 := eq_true q5
        go_wp2_with (first | (go_at_call 50; (with_reducible refine (sieveref04_Digit.calls (wrap32 (bt a0 x5_1)) false _ A6.out).mono ?_); rintro e w' ⟨rfl, ⟨nd, rfl⟩⟩))
        go_ret
        exact ⟨by first | rfl | (simp; done) | (simp [*]; done), by repeat (first | exact Drawn0.refl _ | apply Drawn0.step)⟩
       ·rw [if_neg c15] at H
        exact absurd H (by simp)
    ·rw [if_neg c4] at H
     exact absurd H (by simp)
   ·rw [if_neg c3] at H
    have c3b0 : decide (x5_1 < (a0.size : Int)) = false := decide_eq_false c3
    clear c3
    by_cases c16 : 0 ≤ x5_1
    ·rw [if_pos c16] at H
     have c16b0 := eq_true c16
     have c16b1 : decide (0 ≤ x5_1) = true := decide_eq_true c16
     clear c16
     by_cases c17 : x5_1 ≤ (a0.size : Int)
     ·rw [if_pos c17] at H
      have c17b0 := eq_true c17
      have c17b1 : decide (x5_1 ≤ (a0.size : Int)) = true := decide_eq_true c17
      clear c17
      obtain rfl := Option.some.inj H
      go_wp2
      go_ret
      exact ⟨by first | rfl | (simp; done) | (simp [*]; done), by repeat (first | exact Drawn0.refl _ | apply Drawn0.step)⟩
     ·rw [if_neg c17] at H
      exact absurd H (by simp)
    ·rw [if_neg c16] at H
     exact absurd H (by simp)

/-! ### sieveref05_Prefix: function 67 -/
def sieveref05_Prefix.f (a0 : ByteArray) (a1 : ByteArray) : Option (Bool) := if (a0.size : Int) ≥ (a1.size : Int) then (if 0 ≤ (a1.size : Int) then (if (a1.size : Int) ≤ (a0.size : Int) then (some ((a0.extract 0 ((a1.size : Int) : Int).toNat).toList == a1.toList)) else (none)) else (none)) else (some false)
set_option maxHeartbeats 8000000 in
set_option maxRecDepth 100000 in
theorem sieveref05_Prefix.calls (a0 : ByteArray) (a1 : ByteArray) (r : Bool) (w : World) (h : sieveref05_Prefix.f a0 a1 = some r) :
  Calls Try.prog 67 #[.string a0, .string a1] w fun e w' => e = .returned (.bool r) ∧ Drawn0 w w' := by
 have H : (if (a0.size : Int) ≥ (a1.size : Int) then (if 0 ≤ (a1.size : Int) then (if (a1.size : Int) ≤ (a0.size : Int) then (some ((a0.extract 0 ((a1.size : Int) : Int).toNat).toList == a1.toList)) else (none)) else (none)) else (some false)) = some r := h
 clear h
 by_cases c3 : (a0.size : Int) ≥ (a1.size : Int)
 ·rw [if_pos c3] at H
  have c3b0 : decide ((a1.size : Int) ≤ (a0.size : Int)) = true := decide_eq_true c3
  have c3b1 : decide (a1.size ≤ a0.size) = true := decide_eq_true (Int.ofNat_le.mp c3)
  clear c3
  by_cases c4 : 0 ≤ (a1.size : Int)
  ·rw [if_pos c4] at H
   have c4b0 := eq_true c4
   have c4b1 : decide (0 ≤ (a1.size : Int)) = true := decide_eq_true c4
   clear c4
   by_cases c5 : (a1.size : Int) ≤ (a0.size : Int)
   ·rw [if_pos c5] at H
    have c5b0 := eq_true c5
    have c5b1 : decide ((a1.size : Int) ≤ (a0.size : Int)) = true := decide_eq_true c5
    clear c5
    obtain rfl := Option.some.inj H
    go_enter Try.func67, Try.ntmps67
    go_wp2
    go_ret
    exact ⟨by first | rfl | (simp; done) | (simp [*]; done), by repeat (first | exact Drawn0.refl _ | apply Drawn0.step)⟩
   ·rw [if_neg c5] at H
    exact absurd H (by simp)
  ·rw [if_neg c4] at H
   exact absurd H (by simp)
 ·rw [if_neg c3] at H
  have c3b0 : decide ((a1.size : Int) ≤ (a0.size : Int)) = false := decide_eq_false c3
  have c3b1 : decide (a1.size ≤ a0.size) = false := decide_eq_false (fun h => c3 (Int.ofNat_le.mpr h))
  clear c3
  obtain rfl := Option.some.inj H
  go_enter Try.func67, Try.ntmps67
  go_wp2
  go_ret
  exact ⟨by first | rfl | (simp; done) | (simp [*]; done), by repeat (first | exact Drawn0.refl _ | apply Drawn0.step)⟩

/-! ### sieveref05_says: function 68 -/
def sieveref05_says.f (a0_0 : ByteArray) (a0_1 : Int) (a0_2 : Int) (a0_3 : Bool) : Option (List Int) := if a0_2 = 0 then (some (([a0_1] : List Int))) else (some (([a0_1, a0_2] : List Int)))
set_option maxHeartbeats 8000000 in
set_option maxRecDepth 100000 in
theorem sieveref05_says.calls (a0_0 : ByteArray) (a0_1 : Int) (a0_2 : Int) (a0_3 : Bool) (r : List Int) (w : World) (h : sieveref05_says.f a0_0 a0_1 a0_2 a0_3 = some r) :
  Calls Try.prog 68 #[.agg #[.string a0_0, .int .i32 a0_1, .int .i32 a0_2, .bool a0_3]] w fun e w' => ∃ v0_ : Value, e = .returned (v0_) ∧ Kd.R (Kd.int .i32) 21 w' w.heap.size (fun _ => True) v0_ r ∧ Below w.heap.size w w' := by
 have hu98 := Try.underlying98
 have HB := Aside0.mk (Below.refl w.heap.size w)
 have H : (if a0_2 = 0 then (some (([a0_1] : List Int))) else (some (([a0_1, a0_2] : List Int)))) = some r := h
 clear h
 by_cases c2 : a0_2 = 0
 ·rw [if_pos c2] at H
  have c2b0 : (a0_2 == 0) = true := beq_iff_eq.mpr c2
  have c2b1 : (a0_2 != 0) = false := bne_eq_false_iff_eq.mpr c2
  clear c2
  obtain ⟨y128, hy128⟩ : ∃ y_ : List Int, y_ = (([a0_1] : List Int)) := ⟨_, rfl⟩
  replace H : (some y128) = some r := by first | (rw [hy128]; with_reducible exact H) | (have H2_ := (Option.bind_some _ _).symm.trans H; rw [hy128]; with_reducible exact H2_) | (have H2_ := (Option.bind_some _ _).symm.trans H; with_reducible exact H2_) | with_reducible exact H | (rw [hy128]; exact H) | exact H
  have Ny128 := Aside0.mk hy128
  clear hy128
  obtain rfl := Option.some.inj H
  go_enter Try.func68, Try.ntmps68
  go_wp2_with (first | ((with_reducible refine gate_dst (N := 1) rfl ?_); refine box_event ?hg (N := 1) ?hd (cs := #[.string a0_0, .int .i32 a0_1, .int .i32 a0_2, .bool a0_3]) (t := 98) ?hr ?_; (case hd => rfl); (case hg => rfl); (case hr => first | (go_simp; done) | (go_simp; rfl)); intro gb127 hg w3 hbox hb; have n0_ := Aside0.mk (below_step (by repeat (first | (with_reducible first | exact HB.out | apply below_alloc | apply pw_below_drewN | apply below_drew1) | exact HB.out)) hb); have n1_ := Aside0.mk (hbox); have n2_ := Aside0.mk ((by rw [hg]; exact (below_size (by repeat (first | (with_reducible first | exact HB.out | apply below_alloc | apply pw_below_drewN | apply below_drew1) | exact HB.out))) : w.heap.size ≤ gb127)); have n3_ := Aside0.mk ((by rw [hg]; exact (below_size (by repeat (first | (with_reducible first | exact HB.out | apply below_alloc | apply pw_below_drewN | apply below_drew1) | exact HB.out))) : w.heap.size ≤ gb127)); clear HB; have HB := n0_; have BK127 := n1_; have GW127 := n2_; have GE127 := n3_; clear n0_ n1_ n2_ n3_; clear hb hbox hg; have hcz4_0 : w3.cell? ⟨gb127, 0, none⟩ = some (.string a0_0) := (blk_cell BK127.out 0).trans rfl; have hcz4_1 : w3.cell? ⟨gb127, 1, none⟩ = some (.int .i32 a0_1) := (blk_cell BK127.out 1).trans rfl; have hcz4_2 : w3.cell? ⟨gb127, 2, none⟩ = some (.int .i32 a0_2) := (blk_cell BK127.out 2).trans rfl; have hcz4_3 : w3.cell? ⟨gb127, 3, none⟩ = some (.bool a0_3) := (blk_cell BK127.out 3).trans rfl; have hfz4_0 := blk_frozen BK127.out 0; have hfz4_1 := blk_frozen BK127.out 1; have hfz4_2 := blk_frozen BK127.out 2; have hfz4_3 := blk_frozen BK127.out 3) | ((with_reducible refine gate_dst (N := 13) rfl ?_); refine Kd.R_lit (Kd.int .i32) _ 21 ?hg (N := 13) ?hd (xs := ([a0_1] : List Int)) (inner := [.int .i32 a0_1]) (ok := fun _ => True) (okp := fun _ => True) ?hr ?hp (fun _ hk => hk) trivial (Below.refl _ _) (Nat.le_refl _) (by simp) ?_; (case hd => rfl); (case hg => rfl); (case hr => first | (go_simp; done) | (go_simp; rfl)); (case hp => exact (Reps.one (show Kd.M (Kd.int .i32) _ _ _ a0_1 [.int .i32 a0_1] from rfl) (Reps.none _ _))); intro v129 w5 ho6 hb hg_ hnew_; clear hg_ hnew_; (first | rw [← Ny128.out] at ho6 | (simp only [Int.reduceToNat] at ho6; rw [← Ny128.out] at ho6)); have n0_ := Aside0.mk (Kd.R_lower ho6 (below_size (by repeat (first | (with_reducible first | exact HB.out | apply below_alloc | apply pw_below_drewN | apply below_drew1 | refine below_set ?_ GE127.out) | exact HB.out)))); have n1_ := Aside0.mk (blk_below (g := gb127) (o := .cells #[.string a0_0, .int .i32 a0_1, .int .i32 a0_2, .bool a0_3] 98 (0, 0)) (by (with_reducible repeat (first | refine blk_drewN ?_ _ | refine blk_drew ?_ | refine blk_alloc ?_ _)); exact BK127.out) hb); have n2_ := Aside0.mk (below_step (by repeat (first | (with_reducible first | exact HB.out | apply below_alloc | apply pw_below_drewN | apply below_drew1 | refine below_set ?_ GE127.out) | exact HB.out)) hb); clear BK127; clear HB; have HO130 := n0_; have BK127 := n1_; have HB := n2_; clear n0_ n1_ n2_; clear hb ho6))
  go_ret
  exact ⟨_, by first | rfl | (simp [errW_none, errW_some] <;> rfl) | (simp [*, errW_none, errW_some] <;> rfl), by (with_reducible repeat (first | apply Kd.R_alloc | apply Kd.R_drewN | apply Kd.R_drew)); exact HO130.out, by repeat (first | (with_reducible first | exact HB.out | apply below_alloc | apply pw_below_drewN | apply below_drew1 | refine below_set ?_ GE127.out) | exact HB.out)⟩
 ·rw [if_neg c2] at H
  have c2b0 : (a0_2 == 0) = false := beq_eq_false_iff_ne.mpr c2
  have c2b1 : (a0_2 != 0) = true := bne_iff_ne.mpr c2
  obtain ⟨y131, hy131⟩ : ∃ y_ : List Int, y_ = (([a0_1, a0_2] : List Int)) := ⟨_, rfl⟩
  replace H : (some y131) = some r := by first | (rw [hy131]; with_reducible exact H) | (have H2_ := (Option.bind_some _ _).symm.trans H; rw [hy131]; with_reducible exact H2_) | (have H2_ := (Option.bind_some _ _).symm.trans H; with_reducible exact H2_) | with_reducible exact H | (rw [hy131]; exact H) | exact H
  have Ny131 := Aside0.mk hy131
  clear hy131
  obtain rfl := Option.some.inj H
  go_enter Try.func68, Try.ntmps68
  go_wp2_with (first | ((with_reducible refine gate_dst (N := 1) rfl ?_); refine box_event ?hg (N := 1) ?hd (cs := #[.string a0_0, .int .i32 a0_1, .int .i32 a0_2, .bool a0_3]) (t := 98) ?hr ?_; (case hd => rfl); (case hg => rfl); (case hr => first | (go_simp; done) | (go_simp; rfl)); intro gb127 hg w7 hbox hb; have n0_ := Aside0.mk (below_step (by repeat (first | (with_reducible first | exact HB.out | apply below_alloc | apply pw_below_drewN | apply below_drew1) | exact HB.out)) hb); have n1_ := Aside0.mk (hbox); have n2_ := Aside0.mk ((by rw [hg]; exact (below_size (by repeat (first | (with_reducible first | exact HB.out | apply below_alloc | apply pw_below_drewN | apply below_drew1) | exact HB.out))) : w.heap.size ≤ gb127)); have n3_ := Aside0.mk ((by rw [hg]; exact (below_size (by repeat (first | (with_reducible first | exact HB.out | apply below_alloc | apply pw_below_drewN | apply below_drew1) | exact HB.out))) : w.heap.size ≤ gb127)); clear HB; have HB := n0_; have BK127 := n1_; have GW127 := n2_; have GE127 := n3_; clear n0_ n1_ n2_ n3_; clear hb hbox hg; have hcz8_0 : w7.cell? ⟨gb127, 0, none⟩ = some (.string a0_0) := (blk_cell BK127.out 0).trans rfl; have hcz8_1 : w7.cell? ⟨gb127, 1, none⟩ = some (.int .i32 a0_1) := (blk_cell BK127.out 1).trans rfl; have hcz8_2 : w7.cell? ⟨gb127, 2, none⟩ = some (.int .i32 a0_2) := (blk_cell BK127.out 2).trans rfl; have hcz8_3 : w7.cell? ⟨gb127, 3, none⟩ = some (.bool a0_3) := (blk_cell BK127.out 3).trans rfl; have hfz8_0 := blk_frozen BK127.out 0; have hfz8_1 := blk_frozen BK127.out 1; have hfz8_2 := blk_frozen BK127.out 2; have hfz8_3 := blk_frozen BK127.out 3) | ((with_reducible refine gate_dst (N := 10) rfl ?_); refine Kd.R_lit (Kd.int .i32) _ 21 ?hg (N := 10) ?hd (xs := ([a0_1, a0_2] : List Int)) (inner := [.int .i32 a0_1, .int .i32 a0_2]) (ok := fun _ => True) (okp := fun _ => True) ?hr ?hp (fun _ hk => hk) trivial (Below.refl _ _) (Nat.le_refl _) (by simp) ?_; (case hd => rfl); (case hg => rfl); (case hr => first | (go_simp; done) | (go_simp; rfl)); (case hp => exact (Reps.one (show Kd.M (Kd.int .i32) _ _ _ a0_1 [.int .i32 a0_1] from rfl) (Reps.one (show Kd.M (Kd.int .i32) _ _ _ a0_2 [.int .i32 a0_2] from rfl) (Reps.none _ _)))); intro v132 w9 ho10 hb hg_ hnew_; clear hg_ hnew_; (first | rw [← Ny131.out] at ho10 | (simp only [Int.reduceToNat] at ho10; rw [← Ny131.out] at ho10)); have n0_ := Aside0.mk (Kd.R_lower ho10 (below_size (by repeat (first | (with_reducible first | exact HB.out | apply below_alloc | apply pw_below_drewN | apply below_drew1 | refine below_set ?_ GE127.out) | exact HB.out)))); have n1_ := Aside0.mk (blk_below (g := gb127) (o := .cells #[.string a0_0, .int .i32 a0_1, .int .i32 a0_2, .bool a0_3] 98 (0, 0)) (by (with_reducible repeat (first | refine blk_drewN ?_ _ | refine blk_drew ?_ | refine blk_alloc ?_ _)); exact BK127.out) hb); have n2_ := Aside0.mk (below_step (by repeat (first | (with_reducible first | exact HB.out | apply below_alloc | apply pw_below_drewN | apply below_drew1 | refine below_set ?_ GE127.out) | exact HB.out)) hb); clear BK127; clear HB; have HO133 := n0_; have BK127 := n1_; have HB := n2_; clear n0_ n1_ n2_; clear hb ho10))
  go_ret
  exact ⟨_, by first | rfl | (simp [errW_none, errW_some] <;> rfl) | (simp [*, errW_none, errW_some] <;> rfl), by (with_reducible repeat (first | apply Kd.R_alloc | apply Kd.R_drewN | apply Kd.R_drew)); exact HO133.out, by repeat (first | (with_reducible first | exact HB.out | apply below_alloc | apply pw_below_drewN | apply below_drew1 | refine below_set ?_ GE127.out) | exact HB.out)⟩

/-! ### sieveref06_Windows: function 70 -/
def sieveref06_Windows.f (a0 : Int) : Option (Int) := (some (([8364, 0, 8218, 402, 8222, 8230, 8224, 8225, 710, 8240, 352, 8249, 338, 0, 381, 0, 0, 8216, 8217, 8220, 8221, 8226, 8211, 8212, 732, 8482, 353, 8250, 339, 0, 382, 376] : List Int) : List Int)).bind fun y134 => (if 0 ≤ (wrap64 (a0 - 128)) then (if (wrap64 (a0 - 128)) < (y134.length : Int) then (some (rd y134 (wrap64 (a0 - 128)))) else (none)) else (none))
set_option maxHeartbeats 8000000 in
set_option maxRecDepth 100000 in
theorem sieveref06_Windows.calls (a0 : Int) (r : Int) (w : World) (h : sieveref06_Windows.f a0 = some r) :
  Calls Try.prog 70 #[.int .i64 a0] w fun e w' => e = .returned (.int .i32 r) ∧ Below w.heap.size w w' := by
 have HB := Aside0.mk (Below.refl w.heap.size w)
 have H : ((some (([8364, 0, 8218, 402, 8222, 8230, 8224, 8225, 710, 8240, 352, 8249, 338, 0, 381, 0, 0, 8216, 8217, 8220, 8221, 8226, 8211, 8212, 732, 8482, 353, 8250, 339, 0, 382, 376] : List Int) : List Int)).bind fun y134 => (if 0 ≤ (wrap64 (a0 - 128)) then (if (wrap64 (a0 - 128)) < (y134.length : Int) then (some (rd y134 (wrap64 (a0 - 128)))) else (none)) else (none))) = some r := h
 clear h
 obtain ⟨y134, hy134⟩ : ∃ y_ : List Int, y_ = (([8364, 0, 8218, 402, 8222, 8230, 8224, 8225, 710, 8240, 352, 8249, 338, 0, 381, 0, 0, 8216, 8217, 8220, 8221, 8226, 8211, 8212, 732, 8482, 353, 8250, 339, 0, 382, 376] : List Int)) := ⟨_, rfl⟩
 replace H : (if 0 ≤ (wrap64 (a0 - 128)) then (if (wrap64 (a0 - 128)) < (y134.length : Int) then (some (rd y134 (wrap64 (a0 - 128)))) else (none)) else (none)) = some r := by first | (rw [hy134]; with_reducible exact H) | (have H2_ := (Option.bind_some _ _).symm.trans H; rw [hy134]; with_reducible exact H2_) | (have H2_ := (Option.bind_some _ _).symm.trans H; with_reducible exact H2_) | with_reducible exact H | (rw [hy134]; exact H) | exact H
 have Ny134 := Aside0.mk hy134
 clear hy134
 obtain ⟨ji2, hji2⟩ : ∃ j_ : Int, (wrap64 (a0 - 128)) = j_ := ⟨_, rfl⟩
 replace H : (if 0 ≤ (ji2) then (if (ji2) < (y134.length : Int) then (some (rd y134 (ji2))) else (none)) else (none)) = some r := by first | (rw [hji2] at H; exact H) | (simp only [hji2] at H ⊢; exact H)
 have hji2w : (IntKind.i64.wrap (a0 - 128)) = ji2 := (i64_w _).trans hji2
 by_cases c3 : 0 ≤ (ji2)
 ·rw [if_pos c3] at H
  have c3b0 : decide (0 ≤ (ji2)) = true := decide_eq_true c3
  clear c3
  by_cases c4 : (ji2) < (y134.length : Int)
  ·rw [if_pos c4] at H
   have c4b0 : decide ((ji2) < (y134.length : Int)) = true := decide_eq_true c4
   clear c4
   obtain rfl := Option.some.inj H
   go_enter Try.func70, Try.ntmps70
   go_wp2_with (first | ((with_reducible refine gate_dst (N := 4) rfl ?_); refine Kd.R_lit (Kd.int .i32) _ 21 ?hg (N := 4) ?hd (xs := ([8364, 0, 8218, 402, 8222, 8230, 8224, 8225, 710, 8240, 352, 8249, 338, 0, 381, 0, 0, 8216, 8217, 8220, 8221, 8226, 8211, 8212, 732, 8482, 353, 8250, 339, 0, 382, 376] : List Int)) (inner := [.int .i32 8364, .int .i32 0, .int .i32 8218, .int .i32 402, .int .i32 8222, .int .i32 8230, .int .i32 8224, .int .i32 8225, .int .i32 710, .int .i32 8240, .int .i32 352, .int .i32 8249, .int .i32 338, .int .i32 0, .int .i32 381, .int .i32 0, .int .i32 0, .int .i32 8216, .int .i32 8217, .int .i32 8220, .int .i32 8221, .int .i32 8226, .int .i32 8211, .int .i32 8212, .int .i32 732, .int .i32 8482, .int .i32 353, .int .i32 8250, .int .i32 339, .int .i32 0, .int .i32 382, .int .i32 376]) (ok := fun _ => True) (okp := fun _ => True) ?hr ?hp (fun _ hk => hk) trivial (Below.refl _ _) (Nat.le_refl _) (by simp) ?_; (case hd => rfl); (case hg => rfl); (case hr => first | (go_simp; done) | (go_simp; rfl)); (case hp => exact (Reps.one (show Kd.M (Kd.int .i32) _ _ _ 8364 [.int .i32 8364] from rfl) (Reps.one (show Kd.M (Kd.int .i32) _ _ _ 0 [.int .i32 0] from rfl) (Reps.one (show Kd.M (Kd.int .i32) _ _ _ 8218 [.int .i32 8218] from rfl) (Reps.one (show Kd.M (Kd.int .i32) _ _ _ 402 [.int .i32 402] from rfl) (Reps.one (show Kd.M (Kd.int .i32) _ _ _ 8222 [.int .i32 8222] from rfl) (Reps.one (show Kd.M (Kd.int .i32) _ _ _ 8230 [.int .i32 8230] from rfl) (Reps.one (show Kd.M (Kd.int .i32) _ _ _ 8224 [.int .i32 8224] from rfl) (Reps.one (show Kd.M (Kd.int .i32) _ _ _ 8225 [.int .i32 8225] from rfl) (Reps.one (show Kd.M (Kd.int .i32) _ _ _ 710 [.int .i32 710] from rfl) (Reps.one (show Kd.M (Kd.int .i32) _ _ _ 8240 [.int .i32 8240] from rfl) (Reps.one (show Kd.M (Kd.int .i32) _ _ _ 352 [.int .i32 352] from rfl) (Reps.one (show Kd.M (Kd.int .i32) _ _ _ 8249 [.int .i32 8249] from rfl) (Reps.one (show Kd.M (Kd.int .i32) _ _ _ 338 [.int .i32 338] from rfl) (Reps.one (show Kd.M (Kd.int .i32) _ _ _ 0 [.int .i32 0] from rfl) (Reps.one (show Kd.M (Kd.int .i32) _ _ _ 381 [.int .i32 381] from rfl) (Reps.one (show Kd.M (Kd.int .i32) _ _ _ 0 [.int .i32 0] from rfl) (Reps.one (show Kd.M (Kd.int .i32) _ _ _ 0 [.int .i32 0] from rfl) (Reps.one (show Kd.M (Kd.int .i32) _ _ _ 8216 [.int .i32 8216] from rfl) (Reps.one (show Kd.M (Kd.int .i32) _ _ _ 8217 [.int .i32 8217] from rfl) (Reps.one (show Kd.M (Kd.int .i32) _ _ _ 8220 [.int .i32 8220] from rfl) (Reps.one (show Kd.M (Kd.int .i32) _ _ _ 8221 [.int .i32 8221] from rfl) (Reps.one (show Kd.M (Kd.int .i32) _ _ _ 8226 [.int .i32 8226] from rfl) (Reps.one (show Kd.M (Kd.int .i32) _ _ _ 8211 [.int .i32 8211] from rfl) (Reps.one (show Kd.M (Kd.int .i32) _ _ _ 8212 [.int .i32 8212] from rfl) (Reps.one (show Kd.M (Kd.int .i32) _ _ _ 732 [.int .i32 732] from rfl) (Reps.one (show Kd.M (Kd.int .i32) _ _ _ 8482 [.int .i32 8482] from rfl) (Reps.one (show Kd.M (Kd.int .i32) _ _ _ 353 [.int .i32 353] from rfl) (Reps.one (show Kd.M (Kd.int .i32) _ _ _ 8250 [.int .i32 8250] from rfl) (Reps.one (show Kd.M (Kd.int .i32) _ _ _ 339 [.int .i32 339] from rfl) (Reps.one (show Kd.M (Kd.int .i32) _ _ _ 0 [.int .i32 0] from rfl) (Reps.one (show Kd.M (Kd.int .i32) _ _ _ 382 [.int .i32 382] from rfl) (Reps.one (show Kd.M (Kd.int .i32) _ _ _ 376 [.int .i32 376] from rfl) (Reps.none _ _)))))))))))))))))))))))))))))))))); intro v135 w5 ho6 hb hg_ hnew_; clear hg_ hnew_; (first | rw [← Ny134.out] at ho6 | (simp only [Int.reduceToNat] at ho6; rw [← Ny134.out] at ho6)); have n0_ := Aside0.mk (Kd.R_lower ho6 (below_size (by repeat (first | (with_reducible first | exact HB.out | apply below_alloc | apply pw_below_drewN | apply below_drew1) | exact HB.out)))); have n1_ := Aside0.mk (below_step (by repeat (first | (with_reducible first | exact HB.out | apply below_alloc | apply pw_below_drewN | apply below_drew1) | exact HB.out)) hb); clear HB; have HO136 := n0_; have HB := n1_; clear n0_ n1_; clear hb ho6; obtain ⟨Ao7, co7, eo7⟩ := Kd.R_slice HO136.out; subst eo7; have p137 : 0 ≤ ((ji2) : Int) := of_decide_eq_true (by first | (with_reducible assumption) | assumption); have q137 : (ji2) < (y134.length : Int) := of_decide_eq_true (by first | (with_reducible assumption) | assumption); obtain ⟨ad137, e137, hx137_0⟩ := Kd.at_int (Kd.R_reads' HO136.out).2.2 (ji2) p137 q137; cases e137; replace p137 := eq_true p137; replace q137 := eq_true q137))
   go_ret
   exact ⟨by first | rfl | (simp [errW_none, errW_some] <;> rfl) | (simp only [← hji2]; first | rfl | (simp [errW_none, errW_some] <;> rfl)) | (simp [*, errW_none, errW_some] <;> rfl), by repeat (first | (with_reducible first | exact HB.out | apply below_alloc | apply pw_below_drewN | apply below_drew1) | exact HB.out)⟩
  ·rw [if_neg c4] at H
   exact absurd H (by simp)
 ·rw [if_neg c3] at H
  exact absurd H (by simp)

/-! ### sieveref06_Number: function 48 -/
mutual
def sieveref06_Number.j0 : Nat → ByteArray → Int → Option (Int × Bool)
 | 0, _, _ => none
 | k + 1, x0, x6 => sieveref06_Number.l0 k x0 x6 0 0
def sieveref06_Number.l0 : Nat → ByteArray → Int → Int → Int → Option (Int × Bool)
 | 0, _, _, _, _ => none
 | k + 1, x0, x6, x7, x8 => if x8 < (x0.size : Int) then (if 0 ≤ x8 then ((sieveref04_Value.f k (wrap32 (bt x0 x8))).bind fun t138 => (if t138 < 0 then (sieveref06_Number.j2 k x0 x6 x7 x8 t138 true) else (sieveref06_Number.j2 k x0 x6 x7 x8 t138 (decide (t138 ≥ x6))))) else (none)) else (if x0.toList = ([] : List UInt8) then (sieveref06_Number.j3 k x7 true) else (if x7 = 0 then (sieveref06_Number.j3 k x7 true) else (if x7 > 1114111 then (sieveref06_Number.j3 k x7 true) else (if x7 ≥ 55296 then (sieveref06_Number.j3 k x7 (decide (x7 ≤ 57343))) else (sieveref06_Number.j3 k x7 false)))))
def sieveref06_Number.j2 : Nat → ByteArray → Int → Int → Int → Int → Bool → Option (Int × Bool)
 | 0, _, _, _, _, _, _ => none
 | k + 1, x0, x6, x7, x8, x9, x28 => if x28 = true then (some (65533, false)) else (if (wrap64 ((wrap64 (x7 * x6)) + x9)) > 1114111 then (sieveref06_Number.l0 k x0 x6 1114112 (wrap64 (x8 + 1))) else (sieveref06_Number.l0 k x0 x6 (wrap64 ((wrap64 (x7 * x6)) + x9)) (wrap64 (x8 + 1))))
def sieveref06_Number.j3 : Nat → Int → Bool → Option (Int × Bool)
 | 0, _, _ => none
 | k + 1, x7, x36 => if x36 = true then (some (65533, false)) else (if x7 ≥ 128 then (if x7 ≤ 159 then ((sieveref06_Windows.f x7).bind fun t139 => (if t139 = 0 then (some (wrap32 (x7), true)) else ((sieveref06_Windows.f x7).bind fun t140 => (some (t140, false))))) else (some (wrap32 (x7), true))) else (some (wrap32 (x7), true)))
end
def sieveref06_Number.f (k : Nat) (a0 : ByteArray) (a1 : Bool) : Option (Int × Bool) := if a1 = true then (sieveref06_Number.j0 k a0 16) else (sieveref06_Number.j0 k a0 10)
theorem sieveref06_Number.mono_l : ∀ k, (∀ y0 y1, LeO (sieveref06_Number.j0 k y0 y1) (sieveref06_Number.j0 (k + 1) y0 y1)) ∧ (∀ y0 y1 y2 y3, LeO (sieveref06_Number.l0 k y0 y1 y2 y3) (sieveref06_Number.l0 (k + 1) y0 y1 y2 y3)) ∧ (∀ y0 y1 y2 y3 y4 y5, LeO (sieveref06_Number.j2 k y0 y1 y2 y3 y4 y5) (sieveref06_Number.j2 (k + 1) y0 y1 y2 y3 y4 y5)) ∧ (∀ y0 y1, LeO (sieveref06_Number.j3 k y0 y1) (sieveref06_Number.j3 (k + 1) y0 y1))
 | 0 => ⟨fun _ _ r h => by simp [sieveref06_Number.j0] at h, fun _ _ _ _ r h => by simp [sieveref06_Number.l0] at h, fun _ _ _ _ _ _ r h => by simp [sieveref06_Number.j2] at h, fun _ _ r h => by simp [sieveref06_Number.j3] at h⟩
 | k + 1 => by
  obtain ⟨ih0, ih1, ih2, ih3⟩ := sieveref06_Number.mono_l k
  refine ⟨?_, ?_, ?_, ?_⟩
  ·intro y0 y1
   unfold sieveref06_Number.j0
   repeat' first
   | (with_reducible exact ih0 _ _)
   | (with_reducible exact ih1 _ _ _ _)
   | (with_reducible exact ih2 _ _ _ _ _ _)
   | (with_reducible exact ih3 _ _)
   | (with_reducible exact sieveref04_Value.mono _ _)
   | (with_reducible exact LeO.refl _)
   | (with_reducible exact LeO.none _)
   | (with_reducible refine LeO.ite ?_ ?_)
   | (with_reducible refine LeO.bind ?_ (fun _ => ?_))
   | exact ih0 _ _
   | exact ih1 _ _ _ _
   | exact ih2 _ _ _ _ _ _
   | exact ih3 _ _
   | exact sieveref04_Value.mono _ _
   | exact LeO.none _
   | refine LeO.ite ?_ ?_
   | refine LeO.bind ?_ (fun _ => ?_)
  ·intro y0 y1 y2 y3
   unfold sieveref06_Number.l0
   repeat' first
   | (with_reducible exact ih0 _ _)
   | (with_reducible exact ih1 _ _ _ _)
   | (with_reducible exact ih2 _ _ _ _ _ _)
   | (with_reducible exact ih3 _ _)
   | (with_reducible exact sieveref04_Value.mono _ _)
   | (with_reducible exact LeO.refl _)
   | (with_reducible exact LeO.none _)
   | (with_reducible refine LeO.ite ?_ ?_)
   | (with_reducible refine LeO.bind ?_ (fun _ => ?_))
   | exact ih0 _ _
   | exact ih1 _ _ _ _
   | exact ih2 _ _ _ _ _ _
   | exact ih3 _ _
   | exact sieveref04_Value.mono _ _
   | exact LeO.none _
   | refine LeO.ite ?_ ?_
   | refine LeO.bind ?_ (fun _ => ?_)
  ·intro y0 y1 y2 y3 y4 y5
   unfold sieveref06_Number.j2
   repeat' first
   | (with_reducible exact ih0 _ _)
   | (with_reducible exact ih1 _ _ _ _)
   | (with_reducible exact ih2 _ _ _ _ _ _)
   | (with_reducible exact ih3 _ _)
   | (with_reducible exact sieveref04_Value.mono _ _)
   | (with_reducible exact LeO.refl _)
   | (with_reducible exact LeO.none _)
   | (with_reducible refine LeO.ite ?_ ?_)
   | (with_reducible refine LeO.bind ?_ (fun _ => ?_))
   | exact ih0 _ _
   | exact ih1 _ _ _ _
   | exact ih2 _ _ _ _ _ _
   | exact ih3 _ _
   | exact sieveref04_Value.mono _ _
   | exact LeO.none _
   | refine LeO.ite ?_ ?_
   | refine LeO.bind ?_ (fun _ => ?_)
  ·intro y0 y1
   unfold sieveref06_Number.j3
   repeat' first
   | (with_reducible exact ih0 _ _)
   | (with_reducible exact ih1 _ _ _ _)
   | (with_reducible exact ih2 _ _ _ _ _ _)
   | (with_reducible exact ih3 _ _)
   | (with_reducible exact sieveref04_Value.mono _ _)
   | (with_reducible exact LeO.refl _)
   | (with_reducible exact LeO.none _)
   | (with_reducible refine LeO.ite ?_ ?_)
   | (with_reducible refine LeO.bind ?_ (fun _ => ?_))
   | exact ih0 _ _
   | exact ih1 _ _ _ _
   | exact ih2 _ _ _ _ _ _
   | exact ih3 _ _
   | exact sieveref04_Value.mono _ _
   | exact LeO.none _
   | refine LeO.ite ?_ ?_
   | refine LeO.bind ?_ (fun _ => ?_)
theorem sieveref06_Number.mono : ∀ a0 a1 k, LeO (sieveref06_Number.f k a0 a1) (sieveref06_Number.f (k + 1) a0 a1) := by
 intro a0 a1 k
 obtain ⟨ih0, ih1, ih2, ih3⟩ := sieveref06_Number.mono_l k
 unfold sieveref06_Number.f
 repeat' first
   | (with_reducible exact ih0 _ _)
   | (with_reducible exact ih1 _ _ _ _)
   | (with_reducible exact ih2 _ _ _ _ _ _)
   | (with_reducible exact ih3 _ _)
   | (with_reducible exact sieveref04_Value.mono _ _)
   | (with_reducible exact LeO.refl _)
   | (with_reducible exact LeO.none _)
   | (with_reducible refine LeO.ite ?_ ?_)
   | (with_reducible refine LeO.bind ?_ (fun _ => ?_))
   | exact ih0 _ _
   | exact ih1 _ _ _ _
   | exact ih2 _ _ _ _ _ _
   | exact ih3 _ _
   | exact sieveref04_Value.mono _ _
   | exact LeO.none _
   | refine LeO.ite ?_ ?_
   | refine LeO.bind ?_ (fun _ => ?_)
set_option maxHeartbeats 8000000 in
set_option maxRecDepth 100000 in
theorem sieveref06_Number.calls (k : Nat) (a0 : ByteArray) (a1 : Bool) (r1 : Int) (r2 : Bool) (w : World) (h : sieveref06_Number.f k a0 a1 = some (r1, r2)) :
  Calls Try.prog 48 #[.string a0, .bool a1] w fun e w' => e = .returned (.tuple #[.int .i32 r1, .bool r2]) ∧ Below w.heap.size w w' := by
 have HB := Aside0.mk (Below.refl w.heap.size w)
 have H : (if a1 = true then (sieveref06_Number.j0 k a0 16) else (sieveref06_Number.j0 k a0 10)) = some (r1, r2) := h
 clear h
 have HC3 := Aside0.mk H
 clear H
 go_enter Try.func48, Try.ntmps48
 go_upto_if 10 with (fail)
 go_cut [6] (fun v6 wc => ∃ (kq : Nat) (x6_2 : Int), v6 = .int .i64 x6_2 ∧ Aside0 (sieveref06_Number.j0 kq a0 x6_2 = some (r1, r2)) ∧ Aside0 (kq ≤ k) ∧ Aside0 (Below w.heap.size w wc))
 case first =>
  have H := HC3.out
  clear HC3
  by_cases c4 : a1 = true
  ·subst c4
   have H1 : (sieveref06_Number.j0 k a0 16) = some (r1, r2) := by rw [if_pos rfl] at H; exact H
   clear H
   have H := H1
   clear H1
   have H' := Aside0.mk H
   clear H
   go_wp2
   go_meet
   case rel => exact ⟨_, (16), (by first | rfl | (simp; done) | (simp [*]; done) | (unfold bt; split <;> first | rfl | (exfalso; simp_all; done) | (exfalso; simp_all; omega))), H', ⟨by first | omega | exact Nat.le_refl _⟩, ⟨by repeat (first | (with_reducible first | exact HB.out | apply below_alloc | apply pw_below_drewN | apply below_drew1) | exact HB.out)⟩⟩
  ·replace c4 := Bool.eq_false_iff.mpr c4
   subst c4
   have H1 : (sieveref06_Number.j0 k a0 10) = some (r1, r2) := by rw [if_neg (show ¬ (false = true) by decide)] at H; exact H
   clear H
   have H := H1
   clear H1
   have H' := Aside0.mk H
   clear H
   go_wp2
   go_meet
   case rel => exact ⟨_, (10), (by first | rfl | (simp; done) | (simp [*]; done) | (unfold bt; split <;> first | rfl | (exfalso; simp_all; done) | (exfalso; simp_all; omega))), H', ⟨by first | omega | exact Nat.le_refl _⟩, ⟨by repeat (first | (with_reducible first | exact HB.out | apply below_alloc | apply pw_below_drewN | apply below_drew1) | exact HB.out)⟩⟩
 case rest =>
  clear HC3
  try clear p2
  try clear c4
  obtain ⟨kq, x6_2, rfl, HA, HJ2, HB⟩ := hcut
  cases kq with
  | zero => exact absurd HA.out (by simp [sieveref06_Number.j0])
  | succ kj2 =>
   have H := HA.out
   clear HA
   simp only [sieveref06_Number.j0] at H
   have H' := Aside0.mk H
   clear H
   go_wp2
   go_loopg [7, 8] kj2 (fun kq v7 v8 w' => ∃ (x7_2 : Int) (x8_2 : Int), v7 = .int .i64 x7_2 ∧ v8 = .int .i64 x8_2 ∧ Aside0 (sieveref06_Number.l0 kq a0 x6_2 x7_2 x8_2 = some (r1, r2)) ∧ Aside0 (kq ≤ kj2) ∧ Aside0 (Below w.heap.size w w'))
   case atStart => exact ⟨(0), (0), (by first | rfl | (simp; done) | (simp [*]; done) | (unfold bt; split <;> first | rfl | (exfalso; simp_all; done) | (exfalso; simp_all; omega))), (by first | rfl | (simp; done) | (simp [*]; done) | (unfold bt; split <;> first | rfl | (exfalso; simp_all; done) | (exfalso; simp_all; omega))), H', ⟨Nat.le_refl _⟩, ⟨by repeat (first | (with_reducible first | exact HB.out | apply below_alloc | apply pw_below_drewN | apply below_drew1) | exact HB.out)⟩⟩
   case round =>
    clear H'
    try clear p2
    try clear c4
    try clear p2
    obtain ⟨x7_2, x8_2, rfl, rfl, HA, HK2, HB⟩ := hrel
    cases gk with
    | zero => exact absurd HA.out (by simp [sieveref06_Number.l0])
    | succ k2 =>
     have H := HA.out
     clear HA
     simp only [sieveref06_Number.l0] at H
     by_cases c5 : x8_2 < (a0.size : Int)
     ·rw [if_pos c5] at H
      have c5b0 : decide (x8_2 < (a0.size : Int)) = true := decide_eq_true c5
      clear c5
      by_cases c6 : 0 ≤ x8_2
      ·rw [if_pos c6] at H
       have c6b0 : decide (0 ≤ x8_2) = true := decide_eq_true c6
       clear c6
       replace H := Option.bind_eq_some_iff.mp H
       obtain ⟨t138, A80, H⟩ := H
       replace H : (if t138 < 0 then (sieveref06_Number.j2 k2 a0 x6_2 x7_2 x8_2 t138 true) else (sieveref06_Number.j2 k2 a0 x6_2 x7_2 x8_2 t138 (decide (t138 ≥ x6_2)))) = some (r1, r2) := H
       have A8 := Aside0.mk A80
       clear A80
       have HC9 := Aside0.mk H
       clear H
       have p7 : 0 ≤ (x8_2 : Int) := of_decide_eq_true (by first | (with_reducible assumption) | assumption)
       have q7 : x8_2 < (a0.size : Int) := of_decide_eq_true (by first | (with_reducible assumption) | assumption)
       have hx7 := bt_at a0 x8_2
       replace p7 := eq_true p7
       replace q7 := eq_true q7
       go_upto_region 9 with (first | ((with_reducible refine gate_callee (f := 69) rfl ?_); refine goesL_ (some 21) rfl rfl Try.func69 (by kernel_rfl) rfl #[.int .i32 (wrap32 (bt a0 x8_2))] rfl (by (try simp only [List.map_toArray, List.map_cons, List.map_nil]); first | done | rfl | (simp only [List.length_drop, List.length_take]; rfl) | (simp [*] <;> rfl)) ?_; (with_reducible refine (sieveref04_Value.calls k2 (wrap32 (bt a0 x8_2)) t138 _ A8.out).mono ?_); rintro e w' ⟨rfl, ⟨nd, rfl⟩⟩; refine ⟨_, rfl, ?_⟩))
       (try simp only [Act.put, List.setIfInBounds_toArray, List.set_cons_zero, List.set_cons_succ])
       go_cut [28] (fun v28 wc => ∃ (kq : Nat) (x28_8 : Bool), v28 = .bool x28_8 ∧ Aside0 (sieveref06_Number.j2 kq a0 x6_2 x7_2 x8_2 t138 x28_8 = some (r1, r2)) ∧ Aside0 (kq ≤ k2) ∧ Aside0 (Below w.heap.size w wc))
       case first =>
        have H := HC9.out
        clear HC9
        by_cases c10 : t138 < 0
        ·rw [if_pos c10] at H
         have c10b0 : decide (t138 < 0) = true := decide_eq_true c10
         clear c10
         (first | rw [c10b0] | (simp only [i64_w, i32_w]; rw [c10b0]) | skip)
         have H' := Aside0.mk H
         clear H
         go_wp2
         go_meet
         case rel => exact ⟨_, (true), (by first | rfl | (simp; done) | (simp [*]; done) | (unfold bt; split <;> first | rfl | (exfalso; simp_all; done) | (exfalso; simp_all; omega))), H', ⟨by have := HJ2.out; have := HK2.out; first | omega | exact Nat.le_refl _⟩, ⟨by repeat (first | (with_reducible first | exact HB.out | apply below_alloc | apply pw_below_drewN | apply below_drew1) | exact HB.out)⟩⟩
        ·rw [if_neg c10] at H
         have c10b0 : decide (t138 < 0) = false := decide_eq_false c10
         clear c10
         (first | rw [c10b0] | (simp only [i64_w, i32_w]; rw [c10b0]) | skip)
         have H' := Aside0.mk H
         clear H
         go_wp2
         go_meet
         case rel => exact ⟨_, (decide (t138 ≥ x6_2)), (by first | rfl | (simp; done) | (simp [*]; done) | (unfold bt; split <;> first | rfl | (exfalso; simp_all; done) | (exfalso; simp_all; omega))), H', ⟨by have := HJ2.out; have := HK2.out; first | omega | exact Nat.le_refl _⟩, ⟨by repeat (first | (with_reducible first | exact HB.out | apply below_alloc | apply pw_below_drewN | apply below_drew1) | exact HB.out)⟩⟩
       case rest =>
        clear HC9
        try clear c1
        try clear p2
        try clear p3
        try clear c4
        try clear c5
        try clear c5b0
        try clear c6
        try clear c6b0
        try clear p7
        try clear q7
        try clear hx7
        try clear c10
        try clear c10b0
        try clear p2
        try clear p7
        try clear q7
        obtain ⟨kq, x28_8, rfl, HA, HJ8, HB⟩ := hcut
        cases kq with
        | zero => exact absurd HA.out (by simp [sieveref06_Number.j2])
        | succ kj8 =>
         have H := HA.out
         clear HA
         simp only [sieveref06_Number.j2] at H
         by_cases c11 : x28_8 = true
         ·subst c11
          have H1 : (some (65533, false)) = some (r1, r2) := by rw [if_pos rfl] at H; exact H
          clear H
          have H := H1
          clear H1
          simp only [Option.some.injEq, Prod.mk.injEq] at H
          obtain ⟨rfl, rfl⟩ := H
          go_wp2
          go_ret2
          exact ⟨by first | rfl | (simp [errW_none, errW_some] <;> rfl) | (simp [*, errW_none, errW_some] <;> rfl), by repeat (first | (with_reducible first | exact HB.out | apply below_alloc | apply pw_below_drewN | apply below_drew1) | exact HB.out)⟩
         ·replace c11 := Bool.eq_false_iff.mpr c11
          subst c11
          have H1 : (if (wrap64 ((wrap64 (x7_2 * x6_2)) + t138)) > 1114111 then (sieveref06_Number.l0 kj8 a0 x6_2 1114112 (wrap64 (x8_2 + 1))) else (sieveref06_Number.l0 kj8 a0 x6_2 (wrap64 ((wrap64 (x7_2 * x6_2)) + t138)) (wrap64 (x8_2 + 1)))) = some (r1, r2) := by rw [if_neg (show ¬ (false = true) by decide)] at H; exact H
          clear H
          have H := H1
          clear H1
          by_cases c12 : (wrap64 ((wrap64 (x7_2 * x6_2)) + t138)) > 1114111
          ·rw [if_pos c12] at H
           have c12b0 : decide (1114111 < (wrap64 ((wrap64 (x7_2 * x6_2)) + t138))) = true := decide_eq_true c12
           clear c12
           have H' := Aside0.mk H
           clear H
           go_wp2
           go_roundg kj8
           case measure => have := HJ2.out; have := HK2.out; have := HJ8.out; omega
           case rel => exact ⟨(1114112), (wrap64 (x8_2 + 1)), (by first | rfl | (simp; done) | (simp [*]; done) | (unfold bt; split <;> first | rfl | (exfalso; simp_all; done) | (exfalso; simp_all; omega))), (by first | rfl | (simp; done) | (simp [*]; done) | (unfold bt; split <;> first | rfl | (exfalso; simp_all; done) | (exfalso; simp_all; omega))), H', ⟨by have := HJ2.out; have := HK2.out; have := HJ8.out; omega⟩, ⟨by repeat (first | (with_reducible first | exact HB.out | apply below_alloc | apply pw_below_drewN | apply below_drew1) | exact HB.out)⟩⟩
          ·rw [if_neg c12] at H
           have c12b0 : decide (1114111 < (wrap64 ((wrap64 (x7_2 * x6_2)) + t138))) = false := decide_eq_false c12
           clear c12
           have H' := Aside0.mk H
           clear H
           go_wp2
           go_roundg kj8
           case measure => have := HJ2.out; have := HK2.out; have := HJ8.out; omega
           case rel => exact ⟨(wrap64 ((wrap64 (x7_2 * x6_2)) + t138)), (wrap64 (x8_2 + 1)), (by first | rfl | (simp; done) | (simp [*]; done) | (unfold bt; split <;> first | rfl | (exfalso; simp_all; done) | (exfalso; simp_all; omega))), (by first | rfl | (simp; done) | (simp [*]; done) | (unfold bt; split <;> first | rfl | (exfalso; simp_all; done) | (exfalso; simp_all; omega))), H', ⟨by have := HJ2.out; have := HK2.out; have := HJ8.out; omega⟩, ⟨by repeat (first | (with_reducible first | exact HB.out | apply below_alloc | apply pw_below_drewN | apply below_drew1) | exact HB.out)⟩⟩
      ·rw [if_neg c6] at H
       exact absurd H (by simp)
     ·rw [if_neg c5] at H
      have c5b0 : decide (x8_2 < (a0.size : Int)) = false := decide_eq_false c5
      clear c5
      have HC13 := Aside0.mk H
      clear H
      go_upto_region 14 with (fail)
      go_cut [36] (fun v36 wc => ∃ (kq : Nat) (x36_12 : Bool), v36 = .bool x36_12 ∧ Aside0 (sieveref06_Number.j3 kq x7_2 x36_12 = some (r1, r2)) ∧ Aside0 (kq ≤ k2) ∧ Aside0 (Below w.heap.size w wc))
      case first =>
       have H := HC13.out
       clear HC13
       by_cases c14 : a0.toList = ([] : List UInt8)
       ·rw [if_pos c14] at H
        have c14b0 : (a0.toList == ([] : List UInt8)) = true := beq_iff_eq.mpr c14
        have c14b1 : (a0.toList != ([] : List UInt8)) = false := bne_eq_false_iff_eq.mpr c14
        clear c14
        (first | rw [c14b0] | (simp only [i64_w, i32_w]; rw [c14b0]) | skip)
        have H' := Aside0.mk H
        clear H
        go_wp2
        go_meet
        case rel => exact ⟨_, (true), (by first | rfl | (simp; done) | (simp [*]; done) | (unfold bt; split <;> first | rfl | (exfalso; simp_all; done) | (exfalso; simp_all; omega))), H', ⟨by have := HJ2.out; have := HK2.out; first | omega | exact Nat.le_refl _⟩, ⟨by repeat (first | (with_reducible first | exact HB.out | apply below_alloc | apply pw_below_drewN | apply below_drew1) | exact HB.out)⟩⟩
       ·rw [if_neg c14] at H
        have c14b0 : (a0.toList == ([] : List UInt8)) = false := beq_eq_false_iff_ne.mpr c14
        have c14b1 : (a0.toList != ([] : List UInt8)) = true := bne_iff_ne.mpr c14
        (first | rw [c14b0] | (simp only [i64_w, i32_w]; rw [c14b0]) | skip)
        by_cases c15 : x7_2 = 0
        ·rw [if_pos c15] at H
         have c15b0 : (x7_2 == 0) = true := beq_iff_eq.mpr c15
         have c15b1 : (x7_2 != 0) = false := bne_eq_false_iff_eq.mpr c15
         clear c15
         have H' := Aside0.mk H
         clear H
         go_wp2
         go_meet
         case rel => exact ⟨_, (true), (by first | rfl | (simp; done) | (simp [*]; done) | (unfold bt; split <;> first | rfl | (exfalso; simp_all; done) | (exfalso; simp_all; omega))), H', ⟨by have := HJ2.out; have := HK2.out; first | omega | exact Nat.le_refl _⟩, ⟨by repeat (first | (with_reducible first | exact HB.out | apply below_alloc | apply pw_below_drewN | apply below_drew1) | exact HB.out)⟩⟩
        ·rw [if_neg c15] at H
         have c15b0 : (x7_2 == 0) = false := beq_eq_false_iff_ne.mpr c15
         have c15b1 : (x7_2 != 0) = true := bne_iff_ne.mpr c15
         by_cases c16 : x7_2 > 1114111
         ·rw [if_pos c16] at H
          have c16b0 : decide (1114111 < x7_2) = true := decide_eq_true c16
          clear c16
          have H' := Aside0.mk H
          clear H
          go_wp2
          go_meet
          case rel => exact ⟨_, (true), (by first | rfl | (simp; done) | (simp [*]; done) | (unfold bt; split <;> first | rfl | (exfalso; simp_all; done) | (exfalso; simp_all; omega))), H', ⟨by have := HJ2.out; have := HK2.out; first | omega | exact Nat.le_refl _⟩, ⟨by repeat (first | (with_reducible first | exact HB.out | apply below_alloc | apply pw_below_drewN | apply below_drew1) | exact HB.out)⟩⟩
         ·rw [if_neg c16] at H
          have c16b0 : decide (1114111 < x7_2) = false := decide_eq_false c16
          clear c16
          by_cases c17 : x7_2 ≥ 55296
          ·rw [if_pos c17] at H
           have c17b0 : decide (55296 ≤ x7_2) = true := decide_eq_true c17
           clear c17
           have H' := Aside0.mk H
           clear H
           go_wp2
           go_meet
           case rel => exact ⟨_, (decide (x7_2 ≤ 57343)), (by first | rfl | (simp; done) | (simp [*]; done) | (unfold bt; split <;> first | rfl | (exfalso; simp_all; done) | (exfalso; simp_all; omega))), H', ⟨by have := HJ2.out; have := HK2.out; first | omega | exact Nat.le_refl _⟩, ⟨by repeat (first | (with_reducible first | exact HB.out | apply below_alloc | apply pw_below_drewN | apply below_drew1) | exact HB.out)⟩⟩
          ·rw [if_neg c17] at H
           have c17b0 : decide (55296 ≤ x7_2) = false := decide_eq_false c17
           clear c17
           have H' := Aside0.mk H
           clear H
           go_wp2
           go_meet
           case rel => exact ⟨_, (false), (by first | rfl | (simp; done) | (simp [*]; done) | (unfold bt; split <;> first | rfl | (exfalso; simp_all; done) | (exfalso; simp_all; omega))), H', ⟨by have := HJ2.out; have := HK2.out; first | omega | exact Nat.le_refl _⟩, ⟨by repeat (first | (with_reducible first | exact HB.out | apply below_alloc | apply pw_below_drewN | apply below_drew1) | exact HB.out)⟩⟩
      case rest =>
       clear HC13
       try clear c1
       try clear p2
       try clear p3
       try clear c4
       try clear c5
       try clear c5b0
       try clear c6
       try clear c6b0
       try clear p6
       try clear p7
       try clear q7
       try clear hx7
       try clear c10
       try clear c10b0
       try clear c11
       try clear c12
       try clear c12b0
       try clear c14
       try clear c14b0
       try clear c14b1
       try clear c15
       try clear c15b0
       try clear c15b1
       try clear c16
       try clear c16b0
       try clear c17
       try clear c17b0
       try clear p2
       try clear p3
       try clear p7
       try clear q7
       obtain ⟨kq, x36_12, rfl, HA, HJ12, HB⟩ := hcut
       cases kq with
       | zero => exact absurd HA.out (by simp [sieveref06_Number.j3])
       | succ kj12 =>
        have H := HA.out
        clear HA
        simp only [sieveref06_Number.j3] at H
        by_cases c18 : x36_12 = true
        ·subst c18
         have H1 : (some (65533, false)) = some (r1, r2) := by rw [if_pos rfl] at H; exact H
         clear H
         have H := H1
         clear H1
         simp only [Option.some.injEq, Prod.mk.injEq] at H
         obtain ⟨rfl, rfl⟩ := H
         go_wp2
         go_ret2
         exact ⟨by first | rfl | (simp [errW_none, errW_some] <;> rfl) | (simp [*, errW_none, errW_some] <;> rfl), by repeat (first | (with_reducible first | exact HB.out | apply below_alloc | apply pw_below_drewN | apply below_drew1) | exact HB.out)⟩
        ·replace c18 := Bool.eq_false_iff.mpr c18
         subst c18
         have H1 : (if x7_2 ≥ 128 then (if x7_2 ≤ 159 then ((sieveref06_Windows.f x7_2).bind fun t139 => (if t139 = 0 then (some (wrap32 (x7_2), true)) else ((sieveref06_Windows.f x7_2).bind fun t140 => (some (t140, false))))) else (some (wrap32 (x7_2), true))) else (some (wrap32 (x7_2), true))) = some (r1, r2) := by rw [if_neg (show ¬ (false = true) by decide)] at H; exact H
         clear H
         have H := H1
         clear H1
         by_cases c19 : x7_2 ≥ 128
         ·rw [if_pos c19] at H
          have c19b0 : decide (128 ≤ x7_2) = true := decide_eq_true c19
          clear c19
          by_cases c20 : x7_2 ≤ 159
          ·rw [if_pos c20] at H
           have c20b0 : decide (x7_2 ≤ 159) = true := decide_eq_true c20
           clear c20
           replace H := Option.bind_eq_some_iff.mp H
           obtain ⟨t139, A210, H⟩ := H
           replace H : (if t139 = 0 then (some (wrap32 (x7_2), true)) else ((sieveref06_Windows.f x7_2).bind fun t140 => (some (t140, false)))) = some (r1, r2) := H
           have A21 := Aside0.mk A210
           clear A210
           by_cases c22 : t139 = 0
           ·rw [if_pos c22] at H
            have c22b0 : (t139 == 0) = true := beq_iff_eq.mpr c22
            have c22b1 : (t139 != 0) = false := bne_eq_false_iff_eq.mpr c22
            clear c22
            simp only [Option.some.injEq, Prod.mk.injEq] at H
            obtain ⟨rfl, rfl⟩ := H
            go_wp2_with (first | (go_at_call 70; (with_reducible refine (sieveref06_Windows.calls x7_2 t139 _ A21.out).mono ?_); rintro e w23 ⟨rfl, hb⟩; have n0_ := Aside0.mk (below_step (by repeat (first | (with_reducible first | exact HB.out | apply below_alloc | apply pw_below_drewN | apply below_drew1) | exact HB.out)) hb); clear HB; have HB := n0_; clear n0_; (try clear hb); (try clear hb2); (try clear hk); (try clear hi)))
            go_ret2
            exact ⟨by first | rfl | (simp [errW_none, errW_some] <;> rfl) | (simp [*, errW_none, errW_some] <;> rfl), by repeat (first | (with_reducible first | exact HB.out | apply below_alloc | apply pw_below_drewN | apply below_drew1) | exact HB.out)⟩
           ·rw [if_neg c22] at H
            have c22b0 : (t139 == 0) = false := beq_eq_false_iff_ne.mpr c22
            have c22b1 : (t139 != 0) = true := bne_iff_ne.mpr c22
            replace H := Option.bind_eq_some_iff.mp H
            obtain ⟨t140, A240, H⟩ := H
            replace H : (some (t140, false)) = some (r1, r2) := H
            have A24 := Aside0.mk A240
            clear A240
            simp only [Option.some.injEq, Prod.mk.injEq] at H
            obtain ⟨rfl, rfl⟩ := H
            go_wp2_with (first | (go_at_call 70; (with_reducible refine (sieveref06_Windows.calls x7_2 t139 _ A21.out).mono ?_); rintro e w25 ⟨rfl, hb⟩; have n0_ := Aside0.mk (below_step (by repeat (first | (with_reducible first | exact HB.out | apply below_alloc | apply pw_below_drewN | apply below_drew1) | exact HB.out)) hb); clear HB; have HB := n0_; clear n0_; (try clear hb); (try clear hb2); (try clear hk); (try clear hi)) | ((with_reducible refine gate_callee (f := 70) rfl ?_); refine goesL_ (some 68) rfl rfl Try.func70 (by kernel_rfl) rfl #[.int .i64 x7_2] rfl (by (try simp only [List.map_toArray, List.map_cons, List.map_nil]); first | done | rfl | (simp only [List.length_drop, List.length_take]; rfl) | (simp [*] <;> rfl)) ?_; (with_reducible refine (sieveref06_Windows.calls x7_2 t140 _ A24.out).mono ?_); rintro e w26 ⟨rfl, hb⟩; refine ⟨_, rfl, ?_⟩; have n0_ := Aside0.mk (below_step (by repeat (first | (with_reducible first | exact HB.out | apply below_alloc | apply pw_below_drewN | apply below_drew1) | exact HB.out)) hb); clear HB; have HB := n0_; clear n0_; (try clear hb); (try clear hb2); (try clear hk); (try clear hi)))
            go_ret2
            exact ⟨by first | rfl | (simp [errW_none, errW_some] <;> rfl) | (simp [*, errW_none, errW_some] <;> rfl), by repeat (first | (with_reducible first | exact HB.out | apply below_alloc | apply pw_below_drewN | apply below_drew1) | exact HB.out)⟩
          ·rw [if_neg c20] at H
           have c20b0 : decide (x7_2 ≤ 159) = false := decide_eq_false c20
           clear c20
           simp only [Option.some.injEq, Prod.mk.injEq] at H
           obtain ⟨rfl, rfl⟩ := H
           go_wp2
           go_ret2
           exact ⟨by first | rfl | (simp [errW_none, errW_some] <;> rfl) | (simp [*, errW_none, errW_some] <;> rfl), by repeat (first | (with_reducible first | exact HB.out | apply below_alloc | apply pw_below_drewN | apply below_drew1) | exact HB.out)⟩
         ·rw [if_neg c19] at H
          have c19b0 : decide (128 ≤ x7_2) = false := decide_eq_false c19
          clear c19
          simp only [Option.some.injEq, Prod.mk.injEq] at H
          obtain ⟨rfl, rfl⟩ := H
          go_wp2
          go_ret2
          exact ⟨by first | rfl | (simp [errW_none, errW_some] <;> rfl) | (simp [*, errW_none, errW_some] <;> rfl), by repeat (first | (with_reducible first | exact HB.out | apply below_alloc | apply pw_below_drewN | apply below_drew1) | exact HB.out)⟩

/-! ### sieveref04_Upper: function 71 -/
def sieveref04_Upper.f (a0 : Int) : Option (Bool) := if a0 ≥ 65 then (some (decide (a0 ≤ 90))) else (some false)
set_option maxHeartbeats 8000000 in
set_option maxRecDepth 100000 in
theorem sieveref04_Upper.calls (a0 : Int) (r : Bool) (w : World) (h : sieveref04_Upper.f a0 = some r) :
  Calls Try.prog 71 #[.int .i32 a0] w fun e w' => e = .returned (.bool r) ∧ Drawn0 w w' := by
 have H : (if a0 ≥ 65 then (some (decide (a0 ≤ 90))) else (some false)) = some r := h
 clear h
 by_cases c2 : a0 ≥ 65
 ·rw [if_pos c2] at H
  have c2b0 : decide (65 ≤ a0) = true := decide_eq_true c2
  clear c2
  obtain rfl := Option.some.inj H
  go_enter Try.func71, Try.ntmps71
  go_wp2
  go_ret
  exact ⟨by first | rfl | (simp; done) | (simp [*]; done), by repeat (first | exact Drawn0.refl _ | apply Drawn0.step)⟩
 ·rw [if_neg c2] at H
  have c2b0 : decide (65 ≤ a0) = false := decide_eq_false c2
  clear c2
  obtain rfl := Option.some.inj H
  go_enter Try.func71, Try.ntmps71
  go_wp2
  go_ret
  exact ⟨by first | rfl | (simp; done) | (simp [*]; done), by repeat (first | exact Drawn0.refl _ | apply Drawn0.step)⟩

/-! ### sieveref04_Letter: function 49 -/
def sieveref04_Letter.f (a0 : Int) : Option (Bool) := (sieveref04_Upper.f a0).bind fun t141 => (if t141 = true then (some true) else (if a0 ≥ 97 then (some (decide (a0 ≤ 122))) else (some false)))
set_option maxHeartbeats 8000000 in
set_option maxRecDepth 100000 in
theorem sieveref04_Letter.calls (a0 : Int) (r : Bool) (w : World) (h : sieveref04_Letter.f a0 = some r) :
  Calls Try.prog 49 #[.int .i32 a0] w fun e w' => e = .returned (.bool r) ∧ Drawn0 w w' := by
 have H : ((sieveref04_Upper.f a0).bind fun t141 => (if t141 = true then (some true) else (if a0 ≥ 97 then (some (decide (a0 ≤ 122))) else (some false)))) = some r := h
 clear h
 replace H := Option.bind_eq_some_iff.mp H
 obtain ⟨t141, A20, H⟩ := H
 replace H : (if t141 = true then (some true) else (if a0 ≥ 97 then (some (decide (a0 ≤ 122))) else (some false))) = some r := H
 have A2 := Aside0.mk A20
 clear A20
 by_cases c3 : t141 = true
 ·subst c3
  have H1 : (some true) = some r := by rw [if_pos rfl] at H; exact H
  clear H
  have H := H1
  clear H1
  obtain rfl := Option.some.inj H
  go_enter Try.func49, Try.ntmps49
  go_wp2_with (first | ((with_reducible refine gate_callee (f := 71) rfl ?_); refine goesL_ (some 4) rfl rfl Try.func71 (by kernel_rfl) rfl #[.int .i32 a0] rfl (by (try simp only [List.map_toArray, List.map_cons, List.map_nil]); first | done | rfl | (simp only [List.length_drop, List.length_take]; rfl) | (simp [*] <;> rfl)) ?_; (with_reducible refine (sieveref04_Upper.calls a0 true _ A2.out).mono ?_); rintro e w' ⟨rfl, ⟨nd, rfl⟩⟩; refine ⟨_, rfl, ?_⟩))
  go_ret
  exact ⟨by first | rfl | (simp; done) | (simp [*]; done), by repeat (first | exact Drawn0.refl _ | apply Drawn0.step)⟩
 ·replace c3 := Bool.eq_false_iff.mpr c3
  subst c3
  have H1 : (if a0 ≥ 97 then (some (decide (a0 ≤ 122))) else (some false)) = some r := by rw [if_neg (show ¬ (false = true) by decide)] at H; exact H
  clear H
  have H := H1
  clear H1
  by_cases c4 : a0 ≥ 97
  ·rw [if_pos c4] at H
   have c4b0 : decide (97 ≤ a0) = true := decide_eq_true c4
   clear c4
   obtain rfl := Option.some.inj H
   go_enter Try.func49, Try.ntmps49
   go_wp2_with (first | ((with_reducible refine gate_callee (f := 71) rfl ?_); refine goesL_ (some 4) rfl rfl Try.func71 (by kernel_rfl) rfl #[.int .i32 a0] rfl (by (try simp only [List.map_toArray, List.map_cons, List.map_nil]); first | done | rfl | (simp only [List.length_drop, List.length_take]; rfl) | (simp [*] <;> rfl)) ?_; (with_reducible refine (sieveref04_Upper.calls a0 false _ A2.out).mono ?_); rintro e w' ⟨rfl, ⟨nd, rfl⟩⟩; refine ⟨_, rfl, ?_⟩))
   go_ret
   exact ⟨by first | rfl | (simp; done) | (simp [*]; done), by repeat (first | exact Drawn0.refl _ | apply Drawn0.step)⟩
  ·rw [if_neg c4] at H
   have c4b0 : decide (97 ≤ a0) = false := decide_eq_false c4
   clear c4
   obtain rfl := Option.some.inj H
   go_enter Try.func49, Try.ntmps49
   go_wp2_with (first | ((with_reducible refine gate_callee (f := 71) rfl ?_); refine goesL_ (some 4) rfl rfl Try.func71 (by kernel_rfl) rfl #[.int .i32 a0] rfl (by (try simp only [List.map_toArray, List.map_cons, List.map_nil]); first | done | rfl | (simp only [List.length_drop, List.length_take]; rfl) | (simp [*] <;> rfl)) ?_; (with_reducible refine (sieveref04_Upper.calls a0 false _ A2.out).mono ?_); rintro e w' ⟨rfl, ⟨nd, rfl⟩⟩; refine ⟨_, rfl, ?_⟩))
   go_ret
   exact ⟨by first | rfl | (simp; done) | (simp [*]; done), by repeat (first | exact Drawn0.refl _ | apply Drawn0.step)⟩

/-! ### sieveref01_size: function 73 -/
mutual
def sieveref01_size.j0 : Nat → Int → Bool → Option (Int)
 | 0, _, _ => none
 | k + 1, x0, x6 => if x6 = true then (some 2) else (if x0 ≥ 224 then (sieveref01_size.j1 k x0 (decide (x0 ≤ 239))) else (sieveref01_size.j1 k x0 false))
def sieveref01_size.j1 : Nat → Int → Bool → Option (Int)
 | 0, _, _ => none
 | k + 1, x0, x13 => if x13 = true then (some 3) else (if x0 ≥ 240 then (if x0 ≤ 244 then (some 4) else (some 0)) else (some 0))
end
def sieveref01_size.f (k : Nat) (a0 : Int) : Option (Int) := if a0 < 128 then (some 1) else (if a0 ≥ 194 then (sieveref01_size.j0 k a0 (decide (a0 ≤ 223))) else (sieveref01_size.j0 k a0 false))
theorem sieveref01_size.mono_l : ∀ k, (∀ y0 y1, LeO (sieveref01_size.j0 k y0 y1) (sieveref01_size.j0 (k + 1) y0 y1)) ∧ (∀ y0 y1, LeO (sieveref01_size.j1 k y0 y1) (sieveref01_size.j1 (k + 1) y0 y1))
 | 0 => ⟨fun _ _ r h => by simp [sieveref01_size.j0] at h, fun _ _ r h => by simp [sieveref01_size.j1] at h⟩
 | k + 1 => by
  obtain ⟨ih0, ih1⟩ := sieveref01_size.mono_l k
  refine ⟨?_, ?_⟩
  ·intro y0 y1
   unfold sieveref01_size.j0
   repeat' first
   | (with_reducible exact ih0 _ _)
   | (with_reducible exact ih1 _ _)
   | (with_reducible exact LeO.refl _)
   | (with_reducible exact LeO.none _)
   | (with_reducible refine LeO.ite ?_ ?_)
   | (with_reducible refine LeO.bind ?_ (fun _ => ?_))
   | exact ih0 _ _
   | exact ih1 _ _
   | exact LeO.none _
   | refine LeO.ite ?_ ?_
   | refine LeO.bind ?_ (fun _ => ?_)
  ·intro y0 y1
   unfold sieveref01_size.j1
   repeat' first
   | (with_reducible exact ih0 _ _)
   | (with_reducible exact ih1 _ _)
   | (with_reducible exact LeO.refl _)
   | (with_reducible exact LeO.none _)
   | (with_reducible refine LeO.ite ?_ ?_)
   | (with_reducible refine LeO.bind ?_ (fun _ => ?_))
   | exact ih0 _ _
   | exact ih1 _ _
   | exact LeO.none _
   | refine LeO.ite ?_ ?_
   | refine LeO.bind ?_ (fun _ => ?_)
theorem sieveref01_size.mono : ∀ a0 k, LeO (sieveref01_size.f k a0) (sieveref01_size.f (k + 1) a0) := by
 intro a0 k
 obtain ⟨ih0, ih1⟩ := sieveref01_size.mono_l k
 unfold sieveref01_size.f
 repeat' first
   | (with_reducible exact ih0 _ _)
   | (with_reducible exact ih1 _ _)
   | (with_reducible exact LeO.refl _)
   | (with_reducible exact LeO.none _)
   | (with_reducible refine LeO.ite ?_ ?_)
   | (with_reducible refine LeO.bind ?_ (fun _ => ?_))
   | exact ih0 _ _
   | exact ih1 _ _
   | exact LeO.none _
   | refine LeO.ite ?_ ?_
   | refine LeO.bind ?_ (fun _ => ?_)
set_option maxHeartbeats 8000000 in
set_option maxRecDepth 100000 in
theorem sieveref01_size.calls (k : Nat) (a0 : Int) (r : Int) (w : World) (h : sieveref01_size.f k a0 = some r) :
  Calls Try.prog 73 #[.int .u8 a0] w fun e w' => e = .returned (.int .i64 r) ∧ Drawn0 w w' := by
 have H : (if a0 < 128 then (some 1) else (if a0 ≥ 194 then (sieveref01_size.j0 k a0 (decide (a0 ≤ 223))) else (sieveref01_size.j0 k a0 false))) = some r := h
 clear h
 by_cases c2 : a0 < 128
 ·rw [if_pos c2] at H
  have c2b0 : decide (a0 < 128) = true := decide_eq_true c2
  clear c2
  obtain rfl := Option.some.inj H
  go_enter Try.func73, Try.ntmps73
  go_wp2
  go_ret
  exact ⟨by first | rfl | (simp; done) | (simp [*]; done), by repeat (first | exact Drawn0.refl _ | apply Drawn0.step)⟩
 ·rw [if_neg c2] at H
  have c2b0 : decide (a0 < 128) = false := decide_eq_false c2
  clear c2
  have HC3 := Aside0.mk H
  clear H
  go_enter Try.func73, Try.ntmps73
  go_upto_region 3 with (fail)
  go_cut [6] (fun v6 wc => ∃ (kq : Nat) (x6_2 : Bool), v6 = .bool x6_2 ∧ Aside0 (sieveref01_size.j0 kq a0 x6_2 = some r) ∧ Aside0 (kq ≤ k) ∧ Drawn0 w wc)
  case first =>
   have H := HC3.out
   clear HC3
   by_cases c4 : a0 ≥ 194
   ·rw [if_pos c4] at H
    have c4b0 : decide (194 ≤ a0) = true := decide_eq_true c4
    clear c4
    (first | rw [c4b0] | (simp only [i64_w, i32_w]; rw [c4b0]) | skip)
    have H' := Aside0.mk H
    clear H
    go_wp2
    go_meet
    case rel => exact ⟨_, (decide (a0 ≤ 223)), (by first | rfl | (simp; done) | (simp [*]; done) | (unfold bt; split <;> first | rfl | (exfalso; simp_all; done) | (exfalso; simp_all; omega))), H', ⟨by first | omega | exact Nat.le_refl _⟩, by repeat (first | exact Drawn0.refl _ | apply Drawn0.step)⟩
   ·rw [if_neg c4] at H
    have c4b0 : decide (194 ≤ a0) = false := decide_eq_false c4
    clear c4
    (first | rw [c4b0] | (simp only [i64_w, i32_w]; rw [c4b0]) | skip)
    have H' := Aside0.mk H
    clear H
    go_wp2
    go_meet
    case rel => exact ⟨_, (false), (by first | rfl | (simp; done) | (simp [*]; done) | (unfold bt; split <;> first | rfl | (exfalso; simp_all; done) | (exfalso; simp_all; omega))), H', ⟨by first | omega | exact Nat.le_refl _⟩, by repeat (first | exact Drawn0.refl _ | apply Drawn0.step)⟩
  case rest =>
   clear HC3
   try clear c2
   try clear c2b0
   try clear p2
   try clear c4
   try clear c4b0
   obtain ⟨kq, x6_2, rfl, HA, HJ2, ⟨mc2, rfl⟩⟩ := hcut
   cases kq with
   | zero => exact absurd HA.out (by simp [sieveref01_size.j0])
   | succ kj2 =>
    have H := HA.out
    clear HA
    simp only [sieveref01_size.j0] at H
    by_cases c5 : x6_2 = true
    ·subst c5
     have H1 : (some 2) = some r := by rw [if_pos rfl] at H; exact H
     clear H
     have H := H1
     clear H1
     obtain rfl := Option.some.inj H
     go_wp2
     go_ret
     exact ⟨by first | rfl | (simp; done) | (simp [*]; done), by repeat (first | exact Drawn0.refl _ | apply Drawn0.step)⟩
    ·replace c5 := Bool.eq_false_iff.mpr c5
     subst c5
     have H1 : (if a0 ≥ 224 then (sieveref01_size.j1 kj2 a0 (decide (a0 ≤ 239))) else (sieveref01_size.j1 kj2 a0 false)) = some r := by rw [if_neg (show ¬ (false = true) by decide)] at H; exact H
     clear H
     have H := H1
     clear H1
     have HC6 := Aside0.mk H
     clear H
     go_upto_region 5 with (fail)
     go_cut [13] (fun v13 wc => ∃ (kq : Nat) (x13_5 : Bool), v13 = .bool x13_5 ∧ Aside0 (sieveref01_size.j1 kq a0 x13_5 = some r) ∧ Aside0 (kq ≤ kj2) ∧ Drawn0 w wc)
     case first =>
      have H := HC6.out
      clear HC6
      by_cases c7 : a0 ≥ 224
      ·rw [if_pos c7] at H
       have c7b0 : decide (224 ≤ a0) = true := decide_eq_true c7
       clear c7
       (first | rw [c7b0] | (simp only [i64_w, i32_w]; rw [c7b0]) | skip)
       have H' := Aside0.mk H
       clear H
       go_wp2
       go_meet
       case rel => exact ⟨_, (decide (a0 ≤ 239)), (by first | rfl | (simp; done) | (simp [*]; done) | (unfold bt; split <;> first | rfl | (exfalso; simp_all; done) | (exfalso; simp_all; omega))), H', ⟨by have := HJ2.out; first | omega | exact Nat.le_refl _⟩, by repeat (first | exact Drawn0.refl _ | apply Drawn0.step)⟩
      ·rw [if_neg c7] at H
       have c7b0 : decide (224 ≤ a0) = false := decide_eq_false c7
       clear c7
       (first | rw [c7b0] | (simp only [i64_w, i32_w]; rw [c7b0]) | skip)
       have H' := Aside0.mk H
       clear H
       go_wp2
       go_meet
       case rel => exact ⟨_, (false), (by first | rfl | (simp; done) | (simp [*]; done) | (unfold bt; split <;> first | rfl | (exfalso; simp_all; done) | (exfalso; simp_all; omega))), H', ⟨by have := HJ2.out; first | omega | exact Nat.le_refl _⟩, by repeat (first | exact Drawn0.refl _ | apply Drawn0.step)⟩
     case rest =>
      clear HC6
      try clear c2
      try clear c2b0
      try clear p2
      try clear c4
      try clear c4b0
      try clear c5
      try clear c7
      try clear c7b0
      try clear p2
      obtain ⟨kq, x13_5, rfl, HA, HJ5, ⟨mc5, rfl⟩⟩ := hcut
      cases kq with
      | zero => exact absurd HA.out (by simp [sieveref01_size.j1])
      | succ kj5 =>
       have H := HA.out
       clear HA
       simp only [sieveref01_size.j1] at H
       by_cases c8 : x13_5 = true
       ·subst c8
        have H1 : (some 3) = some r := by rw [if_pos rfl] at H; exact H
        clear H
        have H := H1
        clear H1
        obtain rfl := Option.some.inj H
        go_wp2
        go_ret
        exact ⟨by first | rfl | (simp; done) | (simp [*]; done), by repeat (first | exact Drawn0.refl _ | apply Drawn0.step)⟩
       ·replace c8 := Bool.eq_false_iff.mpr c8
        subst c8
        have H1 : (if a0 ≥ 240 then (if a0 ≤ 244 then (some 4) else (some 0)) else (some 0)) = some r := by rw [if_neg (show ¬ (false = true) by decide)] at H; exact H
        clear H
        have H := H1
        clear H1
        by_cases c9 : a0 ≥ 240
        ·rw [if_pos c9] at H
         have c9b0 : decide (240 ≤ a0) = true := decide_eq_true c9
         clear c9
         by_cases c10 : a0 ≤ 244
         ·rw [if_pos c10] at H
          have c10b0 : decide (a0 ≤ 244) = true := decide_eq_true c10
          clear c10
          obtain rfl := Option.some.inj H
          go_wp2
          go_ret
          exact ⟨by first | rfl | (simp; done) | (simp [*]; done), by repeat (first | exact Drawn0.refl _ | apply Drawn0.step)⟩
         ·rw [if_neg c10] at H
          have c10b0 : decide (a0 ≤ 244) = false := decide_eq_false c10
          clear c10
          obtain rfl := Option.some.inj H
          go_wp2
          go_ret
          exact ⟨by first | rfl | (simp; done) | (simp [*]; done), by repeat (first | exact Drawn0.refl _ | apply Drawn0.step)⟩
        ·rw [if_neg c9] at H
         have c9b0 : decide (240 ≤ a0) = false := decide_eq_false c9
         clear c9
         obtain rfl := Option.some.inj H
         go_wp2
         go_ret
         exact ⟨by first | rfl | (simp; done) | (simp [*]; done), by repeat (first | exact Drawn0.refl _ | apply Drawn0.step)⟩

/-! ### sieveref01_second: function 74 -/
def sieveref01_second.f (a0 : Int) (a1 : Int) : Option (Bool) := if a0 = 224 then (if a1 ≥ 160 then (some (decide (a1 ≤ 191))) else (some false)) else (if a0 = 237 then (if a1 ≥ 128 then (some (decide (a1 ≤ 159))) else (some false)) else (if a0 = 240 then (if a1 ≥ 144 then (some (decide (a1 ≤ 191))) else (some false)) else (if a0 = 244 then (if a1 ≥ 128 then (some (decide (a1 ≤ 143))) else (some false)) else (if a1 ≥ 128 then (some (decide (a1 ≤ 191))) else (some false)))))
set_option maxHeartbeats 8000000 in
set_option maxRecDepth 100000 in
theorem sieveref01_second.calls (a0 : Int) (a1 : Int) (r : Bool) (w : World) (h : sieveref01_second.f a0 a1 = some r) :
  Calls Try.prog 74 #[.int .u8 a0, .int .u8 a1] w fun e w' => e = .returned (.bool r) ∧ Drawn0 w w' := by
 have H : (if a0 = 224 then (if a1 ≥ 160 then (some (decide (a1 ≤ 191))) else (some false)) else (if a0 = 237 then (if a1 ≥ 128 then (some (decide (a1 ≤ 159))) else (some false)) else (if a0 = 240 then (if a1 ≥ 144 then (some (decide (a1 ≤ 191))) else (some false)) else (if a0 = 244 then (if a1 ≥ 128 then (some (decide (a1 ≤ 143))) else (some false)) else (if a1 ≥ 128 then (some (decide (a1 ≤ 191))) else (some false)))))) = some r := h
 clear h
 by_cases c3 : a0 = 224
 ·rw [if_pos c3] at H
  have c3b0 : (a0 == 224) = true := beq_iff_eq.mpr c3
  have c3b1 : (a0 != 224) = false := bne_eq_false_iff_eq.mpr c3
  clear c3
  by_cases c4 : a1 ≥ 160
  ·rw [if_pos c4] at H
   have c4b0 : decide (160 ≤ a1) = true := decide_eq_true c4
   clear c4
   obtain rfl := Option.some.inj H
   go_enter Try.func74, Try.ntmps74
   go_wp2
   go_ret
   exact ⟨by first | rfl | (simp; done) | (simp [*]; done), by repeat (first | exact Drawn0.refl _ | apply Drawn0.step)⟩
  ·rw [if_neg c4] at H
   have c4b0 : decide (160 ≤ a1) = false := decide_eq_false c4
   clear c4
   obtain rfl := Option.some.inj H
   go_enter Try.func74, Try.ntmps74
   go_wp2
   go_ret
   exact ⟨by first | rfl | (simp; done) | (simp [*]; done), by repeat (first | exact Drawn0.refl _ | apply Drawn0.step)⟩
 ·rw [if_neg c3] at H
  have c3b0 : (a0 == 224) = false := beq_eq_false_iff_ne.mpr c3
  have c3b1 : (a0 != 224) = true := bne_iff_ne.mpr c3
  by_cases c5 : a0 = 237
  ·rw [if_pos c5] at H
   have c5b0 : (a0 == 237) = true := beq_iff_eq.mpr c5
   have c5b1 : (a0 != 237) = false := bne_eq_false_iff_eq.mpr c5
   clear c5
   by_cases c6 : a1 ≥ 128
   ·rw [if_pos c6] at H
    have c6b0 : decide (128 ≤ a1) = true := decide_eq_true c6
    clear c6
    obtain rfl := Option.some.inj H
    go_enter Try.func74, Try.ntmps74
    go_wp2
    go_ret
    exact ⟨by first | rfl | (simp; done) | (simp [*]; done), by repeat (first | exact Drawn0.refl _ | apply Drawn0.step)⟩
   ·rw [if_neg c6] at H
    have c6b0 : decide (128 ≤ a1) = false := decide_eq_false c6
    clear c6
    obtain rfl := Option.some.inj H
    go_enter Try.func74, Try.ntmps74
    go_wp2
    go_ret
    exact ⟨by first | rfl | (simp; done) | (simp [*]; done), by repeat (first | exact Drawn0.refl _ | apply Drawn0.step)⟩
  ·rw [if_neg c5] at H
   have c5b0 : (a0 == 237) = false := beq_eq_false_iff_ne.mpr c5
   have c5b1 : (a0 != 237) = true := bne_iff_ne.mpr c5
   by_cases c7 : a0 = 240
   ·rw [if_pos c7] at H
    have c7b0 : (a0 == 240) = true := beq_iff_eq.mpr c7
    have c7b1 : (a0 != 240) = false := bne_eq_false_iff_eq.mpr c7
    clear c7
    by_cases c8 : a1 ≥ 144
    ·rw [if_pos c8] at H
     have c8b0 : decide (144 ≤ a1) = true := decide_eq_true c8
     clear c8
     obtain rfl := Option.some.inj H
     go_enter Try.func74, Try.ntmps74
     go_wp2
     go_ret
     exact ⟨by first | rfl | (simp; done) | (simp [*]; done), by repeat (first | exact Drawn0.refl _ | apply Drawn0.step)⟩
    ·rw [if_neg c8] at H
     have c8b0 : decide (144 ≤ a1) = false := decide_eq_false c8
     clear c8
     obtain rfl := Option.some.inj H
     go_enter Try.func74, Try.ntmps74
     go_wp2
     go_ret
     exact ⟨by first | rfl | (simp; done) | (simp [*]; done), by repeat (first | exact Drawn0.refl _ | apply Drawn0.step)⟩
   ·rw [if_neg c7] at H
    have c7b0 : (a0 == 240) = false := beq_eq_false_iff_ne.mpr c7
    have c7b1 : (a0 != 240) = true := bne_iff_ne.mpr c7
    by_cases c9 : a0 = 244
    ·rw [if_pos c9] at H
     have c9b0 : (a0 == 244) = true := beq_iff_eq.mpr c9
     have c9b1 : (a0 != 244) = false := bne_eq_false_iff_eq.mpr c9
     clear c9
     by_cases c10 : a1 ≥ 128
     ·rw [if_pos c10] at H
      have c10b0 : decide (128 ≤ a1) = true := decide_eq_true c10
      clear c10
      obtain rfl := Option.some.inj H
      go_enter Try.func74, Try.ntmps74
      go_wp2
      go_ret
      exact ⟨by first | rfl | (simp; done) | (simp [*]; done), by repeat (first | exact Drawn0.refl _ | apply Drawn0.step)⟩
     ·rw [if_neg c10] at H
      have c10b0 : decide (128 ≤ a1) = false := decide_eq_false c10
      clear c10
      obtain rfl := Option.some.inj H
      go_enter Try.func74, Try.ntmps74
      go_wp2
      go_ret
      exact ⟨by first | rfl | (simp; done) | (simp [*]; done), by repeat (first | exact Drawn0.refl _ | apply Drawn0.step)⟩
    ·rw [if_neg c9] at H
     have c9b0 : (a0 == 244) = false := beq_eq_false_iff_ne.mpr c9
     have c9b1 : (a0 != 244) = true := bne_iff_ne.mpr c9
     by_cases c11 : a1 ≥ 128
     ·rw [if_pos c11] at H
      have c11b0 : decide (128 ≤ a1) = true := decide_eq_true c11
      clear c11
      obtain rfl := Option.some.inj H
      go_enter Try.func74, Try.ntmps74
      go_wp2
      go_ret
      exact ⟨by first | rfl | (simp; done) | (simp [*]; done), by repeat (first | exact Drawn0.refl _ | apply Drawn0.step)⟩
     ·rw [if_neg c11] at H
      have c11b0 : decide (128 ≤ a1) = false := decide_eq_false c11
      clear c11
      obtain rfl := Option.some.inj H
      go_enter Try.func74, Try.ntmps74
      go_wp2
      go_ret
      exact ⟨by first | rfl | (simp; done) | (simp [*]; done), by repeat (first | exact Drawn0.refl _ | apply Drawn0.step)⟩

end Go.Proofs.Ytilpbfbnnmclhaa.P
end
section
/-
  The table of named references as plain data, and the contract of 'api.Entities': it hands back a new slice that holds just this table.
-/
namespace Go.Proofs.Ytilpbfbnnmclhaa.P
open Go.RowKit Go.Proofs.YtilpbfbnnmclhaaW.PrintWords Go.Proofs.YtilpbfbnnmclhaaW.PrintLast Go.Proofs.YtilpbfbnnmclhaaW.PrintMore
set_option linter.unusedVariables false

def ents : List S98 := [
  ⟨⟨#[65, 69, 108, 105, 103]⟩, 198, 0, true⟩,
  ⟨⟨#[65, 77, 80]⟩, 38, 0, true⟩,
  ⟨⟨#[65, 97, 99, 117, 116, 101]⟩, 193, 0, true⟩,
  ⟨⟨#[65, 99, 105, 114, 99]⟩, 194, 0, true⟩,
  ⟨⟨#[65, 102, 114]⟩, 120068, 0, false⟩,
  ⟨⟨#[65, 103, 114, 97, 118, 101]⟩, 192, 0, true⟩,
  ⟨⟨#[65, 108, 112, 104, 97]⟩, 913, 0, false⟩,
  ⟨⟨#[65, 114, 105, 110, 103]⟩, 197, 0, true⟩,
  ⟨⟨#[65, 116, 105, 108, 100, 101]⟩, 195, 0, true⟩,
  ⟨⟨#[65, 117, 109, 108]⟩, 196, 0, true⟩,
  ⟨⟨#[66, 101, 116, 97]⟩, 914, 0, false⟩,
  ⟨⟨#[67, 79, 80, 89]⟩, 169, 0, true⟩,
  ⟨⟨#[67, 99, 101, 100, 105, 108]⟩, 199, 0, true⟩,
  ⟨⟨#[67, 104, 105]⟩, 935, 0, false⟩,
  ⟨⟨#[67, 111, 112, 102]⟩, 8450, 0, false⟩,
  ⟨⟨#[68, 97, 103, 103, 101, 114]⟩, 8225, 0, false⟩,
  ⟨⟨#[68, 101, 108, 116, 97]⟩, 916, 0, false⟩,
  ⟨⟨#[69, 84, 72]⟩, 208, 0, true⟩,
  ⟨⟨#[69, 97, 99, 117, 116, 101]⟩, 201, 0, true⟩,
  ⟨⟨#[69, 99, 105, 114, 99]⟩, 202, 0, true⟩,
  ⟨⟨#[69, 103, 114, 97, 118, 101]⟩, 200, 0, true⟩,
  ⟨⟨#[69, 112, 115, 105, 108, 111, 110]⟩, 917, 0, false⟩,
  ⟨⟨#[69, 116, 97]⟩, 919, 0, false⟩,
  ⟨⟨#[69, 117, 109, 108]⟩, 203, 0, true⟩,
  ⟨⟨#[71, 84]⟩, 62, 0, true⟩,
  ⟨⟨#[71, 97, 109, 109, 97]⟩, 915, 0, false⟩,
  ⟨⟨#[72, 97, 116]⟩, 94, 0, false⟩,
  ⟨⟨#[73, 97, 99, 117, 116, 101]⟩, 205, 0, true⟩,
  ⟨⟨#[73, 99, 105, 114, 99]⟩, 206, 0, true⟩,
  ⟨⟨#[73, 103, 114, 97, 118, 101]⟩, 204, 0, true⟩,
  ⟨⟨#[73, 111, 116, 97]⟩, 921, 0, false⟩,
  ⟨⟨#[73, 117, 109, 108]⟩, 207, 0, true⟩,
  ⟨⟨#[75, 97, 112, 112, 97]⟩, 922, 0, false⟩,
  ⟨⟨#[76, 84]⟩, 60, 0, true⟩,
  ⟨⟨#[76, 97, 109, 98, 100, 97]⟩, 923, 0, false⟩,
  ⟨⟨#[77, 117]⟩, 924, 0, false⟩,
  ⟨⟨#[78, 101, 119, 76, 105, 110, 101]⟩, 10, 0, false⟩,
  ⟨⟨#[78, 111, 116, 69, 113, 117, 97, 108, 84, 105, 108, 100, 101]⟩, 8770, 824, false⟩,
  ⟨⟨#[78, 116, 105, 108, 100, 101]⟩, 209, 0, true⟩,
  ⟨⟨#[78, 117]⟩, 925, 0, false⟩,
  ⟨⟨#[79, 69, 108, 105, 103]⟩, 338, 0, false⟩,
  ⟨⟨#[79, 97, 99, 117, 116, 101]⟩, 211, 0, true⟩,
  ⟨⟨#[79, 99, 105, 114, 99]⟩, 212, 0, true⟩,
  ⟨⟨#[79, 103, 114, 97, 118, 101]⟩, 210, 0, true⟩,
  ⟨⟨#[79, 109, 101, 103, 97]⟩, 937, 0, false⟩,
  ⟨⟨#[79, 109, 105, 99, 114, 111, 110]⟩, 927, 0, false⟩,
  ⟨⟨#[79, 115, 108, 97, 115, 104]⟩, 216, 0, true⟩,
  ⟨⟨#[79, 116, 105, 108, 100, 101]⟩, 213, 0, true⟩,
  ⟨⟨#[79, 117, 109, 108]⟩, 214, 0, true⟩,
  ⟨⟨#[80, 104, 105]⟩, 934, 0, false⟩,
  ⟨⟨#[80, 105]⟩, 928, 0, false⟩,
  ⟨⟨#[80, 114, 105, 109, 101]⟩, 8243, 0, false⟩,
  ⟨⟨#[80, 115, 105]⟩, 936, 0, false⟩,
  ⟨⟨#[81, 85, 79, 84]⟩, 34, 0, true⟩,
  ⟨⟨#[82, 69, 71]⟩, 174, 0, true⟩,
  ⟨⟨#[82, 104, 111]⟩, 929, 0, false⟩,
  ⟨⟨#[83, 99, 97, 114, 111, 110]⟩, 352, 0, false⟩,
  ⟨⟨#[83, 105, 103, 109, 97]⟩, 931, 0, false⟩,
  ⟨⟨#[84, 72, 79, 82, 78]⟩, 222, 0, true⟩,
  ⟨⟨#[84, 97, 98]⟩, 9, 0, false⟩,
  ⟨⟨#[84, 97, 117]⟩, 932, 0, false⟩,
  ⟨⟨#[84, 104, 101, 116, 97]⟩, 920, 0, false⟩,
  ⟨⟨#[84, 104, 105, 99, 107, 83, 112, 97, 99, 101]⟩, 8287, 8202, false⟩,
  ⟨⟨#[85, 97, 99, 117, 116, 101]⟩, 218, 0, true⟩,
  ⟨⟨#[85, 99, 105, 114, 99]⟩, 219, 0, true⟩,
  ⟨⟨#[85, 103, 114, 97, 118, 101]⟩, 217, 0, true⟩,
  ⟨⟨#[85, 112, 115, 105, 108, 111, 110]⟩, 933, 0, false⟩,
  ⟨⟨#[85, 117, 109, 108]⟩, 220, 0, true⟩,
  ⟨⟨#[88, 105]⟩, 926, 0, false⟩,
  ⟨⟨#[89, 97, 99, 117, 116, 101]⟩, 221, 0, true⟩,
  ⟨⟨#[89, 117, 109, 108]⟩, 376, 0, false⟩,
  ⟨⟨#[90, 101, 116, 97]⟩, 918, 0, false⟩,
  ⟨⟨#[97, 97, 99, 117, 116, 101]⟩, 225, 0, true⟩,
  ⟨⟨#[97, 99, 105, 114, 99]⟩, 226, 0, true⟩,
  ⟨⟨#[97, 99, 117, 116, 101]⟩, 180, 0, true⟩,
  ⟨⟨#[97, 101, 108, 105, 103]⟩, 230, 0, true⟩,
  ⟨⟨#[97, 103, 114, 97, 118, 101]⟩, 224, 0, true⟩,
  ⟨⟨#[97, 108, 101, 102, 115, 121, 109]⟩, 8501, 0, false⟩,
  ⟨⟨#[97, 108, 112, 104, 97]⟩, 945, 0, false⟩,
  ⟨⟨#[97, 109, 112]⟩, 38, 0, true⟩,
  ⟨⟨#[97, 110, 100]⟩, 8743, 0, false⟩,
  ⟨⟨#[97, 110, 103]⟩, 8736, 0, false⟩,
  ⟨⟨#[97, 112, 111, 115]⟩, 39, 0, false⟩,
  ⟨⟨#[97, 114, 105, 110, 103]⟩, 229, 0, true⟩,
  ⟨⟨#[97, 115, 116]⟩, 42, 0, false⟩,
  ⟨⟨#[97, 115, 121, 109, 112]⟩, 8776, 0, false⟩,
  ⟨⟨#[97, 116, 105, 108, 100, 101]⟩, 227, 0, true⟩,
  ⟨⟨#[97, 117, 109, 108]⟩, 228, 0, true⟩,
  ⟨⟨#[98, 100, 113, 117, 111]⟩, 8222, 0, false⟩,
  ⟨⟨#[98, 101, 116, 97]⟩, 946, 0, false⟩,
  ⟨⟨#[98, 110, 101]⟩, 61, 8421, false⟩,
  ⟨⟨#[98, 114, 118, 98, 97, 114]⟩, 166, 0, true⟩,
  ⟨⟨#[98, 115, 111, 108]⟩, 92, 0, false⟩,
  ⟨⟨#[98, 117, 108, 108]⟩, 8226, 0, false⟩,
  ⟨⟨#[99, 97, 112]⟩, 8745, 0, false⟩,
  ⟨⟨#[99, 99, 101, 100, 105, 108]⟩, 231, 0, true⟩,
  ⟨⟨#[99, 101, 100, 105, 108]⟩, 184, 0, true⟩,
  ⟨⟨#[99, 101, 110, 116]⟩, 162, 0, true⟩,
  ⟨⟨#[99, 104, 105]⟩, 967, 0, false⟩,
  ⟨⟨#[99, 105, 114, 99]⟩, 710, 0, false⟩,
  ⟨⟨#[99, 108, 117, 98, 115]⟩, 9827, 0, false⟩,
  ⟨⟨#[99, 111, 108, 111, 110]⟩, 58, 0, false⟩,
  ⟨⟨#[99, 111, 109, 109, 97]⟩, 44, 0, false⟩,
  ⟨⟨#[99, 111, 109, 109, 97, 116]⟩, 64, 0, false⟩,
  ⟨⟨#[99, 111, 110, 103]⟩, 8773, 0, false⟩,
  ⟨⟨#[99, 111, 112, 121]⟩, 169, 0, true⟩,
  ⟨⟨#[99, 114, 97, 114, 114]⟩, 8629, 0, false⟩,
  ⟨⟨#[99, 117, 112]⟩, 8746, 0, false⟩,
  ⟨⟨#[99, 117, 114, 114, 101, 110]⟩, 164, 0, true⟩,
  ⟨⟨#[100, 65, 114, 114]⟩, 8659, 0, false⟩,
  ⟨⟨#[100, 97, 103, 103, 101, 114]⟩, 8224, 0, false⟩,
  ⟨⟨#[100, 97, 114, 114]⟩, 8595, 0, false⟩,
  ⟨⟨#[100, 101, 103]⟩, 176, 0, true⟩,
  ⟨⟨#[100, 101, 108, 116, 97]⟩, 948, 0, false⟩,
  ⟨⟨#[100, 105, 97, 109, 115]⟩, 9830, 0, false⟩,
  ⟨⟨#[100, 105, 118, 105, 100, 101]⟩, 247, 0, true⟩,
  ⟨⟨#[100, 111, 108, 108, 97, 114]⟩, 36, 0, false⟩,
  ⟨⟨#[101, 97, 99, 117, 116, 101]⟩, 233, 0, true⟩,
  ⟨⟨#[101, 99, 105, 114, 99]⟩, 234, 0, true⟩,
  ⟨⟨#[101, 103, 114, 97, 118, 101]⟩, 232, 0, true⟩,
  ⟨⟨#[101, 109, 112, 116, 121]⟩, 8709, 0, false⟩,
  ⟨⟨#[101, 109, 115, 112]⟩, 8195, 0, false⟩,
  ⟨⟨#[101, 110, 115, 112]⟩, 8194, 0, false⟩,
  ⟨⟨#[101, 112, 115, 105, 108, 111, 110]⟩, 949, 0, false⟩,
  ⟨⟨#[101, 113, 117, 97, 108, 115]⟩, 61, 0, false⟩,
  ⟨⟨#[101, 113, 117, 105, 118]⟩, 8801, 0, false⟩,
  ⟨⟨#[101, 116, 97]⟩, 951, 0, false⟩,
  ⟨⟨#[101, 116, 104]⟩, 240, 0, true⟩,
  ⟨⟨#[101, 117, 109, 108]⟩, 235, 0, true⟩,
  ⟨⟨#[101, 117, 114, 111]⟩, 8364, 0, false⟩,
  ⟨⟨#[101, 120, 99, 108]⟩, 33, 0, false⟩,
  ⟨⟨#[101, 120, 105, 115, 116]⟩, 8707, 0, false⟩,
  ⟨⟨#[102, 106, 108, 105, 103]⟩, 102, 106, false⟩,
  ⟨⟨#[102, 110, 111, 102]⟩, 402, 0, false⟩,
  ⟨⟨#[102, 111, 114, 97, 108, 108]⟩, 8704, 0, false⟩,
  ⟨⟨#[102, 114, 97, 99, 49, 50]⟩, 189, 0, true⟩,
  ⟨⟨#[102, 114, 97, 99, 49, 52]⟩, 188, 0, true⟩,
  ⟨⟨#[102, 114, 97, 99, 51, 52]⟩, 190, 0, true⟩,
  ⟨⟨#[102, 114, 97, 115, 108]⟩, 8260, 0, false⟩,
  ⟨⟨#[103, 97, 109, 109, 97]⟩, 947, 0, false⟩,
  ⟨⟨#[103, 101]⟩, 8805, 0, false⟩,
  ⟨⟨#[103, 114, 97, 118, 101]⟩, 96, 0, false⟩,
  ⟨⟨#[103, 116]⟩, 62, 0, true⟩,
  ⟨⟨#[104, 65, 114, 114]⟩, 8660, 0, false⟩,
  ⟨⟨#[104, 97, 114, 114]⟩, 8596, 0, false⟩,
  ⟨⟨#[104, 101, 97, 114, 116, 115]⟩, 9829, 0, false⟩,
  ⟨⟨#[104, 101, 108, 108, 105, 112]⟩, 8230, 0, false⟩,
  ⟨⟨#[105, 97, 99, 117, 116, 101]⟩, 237, 0, true⟩,
  ⟨⟨#[105, 99, 105, 114, 99]⟩, 238, 0, true⟩,
  ⟨⟨#[105, 101, 120, 99, 108]⟩, 161, 0, true⟩,
  ⟨⟨#[105, 103, 114, 97, 118, 101]⟩, 236, 0, true⟩,
  ⟨⟨#[105, 109, 97, 103, 101]⟩, 8465, 0, false⟩,
  ⟨⟨#[105, 110, 102, 105, 110]⟩, 8734, 0, false⟩,
  ⟨⟨#[105, 110, 116]⟩, 8747, 0, false⟩,
  ⟨⟨#[105, 111, 116, 97]⟩, 953, 0, false⟩,
  ⟨⟨#[105, 113, 117, 101, 115, 116]⟩, 191, 0, true⟩,
  ⟨⟨#[105, 115, 105, 110]⟩, 8712, 0, false⟩,
  ⟨⟨#[105, 117, 109, 108]⟩, 239, 0, true⟩,
  ⟨⟨#[107, 97, 112, 112, 97]⟩, 954, 0, false⟩,
  ⟨⟨#[108, 65, 114, 114]⟩, 8656, 0, false⟩,
  ⟨⟨#[108, 97, 109, 98, 100, 97]⟩, 955, 0, false⟩,
  ⟨⟨#[108, 97, 110, 103]⟩, 10216, 0, false⟩,
  ⟨⟨#[108, 97, 113, 117, 111]⟩, 171, 0, true⟩,
  ⟨⟨#[108, 97, 114, 114]⟩, 8592, 0, false⟩,
  ⟨⟨#[108, 98, 114, 97, 99, 101]⟩, 123, 0, false⟩,
  ⟨⟨#[108, 98, 114, 97, 99, 107]⟩, 91, 0, false⟩,
  ⟨⟨#[108, 99, 101, 105, 108]⟩, 8968, 0, false⟩,
  ⟨⟨#[108, 99, 117, 98]⟩, 123, 0, false⟩,
  ⟨⟨#[108, 100, 113, 117, 111]⟩, 8220, 0, false⟩,
  ⟨⟨#[108, 101]⟩, 8804, 0, false⟩,
  ⟨⟨#[108, 102, 108, 111, 111, 114]⟩, 8970, 0, false⟩,
  ⟨⟨#[108, 111, 119, 97, 115, 116]⟩, 8727, 0, false⟩,
  ⟨⟨#[108, 111, 119, 98, 97, 114]⟩, 95, 0, false⟩,
  ⟨⟨#[108, 111, 122]⟩, 9674, 0, false⟩,
  ⟨⟨#[108, 112, 97, 114]⟩, 40, 0, false⟩,
  ⟨⟨#[108, 114, 109]⟩, 8206, 0, false⟩,
  ⟨⟨#[108, 115, 97, 113, 117, 111]⟩, 8249, 0, false⟩,
  ⟨⟨#[108, 115, 113, 98]⟩, 91, 0, false⟩,
  ⟨⟨#[108, 115, 113, 117, 111]⟩, 8216, 0, false⟩,
  ⟨⟨#[108, 116]⟩, 60, 0, true⟩,
  ⟨⟨#[109, 97, 99, 114]⟩, 175, 0, true⟩,
  ⟨⟨#[109, 100, 97, 115, 104]⟩, 8212, 0, false⟩,
  ⟨⟨#[109, 105, 99, 114, 111]⟩, 181, 0, true⟩,
  ⟨⟨#[109, 105, 100, 100, 111, 116]⟩, 183, 0, true⟩,
  ⟨⟨#[109, 105, 110, 117, 115]⟩, 8722, 0, false⟩,
  ⟨⟨#[109, 117]⟩, 956, 0, false⟩,
  ⟨⟨#[110, 97, 98, 108, 97]⟩, 8711, 0, false⟩,
  ⟨⟨#[110, 98, 115, 112]⟩, 160, 0, true⟩,
  ⟨⟨#[110, 100, 97, 115, 104]⟩, 8211, 0, false⟩,
  ⟨⟨#[110, 101]⟩, 8800, 0, false⟩,
  ⟨⟨#[110, 105]⟩, 8715, 0, false⟩,
  ⟨⟨#[110, 111, 116]⟩, 172, 0, true⟩,
  ⟨⟨#[110, 111, 116, 105, 110]⟩, 8713, 0, false⟩,
  ⟨⟨#[110, 111, 116, 105, 110, 118, 97]⟩, 8713, 0, false⟩,
  ⟨⟨#[110, 111, 116, 110, 105]⟩, 8716, 0, false⟩,
  ⟨⟨#[110, 115, 117, 98]⟩, 8836, 0, false⟩,
  ⟨⟨#[110, 116, 105, 108, 100, 101]⟩, 241, 0, true⟩,
  ⟨⟨#[110, 117]⟩, 957, 0, false⟩,
  ⟨⟨#[110, 117, 109]⟩, 35, 0, false⟩,
  ⟨⟨#[110, 118, 108, 116]⟩, 60, 8402, false⟩,
  ⟨⟨#[111, 97, 99, 117, 116, 101]⟩, 243, 0, true⟩,
  ⟨⟨#[111, 99, 105, 114, 99]⟩, 244, 0, true⟩,
  ⟨⟨#[111, 101, 108, 105, 103]⟩, 339, 0, false⟩,
  ⟨⟨#[111, 103, 114, 97, 118, 101]⟩, 242, 0, true⟩,
  ⟨⟨#[111, 108, 105, 110, 101]⟩, 8254, 0, false⟩,
  ⟨⟨#[111, 109, 101, 103, 97]⟩, 969, 0, false⟩,
  ⟨⟨#[111, 109, 105, 99, 114, 111, 110]⟩, 959, 0, false⟩,
  ⟨⟨#[111, 112, 108, 117, 115]⟩, 8853, 0, false⟩,
  ⟨⟨#[111, 114]⟩, 8744, 0, false⟩,
  ⟨⟨#[111, 114, 100, 102]⟩, 170, 0, true⟩,
  ⟨⟨#[111, 114, 100, 109]⟩, 186, 0, true⟩,
  ⟨⟨#[111, 115, 108, 97, 115, 104]⟩, 248, 0, true⟩,
  ⟨⟨#[111, 116, 105, 108, 100, 101]⟩, 245, 0, true⟩,
  ⟨⟨#[111, 116, 105, 109, 101, 115]⟩, 8855, 0, false⟩,
  ⟨⟨#[111, 117, 109, 108]⟩, 246, 0, true⟩,
  ⟨⟨#[112, 97, 114, 97]⟩, 182, 0, true⟩,
  ⟨⟨#[112, 97, 114, 116]⟩, 8706, 0, false⟩,
  ⟨⟨#[112, 101, 114, 99, 110, 116]⟩, 37, 0, false⟩,
  ⟨⟨#[112, 101, 114, 105, 111, 100]⟩, 46, 0, false⟩,
  ⟨⟨#[112, 101, 114, 109, 105, 108]⟩, 8240, 0, false⟩,
  ⟨⟨#[112, 101, 114, 112]⟩, 8869, 0, false⟩,
  ⟨⟨#[112, 104, 105]⟩, 966, 0, false⟩,
  ⟨⟨#[112, 105]⟩, 960, 0, false⟩,
  ⟨⟨#[112, 105, 118]⟩, 982, 0, false⟩,
  ⟨⟨#[112, 108, 117, 115]⟩, 43, 0, false⟩,
  ⟨⟨#[112, 108, 117, 115, 109, 110]⟩, 177, 0, true⟩,
  ⟨⟨#[112, 111, 117, 110, 100]⟩, 163, 0, true⟩,
  ⟨⟨#[112, 114, 105, 109, 101]⟩, 8242, 0, false⟩,
  ⟨⟨#[112, 114, 111, 100]⟩, 8719, 0, false⟩,
  ⟨⟨#[112, 114, 111, 112]⟩, 8733, 0, false⟩,
  ⟨⟨#[112, 115, 105]⟩, 968, 0, false⟩,
  ⟨⟨#[113, 117, 101, 115, 116]⟩, 63, 0, false⟩,
  ⟨⟨#[113, 117, 111, 116]⟩, 34, 0, true⟩,
  ⟨⟨#[114, 65, 114, 114]⟩, 8658, 0, false⟩,
  ⟨⟨#[114, 97, 100, 105, 99]⟩, 8730, 0, false⟩,
  ⟨⟨#[114, 97, 110, 103]⟩, 10217, 0, false⟩,
  ⟨⟨#[114, 97, 113, 117, 111]⟩, 187, 0, true⟩,
  ⟨⟨#[114, 97, 114, 114]⟩, 8594, 0, false⟩,
  ⟨⟨#[114, 98, 114, 97, 99, 101]⟩, 125, 0, false⟩,
  ⟨⟨#[114, 98, 114, 97, 99, 107]⟩, 93, 0, false⟩,
  ⟨⟨#[114, 99, 101, 105, 108]⟩, 8969, 0, false⟩,
  ⟨⟨#[114, 99, 117, 98]⟩, 125, 0, false⟩,
  ⟨⟨#[114, 100, 113, 117, 111]⟩, 8221, 0, false⟩,
  ⟨⟨#[114, 101, 97, 108]⟩, 8476, 0, false⟩,
  ⟨⟨#[114, 101, 103]⟩, 174, 0, true⟩,
  ⟨⟨#[114, 102, 108, 111, 111, 114]⟩, 8971, 0, false⟩,
  ⟨⟨#[114, 104, 111]⟩, 961, 0, false⟩,
  ⟨⟨#[114, 108, 109]⟩, 8207, 0, false⟩,
  ⟨⟨#[114, 112, 97, 114]⟩, 41, 0, false⟩,
  ⟨⟨#[114, 115, 97, 113, 117, 111]⟩, 8250, 0, false⟩,
  ⟨⟨#[114, 115, 113, 98]⟩, 93, 0, false⟩,
  ⟨⟨#[114, 115, 113, 117, 111]⟩, 8217, 0, false⟩,
  ⟨⟨#[115, 98, 113, 117, 111]⟩, 8218, 0, false⟩,
  ⟨⟨#[115, 99, 97, 114, 111, 110]⟩, 353, 0, false⟩,
  ⟨⟨#[115, 100, 111, 116]⟩, 8901, 0, false⟩,
  ⟨⟨#[115, 101, 99, 116]⟩, 167, 0, true⟩,
  ⟨⟨#[115, 101, 109, 105]⟩, 59, 0, false⟩,
  ⟨⟨#[115, 104, 121]⟩, 173, 0, true⟩,
  ⟨⟨#[115, 105, 103, 109, 97]⟩, 963, 0, false⟩,
  ⟨⟨#[115, 105, 103, 109, 97, 102]⟩, 962, 0, false⟩,
  ⟨⟨#[115, 105, 109]⟩, 8764, 0, false⟩,
  ⟨⟨#[115, 111, 108]⟩, 47, 0, false⟩,
  ⟨⟨#[115, 112, 97, 100, 101, 115]⟩, 9824, 0, false⟩,
  ⟨⟨#[115, 117, 98]⟩, 8834, 0, false⟩,
  ⟨⟨#[115, 117, 98, 101]⟩, 8838, 0, false⟩,
  ⟨⟨#[115, 117, 109]⟩, 8721, 0, false⟩,
  ⟨⟨#[115, 117, 112]⟩, 8835, 0, false⟩,
  ⟨⟨#[115, 117, 112, 49]⟩, 185, 0, true⟩,
  ⟨⟨#[115, 117, 112, 50]⟩, 178, 0, true⟩,
  ⟨⟨#[115, 117, 112, 51]⟩, 179, 0, true⟩,
  ⟨⟨#[115, 117, 112, 101]⟩, 8839, 0, false⟩,
  ⟨⟨#[115, 122, 108, 105, 103]⟩, 223, 0, true⟩,
  ⟨⟨#[116, 97, 117]⟩, 964, 0, false⟩,
  ⟨⟨#[116, 104, 101, 114, 101, 52]⟩, 8756, 0, false⟩,
  ⟨⟨#[116, 104, 101, 116, 97]⟩, 952, 0, false⟩,
  ⟨⟨#[116, 104, 101, 116, 97, 115, 121, 109]⟩, 977, 0, false⟩,
  ⟨⟨#[116, 104, 105, 110, 115, 112]⟩, 8201, 0, false⟩,
  ⟨⟨#[116, 104, 111, 114, 110]⟩, 254, 0, true⟩,
  ⟨⟨#[116, 105, 108, 100, 101]⟩, 732, 0, false⟩,
  ⟨⟨#[116, 105, 109, 101, 115]⟩, 215, 0, true⟩,
  ⟨⟨#[116, 114, 97, 100, 101]⟩, 8482, 0, false⟩,
  ⟨⟨#[117, 65, 114, 114]⟩, 8657, 0, false⟩,
  ⟨⟨#[117, 97, 99, 117, 116, 101]⟩, 250, 0, true⟩,
  ⟨⟨#[117, 97, 114, 114]⟩, 8593, 0, false⟩,
  ⟨⟨#[117, 99, 105, 114, 99]⟩, 251, 0, true⟩,
  ⟨⟨#[117, 103, 114, 97, 118, 101]⟩, 249, 0, true⟩,
  ⟨⟨#[117, 109, 108]⟩, 168, 0, true⟩,
  ⟨⟨#[117, 112, 115, 105, 104]⟩, 978, 0, false⟩,
  ⟨⟨#[117, 112, 115, 105, 108, 111, 110]⟩, 965, 0, false⟩,
  ⟨⟨#[117, 117, 109, 108]⟩, 252, 0, true⟩,
  ⟨⟨#[118, 101, 114, 98, 97, 114]⟩, 124, 0, false⟩,
  ⟨⟨#[118, 101, 114, 116]⟩, 124, 0, false⟩,
  ⟨⟨#[119, 101, 105, 101, 114, 112]⟩, 8472, 0, false⟩,
  ⟨⟨#[120, 105]⟩, 958, 0, false⟩,
  ⟨⟨#[121, 97, 99, 117, 116, 101]⟩, 253, 0, true⟩,
  ⟨⟨#[121, 101, 110]⟩, 165, 0, true⟩,
  ⟨⟨#[121, 117, 109, 108]⟩, 255, 0, true⟩,
  ⟨⟨#[122, 101, 116, 97]⟩, 950, 0, false⟩,
  ⟨⟨#[122, 102, 114]⟩, 120119, 0, false⟩,
  ⟨⟨#[122, 119, 106]⟩, 8205, 0, false⟩,
  ⟨⟨#[122, 119, 110, 106]⟩, 8204, 0, false⟩]
def api_Entities.f : Option (List S98) := some ents
def entV (x : S98) : Value := .agg #[.string x.f0, .int .i32 x.f1, .int .i32 x.f2, .bool x.f3]
def entCells (x : S98) : List Value := [.string x.f0, .int .i32 x.f1, .int .i32 x.f2, .bool x.f3]

/-- what an operation that builds an entity of constants into slot k builds -/
def entOp (k : Nat) (o : Oper) : Option S98 :=
  match o with
  | ⟨some d, .build t ps, _, _, _, none⟩ =>
    match ps.toList with
    | [(0, .const (.string s)), (1, .const (.int .i32 a)), (2, .const (.int .i32 b)), (3, .const (.bool c))] =>
      if d = k then (if t = 98 then some ⟨s, a, b, c⟩ else none) else none
    | _ => none
  | _ => none
def entExt : Nat → List Oper → List S98
  | _, [] => []
  | k, o :: os => match entOp k o with | some x => x :: entExt (k + 1) os | none => []

theorem entOp_some {k : Nat} {o : Oper} {x : S98} (h : entOp k o = some x) :
    ∃ ty pos after, o = ⟨some k, .build 98 #[(0, .const (.string x.f0)), (1, .const (.int .i32 x.f1)), (2, .const (.int .i32 x.f2)), (3, .const (.bool x.f3))], ty, pos, after, none⟩ := by
  unfold entOp at h
  split at h
  · rename_i d t ps ty pos after
    split at h
    · rename_i s a b c hps
      split at h
      · rename_i hd
        split at h
        · rename_i ht
          injection h with h
          subst h hd ht
          refine ⟨ty, pos, after, ?_⟩
          have hp : ps = #[(0, .const (.string s)), (1, .const (.int .i32 a)), (2, .const (.int .i32 b)), (3, .const (.bool c))] := by
            rw [← Array.toArray_toList (xs := ps), hps]
          rw [hp]
        · cases h
      · cases h
    · cases h
  · cases h

theorem run_build_ent (w : World) (s : ByteArray) (a b : Int) (c : Bool) :
    (Instr.build 98 #[(0, .string s), (1, .int .i32 a), (2, .int .i32 b), (3, .bool c)]).run Try.prog w = .ok (.agg #[.string s, .int .i32 a, .int .i32 b, .bool c]) w := by kernel_rfl

theorem wp_build_ent {ops : Array Oper} {Q : Exit → Act → World → Prop} {rest : List Oper} {a : Act} {w : World} {k : Nat} {o : Oper} {x : S98} (h : entOp k o = some x)
    (hr : wpList Try.prog ops Q rest (a.put (some k) (entV x)) w) : wpList Try.prog ops Q (o :: rest) a w := by
  obtain ⟨ty, pos, after, rfl⟩ := entOp_some h
  refine wpList_plain rfl fun K hK => ?_
  have hb := run_build_ent w x.f0 x.f1 x.f2 x.f3
  unfold Oper.wp
  simp only [execOp, Act.eval, List.map_toArray, List.map_cons, List.map_nil, Sem.run_bind, hb, Result.andThen_ok, Sem.run_pure]
  exact hK _ _ hr

theorem wp_builds {ops : Array Oper} {Q : Exit → Act → World → Prop} {rest : List Oper} {w : World} : ∀ (os : List Oper) (k : Nat) (a : Act), (entExt k os).length = os.length → k + os.length ≤ a.tmps.size →
    (∀ a' : Act, a'.defers = a.defers → a'.tmps.size = a.tmps.size → (∀ j x, (entExt k os)[j]? = some x → a'.tmps[k + j]? = some (entV x)) → (∀ i, i < k → a'.tmps[i]? = a.tmps[i]?) → wpList Try.prog ops Q rest a' w) →
    wpList Try.prog ops Q (os ++ rest) a w
  | [], k, a, _, _, h => h a rfl rfl (fun j x hj => by simp [entExt] at hj) (fun _ _ => rfl)
  | o :: os, k, a, hl, hs, h => by
    cases he : entOp k o with
    | none => simp [entExt, he] at hl
    | some x =>
      have hx : entExt k (o :: os) = x :: entExt (k + 1) os := by simp [entExt, he]
      rw [hx] at hl h
      simp only [List.length_cons] at hl hs
      refine wp_build_ent he (wp_builds os (k + 1) _ (by omega) (by simp [Act.put]; omega) fun a' h1 h2 h3 h4 => ?_)
      refine h a' (by rw [h1]; rfl) (by rw [h2]; simp [Act.put]) (fun j y hj => ?_) (fun i hi => ?_)
      · cases j with
        | zero =>
          simp at hj
          subst hj
          rw [Nat.add_zero, h4 k (by omega)]
          simp [Act.put, show k < a.tmps.size by omega]
        | succ j =>
          simp only [List.getElem?_cons_succ] at hj
          rw [show k + (j + 1) = k + 1 + j from by omega]
          exact h3 j y hj
      · rw [h4 i (by omega)]
        simp [Act.put, show ¬ k = i by omega]

/-! ### the slice's cells -/
theorem fill_ents : ∀ (xs : List S98) (k : Nat) (dn : List Value) (tl : List Value), dn.length = k * 4 → tl.length = xs.length * 4 →
    Instr.fill (fun i => some (i * 4, 4)) (dn ++ tl).toArray ((xs.zipIdx k).map fun p => (p.2, entV p.1)) = some (dn ++ xs.flatMap entCells).toArray
  | [], k, dn, tl, _, ht => by
    obtain rfl : tl = [] := List.eq_nil_of_length_eq_zero (by simpa using ht)
    simp [Instr.fill]
  | x :: xs, k, dn, tl, hd, ht => by
    match tl, ht with
    | t0 :: t1 :: t2 :: t3 :: tl, ht =>
      have ht' : tl.length = xs.length * 4 := by simp at ht; omega
      have ih := fill_ents xs (k + 1) (dn ++ entCells x) tl (by simp [entCells]; omega) ht'
      simp only [List.zipIdx_cons, List.map_cons, Instr.fill]
      have hc : (entV x).cells = #[.string x.f0, .int .i32 x.f1, .int .i32 x.f2, .bool x.f3] := rfl
      rw [hc]
      rw [if_neg (by simp; omega)]
      have e : (Array.zipIdx #[Value.string x.f0, .int .i32 x.f1, .int .i32 x.f2, .bool x.f3]).foldl (fun cs (c, j) => cs.setIfInBounds (k * 4 + j) c) (dn ++ t0 :: t1 :: t2 :: t3 :: tl).toArray = (dn ++ entCells x ++ tl).toArray := by
        rw [← hd]
        simp [entCells]
      rw [e, ih]
      simp [List.append_assoc]
    | [], ht => simp at ht
    | [_], ht => simp at ht; omega
    | [_, _], ht => simp at ht; omega
    | [_, _, _], ht => simp at ht; omega

noncomputable def entOps : Array Oper := match Try.f66.body with
  | some (.seq _ (.seq (.region _ ops _) _)) => ops
  | _ => #[]
noncomputable def entHead : Array Oper := match Try.f66.body with
  | some (.seq (.region _ ops _) _) => ops
  | _ => #[]
theorem ent_body : Try.f66.body = some (.seq (.region 0 entHead false) (.seq (.region 1 entOps false) .ret)) := by kernel_rfl
theorem ent_ext : entExt 1 (entOps.toList.take 301) = ents := by kernel_rfl
theorem ent_take : (entOps.toList.take 301).length = 301 := by kernel_rfl
def entTail (l : List Oper) : Option (Array (Nat × Operand)) :=
  match l with
  | [⟨some d, .buildSlice t n ps, _, _, _, none⟩, ⟨some d', .assign (.tmp u), _, _, _, none⟩] =>
    if d = 302 then (if t = 95 then (if n = 301 then (if d' = 0 then (if u = 302 then some ps else none) else none) else none) else none) else none
  | _ => none
theorem entTail_some {l : List Oper} {ps : Array (Nat × Operand)} (h : entTail l = some ps) :
    ∃ ty pos after ty' pos' after', l = [⟨some 302, .buildSlice 95 301 ps, ty, pos, after, none⟩, ⟨some 0, .assign (.tmp 302), ty', pos', after', none⟩] := by
  unfold entTail at h
  split at h
  · rename_i d t n ps' ty pos after d' u ty' pos' after'
    by_cases h1 : d = 302
    · rw [if_pos h1] at h
      by_cases h2 : t = 95
      · rw [if_pos h2] at h
        by_cases h3 : n = 301
        · rw [if_pos h3] at h
          by_cases h4 : d' = 0
          · rw [if_pos h4] at h
            by_cases h5 : u = 302
            · rw [if_pos h5] at h
              injection h with h
              subst h1 h2 h3 h4 h5 h
              exact ⟨ty, pos, after, ty', pos', after', rfl⟩
            · rw [if_neg h5] at h; cases h
          · rw [if_neg h4] at h; cases h
        · rw [if_neg h3] at h; cases h
      · rw [if_neg h2] at h; cases h
    · rw [if_neg h1] at h; cases h
  · cases h
theorem ent_tail : entTail (entOps.toList.drop 301) = some ((List.range 301).map fun i => (i, Operand.tmp (i + 1))).toArray := by kernel_rfl
theorem ent_headl : entHead = #[⟨some 0, .assign (.const (.slice none 0 0)), 95, "entities.go:12", #[], none⟩] := by kernel_rfl
theorem ents_length : ents.length = 301 := by kernel_rfl

theorem ents_cells_size : (ents.flatMap entCells).length = 1204 := by kernel_rfl
theorem infoEnt : (Try.prog.info? 98).map (fun i => (i.zero, i.size, i.bytes)) = some (some (.agg #[.string ⟨#[]⟩, .int .i32 0, .int .i32 0, .bool false]), 4, 32) := by kernel_rfl
theorem run_buildSlice_ents (w : World) (xs : List S98) (n : Nat) (hl : xs.length = n) (h0 : n ≠ 0) (hn : n ≤ 1000) :
    (Instr.buildSlice 95 n ((xs.zipIdx 0).map fun p => (p.2, entV p.1)).toArray).run Try.prog w =
    .ok (.slice (some ⟨w.heap.size, 0, none⟩) n n) (w.alloc (.cells (xs.flatMap entCells).toArray 98)) := by
  obtain ⟨i0, hi, hz0, hz1, hz2⟩ := info_parts infoEnt
  have hf : ∀ f : Nat → Value, Instr.fill (fun i => some (i * 4, 4)) (Array.map f (Array.range (n * 4))) ((xs.zipIdx 0).map fun p => (p.2, entV p.1)) = some (xs.flatMap entCells).toArray := fun f => by
    have h := fill_ents xs 0 [] (Array.map f (Array.range (n * 4))).toList rfl (by rw [hl]; simp)
    simpa only [List.nil_append, Array.toArray_toList] using h
  have hz := Try.zeroValue98 w
  have hg : ¬ 16777216 < n * 4 := by omega
  have h4 : ¬ n * 4 = 0 := by omega
  simp [Instr.buildSlice, go_sem, run_underlying Try.underlying95, sizeOf, typeInfo, hi, hz1, hg]
  rw [if_neg h4, hf]
  rfl

theorem zip_eval (xs : List S98) (a : Act) (h : ∀ j x, xs[j]? = some x → a.tmps[1 + j]? = some (entV x)) :
    ((List.range xs.length).map fun i => (i, a.eval (.tmp (i + 1)))) = (xs.zipIdx 0).map fun p => (p.2, entV p.1) := by
  apply List.ext_getElem
  · simp
  · intro i h1 h2
    simp only [List.getElem_map, List.getElem_range, List.getElem_zipIdx, Nat.zero_add]
    have hi : i < xs.length := by simpa using h1
    have := h i xs[i] (List.getElem?_eq_getElem hi)
    rw [Nat.add_comm] at this
    simp [Act.eval, Array.getD_eq_getD_getElem?, this]

theorem flat_len : ∀ xs : List S98, (xs.flatMap entCells).length = xs.length * 4
  | [] => rfl
  | x :: xs => by
    have := flat_len xs
    simp only [List.flatMap_cons, List.length_append, List.length_cons, this]
    simp only [entCells, List.length_cons, List.length_nil]
    omega
theorem flat_at : ∀ (xs : List S98) (j : Nat) (x : S98), xs[j]? = some x → ((xs.flatMap entCells).drop (j * 4)).take 4 = entCells x
  | [], j, x, h => by simp at h
  | y :: xs, 0, x, h => by
    simp at h
    subst h
    simp [entCells]
  | y :: xs, j + 1, x, h => by
    have := flat_at xs j x (by simpa using h)
    rw [show (j + 1) * 4 = 4 + j * 4 from by omega, List.flatMap_cons, ← List.drop_drop]
    have e : (entCells y ++ xs.flatMap entCells).drop 4 = xs.flatMap entCells := by simp [entCells]
    rw [e, this]
theorem reps_ents (w : World) (base : Nat) (ok : Nat → Prop) (xs : List S98) : Reps (k98.M w base ok) 4 xs (xs.flatMap entCells) :=
  ⟨flat_len xs, fun j p hj => by rw [flat_at xs j p hj]; exact k98_mkM w base ok p⟩

set_option maxRecDepth 100000 in
/-- **api.Entities()**: a new slice that holds the table. -/
theorem api_Entities.calls (r : List S98) (w : World) (h : api_Entities.f = some r) :
    Calls Try.prog 66 #[] w fun e w' => ∃ v0_ : Value, e = .returned (v0_) ∧ Kd.R k98 98 w' w.heap.size (fun _ => True) v0_ r ∧ Below w.heap.size w w' := by
  obtain rfl := Option.some.inj h
  have hlen := ents_length
  have hsz := ents_cells_size
  have hex := ent_ext
  generalize ents = xs at hlen hsz hex ⊢
  refine calls_of_wp Try.func66 ent_body ?_
  apply wp_seq_k; intro K1 hK1
  refine wp_region_list ?_
  rw [ent_headl]
  refine wpList_plain rfl fun K hK => ?_
  unfold Oper.wp
  simp only [execOp, Act.eval, Sem.run_pure]
  refine hK _ _ (wpList_nil (hK1 _ _ ?_))
  clear hK hK1 K K1
  apply wp_seq_k; intro K1 hK1
  refine wp_region_list ?_
  obtain ⟨ty, pos, after, ty', pos', after', ht⟩ := entTail_some ent_tail
  rw [← List.take_append_drop 301 entOps.toList, ht]
  have htk := ent_take
  refine wp_builds _ 1 _ (by rw [hex, hlen, htk]) (by rw [htk]; simp [Try.ntmps66, Act.put]) fun a' h1 h2 h3 h4 => ?_
  rw [hex] at h3
  have hsize : a'.tmps.size = 303 := by rw [h2]; simp [Try.ntmps66, Act.put]
  have hz := zip_eval xs a' h3
  rw [hlen] at hz
  have hrun := run_buildSlice_ents w xs 301 hlen (by omega) (by omega)
  rw [← hz] at hrun
  refine wpList_plain rfl fun K hK => ?_
  unfold Oper.wp
  simp only [execOp, List.map_toArray, List.map_map, Function.comp_def, Sem.run_bind, hrun, Result.andThen_ok, Sem.run_pure]
  refine hK _ _ ?_
  clear hK K
  refine wpList_plain rfl fun K hK => ?_
  unfold Oper.wp
  simp only [execOp, Sem.run_pure]
  refine hK _ _ (wpList_nil (hK1 _ _ ?_))
  apply wp_ret
  have e302 : (Act.put a' (some 302) (Value.slice (some ⟨w.heap.size, 0, none⟩) 301 301)).eval (.tmp 302) = Value.slice (some ⟨w.heap.size, 0, none⟩) 301 301 := by
    simp [Act.eval, Act.put, hsize, Array.getD_eq_getD_getElem?]
  refine bodyPost_ret (v := .slice (some ⟨w.heap.size, 0, none⟩) 301 301) ?_ ?_ ?_
  · simp [results, Try.results66, Act.put, Act.eval, hsize, Array.getD_eq_getD_getElem?]
  · simp [Act.put, h1]
  · refine ⟨_, rfl, ⟨fun _ _ => trivial, xs.flatMap entCells, ⟨by rw [hlen, hsz]; rfl, .inr ⟨w.heap.size, 301, (xs.flatMap entCells).toArray, by rw [hlen], Nat.le_refl _, ?_, by omega, by simp only [maxLen]; omega, by simp [hsz]; rfl, ?_⟩⟩, ?_⟩, (Below.refl _ _).alloc (Nat.le_refl _) _⟩
    · exact heap_alloc_new w _
    · rw [hlen]
      refine List.take_of_length_le ?_
      show (xs.flatMap entCells).toArray.toList.length ≤ 301 * 4
      rw [show (xs.flatMap entCells).toArray.toList = xs.flatMap entCells from rfl]
      omega
    · exact reps_ents _ _ _ xs
end Go.Proofs.Ytilpbfbnnmclhaa.P
end
