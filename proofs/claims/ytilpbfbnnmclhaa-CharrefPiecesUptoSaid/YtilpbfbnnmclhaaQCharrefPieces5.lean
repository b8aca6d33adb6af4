/-
  Part 6 of 7 of the proof's texts, joined: PA6, Hnum, Lent, Lnamed, Lnum, PA8, Lnext, Lagr, Lr06, Lr06b, Lsure, Lvalid.
  (Where a joined text began as one that the kit's print.sh printed, it is trimmed here to what this claim uses, by this session's pack.py.)
-/
import Derived.Test.YtilpbfbnnmclhaaQCharrefPieces0
import Derived.Test.YtilpbfbnnmclhaaQCharrefPieces1
import Derived.Test.YtilpbfbnnmclhaaQCharrefPieces2
import Derived.Test.YtilpbfbnnmclhaaQCharrefPieces3
import Derived.Test.YtilpbfbnnmclhaaQCharrefPieces4
import Derived.ScopeJumps
import Derived.Lib.Strings
section
namespace Go.Proofs.Ytilpbfbnnmclhaa.P
open Go.RowKit Go.Proofs.YtilpbfbnnmclhaaW.PrintWords Go.Proofs.YtilpbfbnnmclhaaW.PrintLast Go.Proofs.YtilpbfbnnmclhaaW.PrintMore
attribute [local go_sem] max2_int min2_int max_two min_two max_three min_three max_four min_four   -- for this text's walks alone
set_option linter.unusedVariables false
set_option linter.unusedSimpArgs false

/-! ### charref_Number: function 61 -/
mutual
def charref_Number.j0 : Nat → ByteArray → Int → Option (Int × Bool)
 | 0, _, _ => none
 | k + 1, x0, x6 => charref_Number.l0 k x0 x6 0 (x0.toList != ([] : List UInt8)) (x0.size : Int) 0
def charref_Number.l0 : Nat → ByteArray → Int → Int → Bool → Int → Int → Option (Int × Bool)
 | 0, _, _, _, _, _, _ => none
 | k + 1, x0, x6, x7, x8, x15, x16 => if x16 < x15 then (if 0 ≤ x16 then (if x16 < (x0.size : Int) then ((names_Value.f k (wrap32 (bt x0 x16))).bind fun t197 => (if t197 < 0 then (some (65533, false)) else (if t197 ≥ x6 then (some (65533, false)) else (charref_Number.l0 k x0 x6 (mn (wrap64 ((wrap64 (x7 * x6)) + t197)) 1114112) x8 x15 (wrap64 (x16 + 1)))))) else (none)) else (none)) else (if x8 = true then ((charref_says.f x7).bind fun bt198 => (some (bt198.1, bt198.2))) else (some (65533, false)))
end
def charref_Number.f (k : Nat) (a0 : ByteArray) (a1 : Bool) : Option (Int × Bool) := if a1 = true then (charref_Number.j0 k a0 16) else (charref_Number.j0 k a0 10)
theorem charref_Number.mono_l : ∀ k, (∀ y0 y1, LeO (charref_Number.j0 k y0 y1) (charref_Number.j0 (k + 1) y0 y1)) ∧ (∀ y0 y1 y2 y3 y4 y5, LeO (charref_Number.l0 k y0 y1 y2 y3 y4 y5) (charref_Number.l0 (k + 1) y0 y1 y2 y3 y4 y5))
 | 0 => ⟨fun _ _ r h => by simp [charref_Number.j0] at h, fun _ _ _ _ _ _ r h => by simp [charref_Number.l0] at h⟩
 | k + 1 => by
  obtain ⟨ih0, ih1⟩ := charref_Number.mono_l k
  refine ⟨?_, ?_⟩
  ·intro y0 y1
   unfold charref_Number.j0
   repeat' first
   | (with_reducible exact ih0 _ _)
   | (with_reducible exact ih1 _ _ _ _ _ _)
   | (with_reducible exact names_Value.mono _ _)
   | (with_reducible exact LeO.refl _)
   | (with_reducible exact LeO.none _)
   | (with_reducible refine LeO.ite ?_ ?_)
   | (with_reducible refine LeO.bind ?_ (fun _ => ?_))
   | exact ih0 _ _
   | exact ih1 _ _ _ _ _ _
   | exact names_Value.mono _ _
   | exact LeO.none _
   | refine LeO.ite ?_ ?_
   | refine LeO.bind ?_ (fun _ => ?_)
  ·intro y0 y1 y2 y3 y4 y5
   unfold charref_Number.l0
   repeat' first
   | (with_reducible exact ih0 _ _)
   | (with_reducible exact ih1 _ _ _ _ _ _)
   | (with_reducible exact names_Value.mono _ _)
   | (with_reducible exact LeO.refl _)
   | (with_reducible exact LeO.none _)
   | (with_reducible refine LeO.ite ?_ ?_)
   | (with_reducible refine LeO.bind ?_ (fun _ => ?_))
   | exact ih0 _ _
   | exact ih1 _ _ _ _ _ _
   | exact names_Value.mono _ _
   | exact LeO.none _
   | refine LeO.ite ?_ ?_
   | refine LeO.bind ?_ (fun _ => ?_)
theorem charref_Number.mono : ∀ a0 a1 k, LeO (charref_Number.f k a0 a1) (charref_Number.f (k + 1) a0 a1) := by
 intro a0 a1 k
 obtain ⟨ih0, ih1⟩ := charref_Number.mono_l k
 unfold charref_Number.f
 repeat' first
   | (with_reducible exact ih0 _ _)
   | (with_reducible exact ih1 _ _ _ _ _ _)
   | (with_reducible exact names_Value.mono _ _)
   | (with_reducible exact LeO.refl _)
   | (with_reducible exact LeO.none _)
   | (with_reducible refine LeO.ite ?_ ?_)
   | (with_reducible refine LeO.bind ?_ (fun _ => ?_))
   | exact ih0 _ _
   | exact ih1 _ _ _ _ _ _
   | exact names_Value.mono _ _
   | exact LeO.none _
   | refine LeO.ite ?_ ?_
   | refine LeO.bind ?_ (fun _ => ?_)
set_option maxHeartbeats 8000000 in
set_option maxRecDepth 100000 in
theorem charref_Number.calls (k : Nat) (a0 : ByteArray) (a1 : Bool) (r1 : Int) (r2 : Bool) (w : World) (h : charref_Number.f k a0 a1 = some (r1, r2)) :
  Calls Try.prog 61 #[.string a0, .bool a1] w fun e w' => e = .returned (.tuple #[.int .i32 r1, .bool r2]) ∧ Below w.heap.size w w' := by
 have HB := Aside0.mk (Below.refl w.heap.size w)
 have H : (if a1 = true then (charref_Number.j0 k a0 16) else (charref_Number.j0 k a0 10)) = some (r1, r2) := h
 clear h
 have HC3 := Aside0.mk H
 clear H
 go_enter Try.func61, Try.ntmps61
 go_upto_if 11 with (fail)
 go_cut [6] (fun v6 wc => ∃ (kq : Nat) (x6_2 : Int), v6 = .int .i64 x6_2 ∧ Aside0 (charref_Number.j0 kq a0 x6_2 = some (r1, r2)) ∧ Aside0 (kq ≤ k) ∧ Aside0 (Below w.heap.size w wc))
 case first =>
  have H := HC3.out
  clear HC3
  by_cases c4 : a1 = true
  ·subst c4
   have H1 : (charref_Number.j0 k a0 16) = some (r1, r2) := by rw [if_pos rfl] at H; exact H
   clear H
   have H := H1
   clear H1
   have H' := Aside0.mk H
   clear H
   go_wp2
   go_meet
   case rel => exact ⟨_, (16), (by first | rfl | (simp; done) | (simp [*]; done) | (unfold bt; split <;> first | rfl | (exfalso; simp_all; done) | (exfalso; simp_all; omega))), H', ⟨by first | omega | exact Nat.le_refl _⟩, ⟨by repeat (first | (with_reducible first | exact HB.out | apply below_alloc | apply pw_below_drewN | apply below_drew1) | exact HB.out)⟩⟩
  ·replace c4 := Bool.eq_false_iff.mpr c4
   subst c4
   have H1 : (charref_Number.j0 k a0 10) = some (r1, r2) := by rw [if_neg (show ¬ (false = true) by decide)] at H; exact H
   clear H
   have H := H1
   clear H1
   have H' := Aside0.mk H
   clear H
   go_wp2
   go_meet
   case rel => exact ⟨_, (10), (by first | rfl | (simp; done) | (simp [*]; done) | (unfold bt; split <;> first | rfl | (exfalso; simp_all; done) | (exfalso; simp_all; omega))), H', ⟨by first | omega | exact Nat.le_refl _⟩, ⟨by repeat (first | (with_reducible first | exact HB.out | apply below_alloc | apply pw_below_drewN | apply below_drew1) | exact HB.out)⟩⟩
 case rest =>
  clear HC3
  try clear p2
  try clear c4
  obtain ⟨kq, x6_2, rfl, HA, HJ2, HB⟩ := hcut
  cases kq with
  | zero => exact absurd HA.out (by simp [charref_Number.j0])
  | succ kj2 =>
   have H := HA.out
   clear HA
   simp only [charref_Number.j0] at H
   have H' := Aside0.mk H
   clear H
   go_wp2
   go_loopg [7, 16] kj2 (fun kq v7 v16 w' => ∃ (x7_2 : Int) (x16_2 : Int), v7 = .int .i64 x7_2 ∧ v16 = .int .i64 x16_2 ∧ Aside0 (charref_Number.l0 kq a0 x6_2 x7_2 (a0.toList != ([] : List UInt8)) (a0.size : Int) x16_2 = some (r1, r2)) ∧ Aside0 (kq ≤ kj2) ∧ Aside0 (Below w.heap.size w w'))
   case atStart => exact ⟨(0), (0), (by first | rfl | (simp; done) | (simp [*]; done) | (unfold bt; split <;> first | rfl | (exfalso; simp_all; done) | (exfalso; simp_all; omega))), (by first | rfl | (simp; done) | (simp [*]; done) | (unfold bt; split <;> first | rfl | (exfalso; simp_all; done) | (exfalso; simp_all; omega))), H', ⟨Nat.le_refl _⟩, ⟨by repeat (first | (with_reducible first | exact HB.out | apply below_alloc | apply pw_below_drewN | apply below_drew1) | exact HB.out)⟩⟩
   case round =>
    clear H'
    try clear p2
    try clear c4
    try clear p2
    obtain ⟨x7_2, x16_2, rfl, rfl, HA, HK2, HB⟩ := hrel
    cases gk with
    | zero => exact absurd HA.out (by simp [charref_Number.l0])
    | succ k2 =>
     have H := HA.out
     clear HA
     simp only [charref_Number.l0] at H
     by_cases c5 : x16_2 < (a0.size : Int)
     ·rw [if_pos c5] at H
      have c5b0 : decide (x16_2 < (a0.size : Int)) = true := decide_eq_true c5
      clear c5
      by_cases c6 : 0 ≤ x16_2
      ·rw [if_pos c6] at H
       have c6b0 : decide (0 ≤ x16_2) = true := decide_eq_true c6
       clear c6
       by_cases c7 : x16_2 < (a0.size : Int)
       ·rw [if_pos c7] at H
        have c7b0 : decide (x16_2 < (a0.size : Int)) = true := decide_eq_true c7
        clear c7
        replace H := Option.bind_eq_some_iff.mp H
        obtain ⟨t197, A90, H⟩ := H
        replace H : (if t197 < 0 then (some (65533, false)) else (if t197 ≥ x6_2 then (some (65533, false)) else (charref_Number.l0 k2 a0 x6_2 (mn (wrap64 ((wrap64 (x7_2 * x6_2)) + t197)) 1114112) (a0.toList != ([] : List UInt8)) (a0.size : Int) (wrap64 (x16_2 + 1))))) = some (r1, r2) := H
        have A9 := Aside0.mk A90
        clear A90
        by_cases c10 : t197 < 0
        ·rw [if_pos c10] at H
         have c10b0 : decide (t197 < 0) = true := decide_eq_true c10
         clear c10
         simp only [Option.some.injEq, Prod.mk.injEq] at H
         obtain ⟨rfl, rfl⟩ := H
         have p8 : 0 ≤ (x16_2 : Int) := of_decide_eq_true (by first | (with_reducible assumption) | assumption)
         have q8 : x16_2 < (a0.size : Int) := of_decide_eq_true (by first | (with_reducible assumption) | assumption)
         have hx8 := bt_at a0 x16_2
         replace p8 := eq_true p8
         replace q8 := eq_true q8
         go_wp2_with (first | ((with_reducible refine gate_callee (f := 60) rfl ?_); refine goesL_ (some 23) rfl rfl Try.func60 (by kernel_rfl) rfl #[.int .i32 (wrap32 (bt a0 x16_2))] rfl (by (try simp only [List.map_toArray, List.map_cons, List.map_nil]); first | done | rfl | (simp only [List.length_drop, List.length_take]; rfl) | (simp [*] <;> rfl)) ?_; (with_reducible refine (names_Value.calls k2 (wrap32 (bt a0 x16_2)) t197 _ A9.out).mono ?_); rintro e w' ⟨rfl, ⟨nd, rfl⟩⟩; refine ⟨_, rfl, ?_⟩))
         go_ret2
         exact ⟨by first | rfl | (simp [errW_none, errW_some] <;> rfl) | (simp [*, errW_none, errW_some] <;> rfl), by repeat (first | (with_reducible first | exact HB.out | apply below_alloc | apply pw_below_drewN | apply below_drew1) | exact HB.out)⟩
        ·rw [if_neg c10] at H
         have c10b0 : decide (t197 < 0) = false := decide_eq_false c10
         clear c10
         by_cases c11 : t197 ≥ x6_2
         ·rw [if_pos c11] at H
          have c11b0 : decide (x6_2 ≤ t197) = true := decide_eq_true c11
          clear c11
          simp only [Option.some.injEq, Prod.mk.injEq] at H
          obtain ⟨rfl, rfl⟩ := H
          have p8 : 0 ≤ (x16_2 : Int) := of_decide_eq_true (by first | (with_reducible assumption) | assumption)
          have q8 : x16_2 < (a0.size : Int) := of_decide_eq_true (by first | (with_reducible assumption) | assumption)
          have hx8 := bt_at a0 x16_2
          replace p8 := eq_true p8
          replace q8 := eq_true q8
          go_wp2_with (first | ((with_reducible refine gate_callee (f := 60) rfl ?_); refine goesL_ (some 23) rfl rfl Try.func60 (by kernel_rfl) rfl #[.int .i32 (wrap32 (bt a0 x16_2))] rfl (by (try simp only [List.map_toArray, List.map_cons, List.map_nil]); first | done | rfl | (simp only [List.length_drop, List.length_take]; rfl) | (simp [*] <;> rfl)) ?_; (with_reducible refine (names_Value.calls k2 (wrap32 (bt a0 x16_2)) t197 _ A9.out).mono ?_); rintro e w' ⟨rfl, ⟨nd, rfl⟩⟩; refine ⟨_, rfl, ?_⟩))
          go_ret2
          exact ⟨by first | rfl | (simp [errW_none, errW_some] <;> rfl) | (simp [*, errW_none, errW_some] <;> rfl), by repeat (first | (with_reducible first | exact HB.out | apply below_alloc | apply pw_below_drewN | apply below_drew1) | exact HB.out)⟩
         ·rw [if_neg c11] at H
          have c11b0 : decide (x6_2 ≤ t197) = false := decide_eq_false c11
          clear c11
          obtain ⟨ji12, hji12⟩ : ∃ j_ : Int, (mn (wrap64 ((wrap64 (x7_2 * x6_2)) + t197)) 1114112) = j_ := ⟨_, rfl⟩
          replace H : (charref_Number.l0 k2 a0 x6_2 ji12 (a0.toList != ([] : List UInt8)) (a0.size : Int) (wrap64 (x16_2 + 1))) = some (r1, r2) := by first | (rw [hji12] at H; exact H) | (simp only [hji12] at H ⊢; exact H)
          (try rw [hji12] at A9)
          have hji12_ : (if 1114112 < (wrap64 ((wrap64 (x7_2 * x6_2)) + t197)) then 1114112 else (wrap64 ((wrap64 (x7_2 * x6_2)) + t197))) = ji12 := hji12
          have H' := Aside0.mk H
          clear H
          have p8 : 0 ≤ (x16_2 : Int) := of_decide_eq_true (by first | (with_reducible assumption) | assumption)
          have q8 : x16_2 < (a0.size : Int) := of_decide_eq_true (by first | (with_reducible assumption) | assumption)
          have hx8 := bt_at a0 x16_2
          replace p8 := eq_true p8
          replace q8 := eq_true q8
          go_wp2_with (first | ((with_reducible refine gate_callee (f := 60) rfl ?_); refine goesL_ (some 23) rfl rfl Try.func60 (by kernel_rfl) rfl #[.int .i32 (wrap32 (bt a0 x16_2))] rfl (by (try simp only [List.map_toArray, List.map_cons, List.map_nil]); first | done | rfl | (simp only [List.length_drop, List.length_take]; rfl) | (simp [*] <;> rfl)) ?_; (with_reducible refine (names_Value.calls k2 (wrap32 (bt a0 x16_2)) t197 _ A9.out).mono ?_); rintro e w' ⟨rfl, ⟨nd, rfl⟩⟩; refine ⟨_, rfl, ?_⟩))
          go_roundg k2
          case measure => have := HJ2.out; have := HK2.out; omega
          case rel => exact ⟨(ji12), (wrap64 (x16_2 + 1)), (by first | rfl | (simp; done) | (simp only [← hji12] <;> (first | rfl | simp)) | (simp [*]; done)), (by first | rfl | (simp; done) | (simp [*]; done) | (unfold bt; split <;> first | rfl | (exfalso; simp_all; done) | (exfalso; simp_all; omega))), H', ⟨by have := HJ2.out; have := HK2.out; omega⟩, ⟨by repeat (first | (with_reducible first | exact HB.out | apply below_alloc | apply pw_below_drewN | apply below_drew1) | exact HB.out)⟩⟩
       ·rw [if_neg c7] at H
        exact absurd H (by simp)
      ·rw [if_neg c6] at H
       exact absurd H (by simp)
     ·rw [if_neg c5] at H
      have c5b0 : decide (x16_2 < (a0.size : Int)) = false := decide_eq_false c5
      clear c5
      by_cases c13 : (a0.toList != ([] : List UInt8)) = true
      ·rw [if_pos c13] at H
       have c13b0 : (a0.toList != ([] : List UInt8)) = true := c13
       (try (have c13b1 : decide (a0.toList = ([] : List UInt8)) = false := by simpa using c13))
       (try (have c13b8 : (a0.toList).isEmpty = false := by simpa using c13))
       (try (have c13b2 : (a0.toList == ([] : List UInt8)) = false := by simpa using c13))
       (try (have c13b3 : ¬ (a0.toList = ([] : List UInt8)) := by simpa using c13))
       clear c13
       replace H := Option.bind_eq_some_iff.mp H
       obtain ⟨⟨t198, t199⟩, A140, H⟩ := H
       replace H : (some (t198, t199)) = some (r1, r2) := H
       have A14 := Aside0.mk A140
       clear A140
       simp only [Option.some.injEq, Prod.mk.injEq] at H
       obtain ⟨rfl, rfl⟩ := H
       go_wp2_with (first | ((with_reducible refine gate_callee (f := 78) rfl ?_); refine goesL_ (some 41) rfl rfl Try.func78 (by kernel_rfl) rfl #[.int .i64 x7_2] rfl (by (try simp only [List.map_toArray, List.map_cons, List.map_nil]); first | done | rfl | (simp only [List.length_drop, List.length_take]; rfl) | (simp [*] <;> rfl)) ?_; (with_reducible refine (charref_says.calls x7_2 t198 t199 _ A14.out).mono ?_); rintro e w15 ⟨rfl, hb⟩; refine ⟨_, rfl, ?_⟩; have n0_ := Aside0.mk (below_step (by repeat (first | (with_reducible first | exact HB.out | apply below_alloc | apply pw_below_drewN | apply below_drew1) | exact HB.out)) hb); clear HB; have HB := n0_; clear n0_; (try clear hb); (try clear hb2); (try clear hk); (try clear hi)))
       go_ret2
       exact ⟨by first | rfl | (simp [errW_none, errW_some] <;> rfl) | (simp [*, errW_none, errW_some] <;> rfl), by repeat (first | (with_reducible first | exact HB.out | apply below_alloc | apply pw_below_drewN | apply below_drew1) | exact HB.out)⟩
      ·rw [if_neg c13] at H
       have c13b0 : (a0.toList != ([] : List UInt8)) = false := by simpa using c13
       (try (have c13b1 : decide (a0.toList = ([] : List UInt8)) = true := by simpa using c13))
       (try (have c13b8 : (a0.toList).isEmpty = true := by simpa using c13))
       (try (have c13b2 : (a0.toList == ([] : List UInt8)) = true := by simpa using c13))
       clear c13
       simp only [Option.some.injEq, Prod.mk.injEq] at H
       obtain ⟨rfl, rfl⟩ := H
       go_wp2
       go_ret2
       exact ⟨by first | rfl | (simp [errW_none, errW_some] <;> rfl) | (simp [*, errW_none, errW_some] <;> rfl), by repeat (first | (with_reducible first | exact HB.out | apply below_alloc | apply pw_below_drewN | apply below_drew1) | exact HB.out)⟩

/-! ### entity_Begins: function 62 -/
def entity_Begins.l0 : Nat → ByteArray → List (S98) → Int → Int → Option (Bool)
 | 0, _, _, _, _ => none
 | k + 1, x0, x5, x6, x7 => if x7 < x6 then (if 0 ≤ x7 then (if x7 < (x5.length : Int) then (if (x0.size : Int) ≤ (((rd_T98 x5 x7).f0).size : Int) then ((strings_HasPrefix.f ((rd_T98 x5 x7).f0) x0).bind fun t205 => (if t205 = true then (some true) else (entity_Begins.l0 k x0 x5 x6 (wrap64 (x7 + 1))))) else (entity_Begins.l0 k x0 x5 x6 (wrap64 (x7 + 1)))) else (none)) else (none)) else (some false)
def entity_Begins.f (k : Nat) (a0 : ByteArray) : Option (Bool) := (api_Entities.f).bind fun t200 => (entity_Begins.l0 k a0 t200 (t200.length : Int) 0)
theorem entity_Begins.mono_l : ∀ k, (∀ y0 y1 y2 y3, LeO (entity_Begins.l0 k y0 y1 y2 y3) (entity_Begins.l0 (k + 1) y0 y1 y2 y3))
 | 0 => fun _ _ _ _ r h => by simp [entity_Begins.l0] at h
 | k + 1 => by
  have ih0 := entity_Begins.mono_l k
  ·intro y0 y1 y2 y3
   unfold entity_Begins.l0
   repeat' first
   | (with_reducible exact ih0 _ _ _ _)
   | (with_reducible exact LeO.refl _)
   | (with_reducible exact LeO.none _)
   | (with_reducible refine LeO.ite ?_ ?_)
   | (with_reducible refine LeO.bind ?_ (fun _ => ?_))
   | exact ih0 _ _ _ _
   | exact LeO.none _
   | refine LeO.ite ?_ ?_
   | refine LeO.bind ?_ (fun _ => ?_)
theorem entity_Begins.mono : ∀ a0 k, LeO (entity_Begins.f k a0) (entity_Begins.f (k + 1) a0) := by
 intro a0 k
 have ih0 := entity_Begins.mono_l k
 unfold entity_Begins.f
 repeat' first
   | (with_reducible exact ih0 _ _ _ _)
   | (with_reducible exact LeO.refl _)
   | (with_reducible exact LeO.none _)
   | (with_reducible refine LeO.ite ?_ ?_)
   | (with_reducible refine LeO.bind ?_ (fun _ => ?_))
   | exact ih0 _ _ _ _
   | exact LeO.none _
   | refine LeO.ite ?_ ?_
   | refine LeO.bind ?_ (fun _ => ?_)
set_option maxHeartbeats 8000000 in
set_option maxRecDepth 100000 in
theorem entity_Begins.calls (k : Nat) (a0 : ByteArray) (r : Bool) (w : World) (h : entity_Begins.f k a0 = some r) :
  Calls Try.prog 62 #[.string a0] w fun e w' => e = .returned (.bool r) ∧ Below w.heap.size w w' := by
 have hu98 := Try.underlying98
 have HB := Aside0.mk (Below.refl w.heap.size w)
 have H : ((api_Entities.f).bind fun t200 => (entity_Begins.l0 k a0 t200 (t200.length : Int) 0)) = some r := h
 clear h
 replace H := Option.bind_eq_some_iff.mp H
 obtain ⟨t200, A20, H⟩ := H
 replace H : (entity_Begins.l0 k a0 t200 (t200.length : Int) 0) = some r := H
 have A2 := Aside0.mk A20
 clear A20
 have H' := Aside0.mk H
 clear H
 go_enter Try.func62, Try.ntmps62
 go_wp2_with (first | ((with_reducible refine gate_callee (f := 66) rfl ?_); refine goesL_ (some 5) rfl rfl Try.func66 (by kernel_rfl) rfl #[] rfl (by (try simp only [List.map_toArray, List.map_cons, List.map_nil]); first | done | rfl | (simp only [List.length_drop, List.length_take]; rfl) | (simp [*] <;> rfl)) ?_; (with_reducible refine (api_Entities.calls  t200 _ A2.out).mono ?_); rintro e w3 ⟨v201, rfl, ho0, hb⟩; refine ⟨_, rfl, ?_⟩; have n0_ := Aside0.mk (Kd.R_lower ho0 (below_size (by repeat (first | (with_reducible first | exact HB.out | apply below_alloc | apply pw_below_drewN | apply below_drew1) | exact HB.out)))); have n1_ := Aside0.mk (below_step (by repeat (first | (with_reducible first | exact HB.out | apply below_alloc | apply pw_below_drewN | apply below_drew1) | exact HB.out)) hb); clear HB; have HO202 := n0_; have HB := n1_; clear n0_ n1_; (try clear hb); (try clear hb2); (try clear hk); (try clear hi); (try clear ho0); obtain ⟨Ao4, co4, eo4⟩ := Kd.R_slice HO202.out; subst eo4))
 go_loopg [7] k (fun kq v7 w' => ∃ (x7_1 : Int), v7 = .int .i64 x7_1 ∧ Aside0 (entity_Begins.l0 kq a0 t200 (t200.length : Int) x7_1 = some r) ∧ Aside0 (kq ≤ k) ∧ Aside0 (Kd.R k98 98 w' w.heap.size (fun _ => True) (.slice Ao4 t200.length co4) t200) ∧ Aside0 (Below w.heap.size w w'))
 case atStart => exact ⟨(0), (by first | rfl | (simp; done) | (simp [*]; done) | (unfold bt; split <;> first | rfl | (exfalso; simp_all; done) | (exfalso; simp_all; omega))), H', ⟨Nat.le_refl _⟩, ⟨by (with_reducible repeat (first | apply Kd.R_alloc | apply Kd.R_drewN | apply Kd.R_drew)); exact HO202.out⟩, ⟨by repeat (first | (with_reducible first | exact HB.out | apply below_alloc | apply pw_below_drewN | apply below_drew1) | exact HB.out)⟩⟩
 case round =>
  clear H'
  try clear p2
  obtain ⟨x7_1, rfl, HA, HK1, HO_5, HB⟩ := hrel
  cases gk with
  | zero => exact absurd HA.out (by simp [entity_Begins.l0])
  | succ k1 =>
   have H := HA.out
   clear HA
   simp only [entity_Begins.l0] at H
   by_cases c5 : x7_1 < (t200.length : Int)
   ·rw [if_pos c5] at H
    have c5b0 : decide (x7_1 < (t200.length : Int)) = true := decide_eq_true c5
    clear c5
    by_cases c6 : 0 ≤ x7_1
    ·rw [if_pos c6] at H
     have c6b0 : decide (0 ≤ x7_1) = true := decide_eq_true c6
     clear c6
     by_cases c7 : x7_1 < (t200.length : Int)
     ·rw [if_pos c7] at H
      have c7b0 : decide (x7_1 < (t200.length : Int)) = true := decide_eq_true c7
      clear c7
      by_cases c8 : (a0.size : Int) ≤ (((rd_T98 t200 x7_1).f0).size : Int)
      ·rw [if_pos c8] at H
       have c8b0 : decide ((a0.size : Int) ≤ (((rd_T98 t200 x7_1).f0).size : Int)) = true := decide_eq_true c8
       have c8b1 : decide (a0.size ≤ ((rd_T98 t200 x7_1).f0).size) = true := decide_eq_true (Int.ofNat_le.mp c8)
       clear c8
       replace H := Option.bind_eq_some_iff.mp H
       obtain ⟨t205, A90, H⟩ := H
       replace H : (if t205 = true then (some true) else (entity_Begins.l0 k1 a0 t200 (t200.length : Int) (wrap64 (x7_1 + 1)))) = some r := H
       have A9 := Aside0.mk A90
       clear A90
       by_cases c10 : t205 = true
       ·subst c10
        have H1 : (some true) = some r := by rw [if_pos rfl] at H; exact H
        clear H
        have H := H1
        clear H1
        obtain rfl := Option.some.inj H
        have p203 : 0 ≤ (x7_1 : Int) := of_decide_eq_true (by first | (with_reducible assumption) | assumption)
        have q203 : x7_1 < (t200.length : Int) := of_decide_eq_true (by first | (with_reducible assumption) | assumption)
        obtain ⟨ad203, e203, hx203_0, hx203_1, hx203_2, hx203_3⟩ := at_T98 (Kd.R_reads' HO_5.out).2.2 x7_1 p203 q203
        cases e203
        replace p203 := eq_true p203
        replace q203 := eq_true q203
        go_wp2_with (first | ((with_reducible refine gate_dst (N := 4) rfl ?_); refine box_event ?hg (N := 4) ?hd (cs := #[.string (⟨#[]⟩ : ByteArray), .int .i32 0, .int .i32 0, .bool false]) (t := 98) ?hr ?_; (case hd => rfl); (case hg => rfl); (case hr => first | (go_simp; done) | (go_simp; rfl)); intro gb204 hg w11 hbox hb; have n0_ := Aside0.mk (Kd.R_below (Kd.R_elderB (by (with_reducible repeat (first | apply Kd.R_alloc | apply Kd.R_drewN | apply Kd.R_drew)); exact HO_5.out) gb204 (Nat.le_of_eq hg.symm)) hb); have n1_ := Aside0.mk (below_step (by repeat (first | (with_reducible first | exact HB.out | apply below_alloc | apply pw_below_drewN | apply below_drew1) | exact HB.out)) hb); have n2_ := Aside0.mk (hbox); have n3_ := Aside0.mk ((by rw [hg]; exact (below_size (by repeat (first | (with_reducible first | exact HB.out | apply below_alloc | apply pw_below_drewN | apply below_drew1) | exact HB.out))) : w.heap.size ≤ gb204)); have n4_ := Aside0.mk ((by rw [hg]; exact (below_size (by repeat (first | (with_reducible first | exact HB.out | apply below_alloc | apply pw_below_drewN | apply below_drew1) | exact HB.out))) : w.heap.size ≤ gb204)); clear HO_5; clear HB; have HO_5 := n0_; have HB := n1_; have BK204 := n2_; have GW204 := n3_; have GE204 := n4_; clear n0_ n1_ n2_ n3_ n4_; clear hb hbox hg; have hcz12_0 : w11.cell? ⟨gb204, 0, none⟩ = some (.string (⟨#[]⟩ : ByteArray)) := (blk_cell BK204.out 0).trans rfl; have hcz12_1 : w11.cell? ⟨gb204, 1, none⟩ = some (.int .i32 0) := (blk_cell BK204.out 1).trans rfl; have hcz12_2 : w11.cell? ⟨gb204, 2, none⟩ = some (.int .i32 0) := (blk_cell BK204.out 2).trans rfl; have hcz12_3 : w11.cell? ⟨gb204, 3, none⟩ = some (.bool false) := (blk_cell BK204.out 3).trans rfl; have hfz12_0 := blk_frozen BK204.out 0; have hfz12_1 := blk_frozen BK204.out 1; have hfz12_2 := blk_frozen BK204.out 2; have hfz12_3 := blk_frozen BK204.out 3) | (go_at_call 79; (with_reducible refine (strings_HasPrefix.calls ((rd_T98 t200 x7_1).f0) a0 true _ A9.out).mono ?_); rintro e w' ⟨rfl, ⟨nd, rfl⟩⟩))
        go_ret
        exact ⟨by first | rfl | (simp [errW_none, errW_some] <;> rfl) | (simp [*, errW_none, errW_some] <;> rfl), by repeat (first | (with_reducible first | exact HB.out | apply below_alloc | apply pw_below_drewN | apply below_drew1 | refine below_set ?_ GE204.out) | exact HB.out)⟩
       ·replace c10 := Bool.eq_false_iff.mpr c10
        subst c10
        have H1 : (entity_Begins.l0 k1 a0 t200 (t200.length : Int) (wrap64 (x7_1 + 1))) = some r := by rw [if_neg (show ¬ (false = true) by decide)] at H; exact H
        clear H
        have H := H1
        clear H1
        have H' := Aside0.mk H
        clear H
        have p203 : 0 ≤ (x7_1 : Int) := of_decide_eq_true (by first | (with_reducible assumption) | assumption)
        have q203 : x7_1 < (t200.length : Int) := of_decide_eq_true (by first | (with_reducible assumption) | assumption)
        obtain ⟨ad203, e203, hx203_0, hx203_1, hx203_2, hx203_3⟩ := at_T98 (Kd.R_reads' HO_5.out).2.2 x7_1 p203 q203
        cases e203
        replace p203 := eq_true p203
        replace q203 := eq_true q203
        go_wp2_with (first | ((with_reducible refine gate_dst (N := 4) rfl ?_); refine box_event ?hg (N := 4) ?hd (cs := #[.string (⟨#[]⟩ : ByteArray), .int .i32 0, .int .i32 0, .bool false]) (t := 98) ?hr ?_; (case hd => rfl); (case hg => rfl); (case hr => first | (go_simp; done) | (go_simp; rfl)); intro gb204 hg w13 hbox hb; have n0_ := Aside0.mk (Kd.R_below (Kd.R_elderB (by (with_reducible repeat (first | apply Kd.R_alloc | apply Kd.R_drewN | apply Kd.R_drew)); exact HO_5.out) gb204 (Nat.le_of_eq hg.symm)) hb); have n1_ := Aside0.mk (below_step (by repeat (first | (with_reducible first | exact HB.out | apply below_alloc | apply pw_below_drewN | apply below_drew1) | exact HB.out)) hb); have n2_ := Aside0.mk (hbox); have n3_ := Aside0.mk ((by rw [hg]; exact (below_size (by repeat (first | (with_reducible first | exact HB.out | apply below_alloc | apply pw_below_drewN | apply below_drew1) | exact HB.out))) : w.heap.size ≤ gb204)); have n4_ := Aside0.mk ((by rw [hg]; exact (below_size (by repeat (first | (with_reducible first | exact HB.out | apply below_alloc | apply pw_below_drewN | apply below_drew1) | exact HB.out))) : w.heap.size ≤ gb204)); clear HO_5; clear HB; have HO_5 := n0_; have HB := n1_; have BK204 := n2_; have GW204 := n3_; have GE204 := n4_; clear n0_ n1_ n2_ n3_ n4_; clear hb hbox hg; have hcz14_0 : w13.cell? ⟨gb204, 0, none⟩ = some (.string (⟨#[]⟩ : ByteArray)) := (blk_cell BK204.out 0).trans rfl; have hcz14_1 : w13.cell? ⟨gb204, 1, none⟩ = some (.int .i32 0) := (blk_cell BK204.out 1).trans rfl; have hcz14_2 : w13.cell? ⟨gb204, 2, none⟩ = some (.int .i32 0) := (blk_cell BK204.out 2).trans rfl; have hcz14_3 : w13.cell? ⟨gb204, 3, none⟩ = some (.bool false) := (blk_cell BK204.out 3).trans rfl; have hfz14_0 := blk_frozen BK204.out 0; have hfz14_1 := blk_frozen BK204.out 1; have hfz14_2 := blk_frozen BK204.out 2; have hfz14_3 := blk_frozen BK204.out 3) | (go_at_call 79; (with_reducible refine (strings_HasPrefix.calls ((rd_T98 t200 x7_1).f0) a0 false _ A9.out).mono ?_); rintro e w' ⟨rfl, ⟨nd, rfl⟩⟩))
        go_roundg k1
        case measure => have := HK1.out; omega
        case rel => exact ⟨(wrap64 (x7_1 + 1)), (by first | rfl | (simp; done) | (simp [*]; done) | (unfold bt; split <;> first | rfl | (exfalso; simp_all; done) | (exfalso; simp_all; omega))), H', ⟨by have := HK1.out; omega⟩, ⟨by (with_reducible repeat (first | apply Kd.R_alloc | apply Kd.R_drewN | apply Kd.R_drew)); exact Kd.R_mono (Kd.R_far (p := ⟨gb204, 3, none⟩) (Kd.R_far (p := ⟨gb204, 2, none⟩) (Kd.R_far (p := ⟨gb204, 1, none⟩) (Kd.R_far (p := ⟨gb204, 0, none⟩) (Kd.R_mono HO_5.out (fun k_ hk => (⟨hk, hk.2⟩ : _ ∧ k_ ≠ gb204))) (fun _ hk => hk.2) (.string ((rd_T98 t200 x7_1).f0))) (fun _ hk => hk.2) (.int .i32 ((rd_T98 t200 x7_1).f1))) (fun _ hk => hk.2) (.int .i32 ((rd_T98 t200 x7_1).f2))) (fun _ hk => hk.2) (.bool ((rd_T98 t200 x7_1).f3))) (fun _ hk => trivial)⟩, ⟨by repeat (first | (with_reducible first | exact HB.out | apply below_alloc | apply pw_below_drewN | apply below_drew1 | refine below_set ?_ GE204.out) | exact HB.out)⟩⟩
      ·rw [if_neg c8] at H
       have c8b0 : decide ((a0.size : Int) ≤ (((rd_T98 t200 x7_1).f0).size : Int)) = false := decide_eq_false c8
       have c8b1 : decide (a0.size ≤ ((rd_T98 t200 x7_1).f0).size) = false := decide_eq_false (fun h => c8 (Int.ofNat_le.mpr h))
       clear c8
       have H' := Aside0.mk H
       clear H
       have p203 : 0 ≤ (x7_1 : Int) := of_decide_eq_true (by first | (with_reducible assumption) | assumption)
       have q203 : x7_1 < (t200.length : Int) := of_decide_eq_true (by first | (with_reducible assumption) | assumption)
       obtain ⟨ad203, e203, hx203_0, hx203_1, hx203_2, hx203_3⟩ := at_T98 (Kd.R_reads' HO_5.out).2.2 x7_1 p203 q203
       cases e203
       replace p203 := eq_true p203
       replace q203 := eq_true q203
       go_wp2_with (first | ((with_reducible refine gate_dst (N := 4) rfl ?_); refine box_event ?hg (N := 4) ?hd (cs := #[.string (⟨#[]⟩ : ByteArray), .int .i32 0, .int .i32 0, .bool false]) (t := 98) ?hr ?_; (case hd => rfl); (case hg => rfl); (case hr => first | (go_simp; done) | (go_simp; rfl)); intro gb204 hg w15 hbox hb; have n0_ := Aside0.mk (Kd.R_below (Kd.R_elderB (by (with_reducible repeat (first | apply Kd.R_alloc | apply Kd.R_drewN | apply Kd.R_drew)); exact HO_5.out) gb204 (Nat.le_of_eq hg.symm)) hb); have n1_ := Aside0.mk (below_step (by repeat (first | (with_reducible first | exact HB.out | apply below_alloc | apply pw_below_drewN | apply below_drew1) | exact HB.out)) hb); have n2_ := Aside0.mk (hbox); have n3_ := Aside0.mk ((by rw [hg]; exact (below_size (by repeat (first | (with_reducible first | exact HB.out | apply below_alloc | apply pw_below_drewN | apply below_drew1) | exact HB.out))) : w.heap.size ≤ gb204)); have n4_ := Aside0.mk ((by rw [hg]; exact (below_size (by repeat (first | (with_reducible first | exact HB.out | apply below_alloc | apply pw_below_drewN | apply below_drew1) | exact HB.out))) : w.heap.size ≤ gb204)); clear HO_5; clear HB; have HO_5 := n0_; have HB := n1_; have BK204 := n2_; have GW204 := n3_; have GE204 := n4_; clear n0_ n1_ n2_ n3_ n4_; clear hb hbox hg; have hcz16_0 : w15.cell? ⟨gb204, 0, none⟩ = some (.string (⟨#[]⟩ : ByteArray)) := (blk_cell BK204.out 0).trans rfl; have hcz16_1 : w15.cell? ⟨gb204, 1, none⟩ = some (.int .i32 0) := (blk_cell BK204.out 1).trans rfl; have hcz16_2 : w15.cell? ⟨gb204, 2, none⟩ = some (.int .i32 0) := (blk_cell BK204.out 2).trans rfl; have hcz16_3 : w15.cell? ⟨gb204, 3, none⟩ = some (.bool false) := (blk_cell BK204.out 3).trans rfl; have hfz16_0 := blk_frozen BK204.out 0; have hfz16_1 := blk_frozen BK204.out 1; have hfz16_2 := blk_frozen BK204.out 2; have hfz16_3 := blk_frozen BK204.out 3))
       go_roundg k1
       case measure => have := HK1.out; omega
       case rel => exact ⟨(wrap64 (x7_1 + 1)), (by first | rfl | (simp; done) | (simp [*]; done) | (unfold bt; split <;> first | rfl | (exfalso; simp_all; done) | (exfalso; simp_all; omega))), H', ⟨by have := HK1.out; omega⟩, ⟨by (with_reducible repeat (first | apply Kd.R_alloc | apply Kd.R_drewN | apply Kd.R_drew)); exact Kd.R_mono (Kd.R_far (p := ⟨gb204, 3, none⟩) (Kd.R_far (p := ⟨gb204, 2, none⟩) (Kd.R_far (p := ⟨gb204, 1, none⟩) (Kd.R_far (p := ⟨gb204, 0, none⟩) (Kd.R_mono HO_5.out (fun k_ hk => (⟨hk, hk.2⟩ : _ ∧ k_ ≠ gb204))) (fun _ hk => hk.2) (.string ((rd_T98 t200 x7_1).f0))) (fun _ hk => hk.2) (.int .i32 ((rd_T98 t200 x7_1).f1))) (fun _ hk => hk.2) (.int .i32 ((rd_T98 t200 x7_1).f2))) (fun _ hk => hk.2) (.bool ((rd_T98 t200 x7_1).f3))) (fun _ hk => trivial)⟩, ⟨by repeat (first | (with_reducible first | exact HB.out | apply below_alloc | apply pw_below_drewN | apply below_drew1 | refine below_set ?_ GE204.out) | exact HB.out)⟩⟩
     ·rw [if_neg c7] at H
      exact absurd H (by simp)
    ·rw [if_neg c6] at H
     exact absurd H (by simp)
   ·rw [if_neg c5] at H
    have c5b0 : decide (x7_1 < (t200.length : Int)) = false := decide_eq_false c5
    clear c5
    obtain rfl := Option.some.inj H
    go_wp2
    go_ret
    exact ⟨by first | rfl | (simp [errW_none, errW_some] <;> rfl) | (simp [*, errW_none, errW_some] <;> rfl), by repeat (first | (with_reducible first | exact HB.out | apply below_alloc | apply pw_below_drewN | apply below_drew1) | exact HB.out)⟩

/-! ### entity_Longest: function 63 -/
mutual
def entity_Longest.l0 : Nat → ByteArray → Int → List Int → List (S98) → Int → Int → Option (Int × List Int)
 | 0, _, _, _, _, _, _ => none
 | k + 1, x0, x4, x5, x9, x10, x11 => if x11 < x10 then (if 0 ≤ x11 then (if x11 < (x9.length : Int) then ((strings_HasPrefix.f x0 ((rd_T98 x9 x11).f0)).bind fun t211 => (if t211 = true then (if (((rd_T98 x9 x11).f0).size : Int) < (x0.size : Int) then (if 0 ≤ (((rd_T98 x9 x11).f0).size : Int) then (entity_Longest.j1 k x0 x4 x5 (((rd_T98 x9 x11).f0).size : Int) x9 x10 x11 ((bt x0 (((rd_T98 x9 x11).f0).size : Int)) == 59) ((rd_T98 x9 x11).f0) ((rd_T98 x9 x11).f1) ((rd_T98 x9 x11).f2) ((rd_T98 x9 x11).f3)) else (none)) else (entity_Longest.j1 k x0 x4 x5 (((rd_T98 x9 x11).f0).size : Int) x9 x10 x11 false ((rd_T98 x9 x11).f0) ((rd_T98 x9 x11).f1) ((rd_T98 x9 x11).f2) ((rd_T98 x9 x11).f3))) else (entity_Longest.l0 k x0 x4 x5 x9 x10 (wrap64 (x11 + 1))))) else (none)) else (none)) else (some (x4, x5))
def entity_Longest.j1 : Nat → ByteArray → Int → List Int → Int → List (S98) → Int → Int → Bool → ByteArray → Int → Int → Bool → Option (Int × List Int)
 | 0, _, _, _, _, _, _, _, _, _, _, _, _ => none
 | k + 1, x0, x4, x5, x8, x9, x10, x11, x32, x211000, x211001, x211002, x211003 => if x32 = true then (if (wrap64 (x8 + 1)) > x4 then ((entity_says.f x211000 x211001 x211002 x211003).bind fun t212 => (entity_Longest.l0 k x0 (wrap64 (x8 + 1)) t212 x9 x10 (wrap64 (x11 + 1)))) else (entity_Longest.l0 k x0 x4 x5 x9 x10 (wrap64 (x11 + 1)))) else (if x211003 = true then (if x8 > x4 then ((entity_says.f x211000 x211001 x211002 x211003).bind fun t215 => (entity_Longest.l0 k x0 x8 t215 x9 x10 (wrap64 (x11 + 1)))) else (entity_Longest.l0 k x0 x4 x5 x9 x10 (wrap64 (x11 + 1)))) else (entity_Longest.l0 k x0 x4 x5 x9 x10 (wrap64 (x11 + 1))))
end
def entity_Longest.f (k : Nat) (a0 : ByteArray) : Option (Int × List Int) := (api_Entities.f).bind fun t206 => (entity_Longest.l0 k a0 0 ([] : List Int) t206 (t206.length : Int) 0)
theorem entity_Longest.mono_l : ∀ k, (∀ y0 y1 y2 y3 y4 y5, LeO (entity_Longest.l0 k y0 y1 y2 y3 y4 y5) (entity_Longest.l0 (k + 1) y0 y1 y2 y3 y4 y5)) ∧ (∀ y0 y1 y2 y3 y4 y5 y6 y7 y8 y9 y10 y11, LeO (entity_Longest.j1 k y0 y1 y2 y3 y4 y5 y6 y7 y8 y9 y10 y11) (entity_Longest.j1 (k + 1) y0 y1 y2 y3 y4 y5 y6 y7 y8 y9 y10 y11))
 | 0 => ⟨fun _ _ _ _ _ _ r h => by simp [entity_Longest.l0] at h, fun _ _ _ _ _ _ _ _ _ _ _ _ r h => by simp [entity_Longest.j1] at h⟩
 | k + 1 => by
  obtain ⟨ih0, ih1⟩ := entity_Longest.mono_l k
  refine ⟨?_, ?_⟩
  ·intro y0 y1 y2 y3 y4 y5
   unfold entity_Longest.l0
   repeat' first
   | (with_reducible exact ih0 _ _ _ _ _ _)
   | (with_reducible exact ih1 _ _ _ _ _ _ _ _ _ _ _ _)
   | (with_reducible exact LeO.refl _)
   | (with_reducible exact LeO.none _)
   | (with_reducible refine LeO.ite ?_ ?_)
   | (with_reducible refine LeO.bind ?_ (fun _ => ?_))
   | exact ih0 _ _ _ _ _ _
   | exact ih1 _ _ _ _ _ _ _ _ _ _ _ _
   | exact LeO.none _
   | refine LeO.ite ?_ ?_
   | refine LeO.bind ?_ (fun _ => ?_)
  ·intro y0 y1 y2 y3 y4 y5 y6 y7 y8 y9 y10 y11
   unfold entity_Longest.j1
   repeat' first
   | (with_reducible exact ih0 _ _ _ _ _ _)
   | (with_reducible exact ih1 _ _ _ _ _ _ _ _ _ _ _ _)
   | (with_reducible exact LeO.refl _)
   | (with_reducible exact LeO.none _)
   | (with_reducible refine LeO.ite ?_ ?_)
   | (with_reducible refine LeO.bind ?_ (fun _ => ?_))
   | exact ih0 _ _ _ _ _ _
   | exact ih1 _ _ _ _ _ _ _ _ _ _ _ _
   | exact LeO.none _
   | refine LeO.ite ?_ ?_
   | refine LeO.bind ?_ (fun _ => ?_)
theorem entity_Longest.mono : ∀ a0 k, LeO (entity_Longest.f k a0) (entity_Longest.f (k + 1) a0) := by
 intro a0 k
 obtain ⟨ih0, ih1⟩ := entity_Longest.mono_l k
 unfold entity_Longest.f
 repeat' first
   | (with_reducible exact ih0 _ _ _ _ _ _)
   | (with_reducible exact ih1 _ _ _ _ _ _ _ _ _ _ _ _)
   | (with_reducible exact LeO.refl _)
   | (with_reducible exact LeO.none _)
   | (with_reducible refine LeO.ite ?_ ?_)
   | (with_reducible refine LeO.bind ?_ (fun _ => ?_))
   | exact ih0 _ _ _ _ _ _
   | exact ih1 _ _ _ _ _ _ _ _ _ _ _ _
   | exact LeO.none _
   | refine LeO.ite ?_ ?_
   | refine LeO.bind ?_ (fun _ => ?_)
set_option maxHeartbeats 8000000 in
set_option maxRecDepth 100000 in
theorem entity_Longest.calls (k : Nat) (a0 : ByteArray) (r1 : Int) (r2 : List Int) (w : World) (h : entity_Longest.f k a0 = some (r1, r2)) :
  Calls Try.prog 63 #[.string a0] w fun e w' => ∃ v1_ : Value, e = .returned (.tuple #[.int .i64 r1, v1_]) ∧ Kd.R (Kd.int .i32) 21 w' w.heap.size (fun _ => True) v1_ r2 ∧ Below w.heap.size w w' := by
 have hu98 := Try.underlying98
 have HB := Aside0.mk (Below.refl w.heap.size w)
 have H : ((api_Entities.f).bind fun t206 => (entity_Longest.l0 k a0 0 ([] : List Int) t206 (t206.length : Int) 0)) = some (r1, r2) := h
 clear h
 replace H := Option.bind_eq_some_iff.mp H
 obtain ⟨t206, A20, H⟩ := H
 replace H : (entity_Longest.l0 k a0 0 ([] : List Int) t206 (t206.length : Int) 0) = some (r1, r2) := H
 have A2 := Aside0.mk A20
 clear A20
 have H' := Aside0.mk H
 clear H
 go_enter Try.func63, Try.ntmps63
 go_wp2_with (first | ((with_reducible refine gate_callee (f := 66) rfl ?_); refine goesL_ (some 9) rfl rfl Try.func66 (by kernel_rfl) rfl #[] rfl (by (try simp only [List.map_toArray, List.map_cons, List.map_nil]); first | done | rfl | (simp only [List.length_drop, List.length_take]; rfl) | (simp [*] <;> rfl)) ?_; (with_reducible refine (api_Entities.calls  t206 _ A2.out).mono ?_); rintro e w3 ⟨v207, rfl, ho0, hb⟩; refine ⟨_, rfl, ?_⟩; have n0_ := Aside0.mk (Kd.R_lower ho0 (below_size (by repeat (first | (with_reducible first | exact HB.out | apply below_alloc | apply pw_below_drewN | apply below_drew1) | exact HB.out)))); have n1_ := Aside0.mk (below_step (by repeat (first | (with_reducible first | exact HB.out | apply below_alloc | apply pw_below_drewN | apply below_drew1) | exact HB.out)) hb); clear HB; have HO208 := n0_; have HB := n1_; clear n0_ n1_; (try clear hb); (try clear hb2); (try clear hk); (try clear hi); (try clear ho0); obtain ⟨Ao4, co4, eo4⟩ := Kd.R_slice HO208.out; subst eo4))
 go_loopg [4, 5, 11] k (fun kq v4 v5 v11 w' => ∃ (x4_1 : Int) (x5_1 : List Int) (x11_1 : Int), v4 = .int .i64 x4_1 ∧ v11 = .int .i64 x11_1 ∧ Aside0 (entity_Longest.l0 kq a0 x4_1 x5_1 t206 (t206.length : Int) x11_1 = some (r1, r2)) ∧ Aside0 (kq ≤ k) ∧ Aside0 (Kd.R (Kd.int .i32) 21 w' w.heap.size (fun _ => True) v5 x5_1) ∧ Aside0 (Kd.R k98 98 w' w.heap.size (fun _ => True) (.slice Ao4 t206.length co4) t206) ∧ Aside0 (Below w.heap.size w w'))
 case atStart => exact ⟨(0), (([] : List Int)), (0), (by first | rfl | (simp; done) | (simp [*]; done) | (unfold bt; split <;> first | rfl | (exfalso; simp_all; done) | (exfalso; simp_all; omega))), (by first | rfl | (simp; done) | (simp [*]; done) | (unfold bt; split <;> first | rfl | (exfalso; simp_all; done) | (exfalso; simp_all; omega))), H', ⟨Nat.le_refl _⟩, ⟨by first | exact Kd.R_nil _ _ _ _ _ | exact Kd.N_nil _ _ _ _ _ | exact Kd.V_nil _ _ _ _ _ | exact Kd.Q_nil _ _ _ _ _ | exact Kd.S_nil _ _ _ _ _⟩, ⟨by (with_reducible repeat (first | apply Kd.R_alloc | apply Kd.R_drewN | apply Kd.R_drew)); exact HO208.out⟩, ⟨by repeat (first | (with_reducible first | exact HB.out | apply below_alloc | apply pw_below_drewN | apply below_drew1) | exact HB.out)⟩⟩
 case round =>
  clear H'
  try clear p2
  obtain ⟨x4_1, x5_1, x11_1, rfl, rfl, HA, HK1, HO_5, HO_9, HB⟩ := hrel
  cases gk with
  | zero => exact absurd HA.out (by simp [entity_Longest.l0])
  | succ k1 =>
   have H := HA.out
   clear HA
   simp only [entity_Longest.l0] at H
   by_cases c5 : x11_1 < (t206.length : Int)
   ·rw [if_pos c5] at H
    have c5b0 : decide (x11_1 < (t206.length : Int)) = true := decide_eq_true c5
    clear c5
    by_cases c6 : 0 ≤ x11_1
    ·rw [if_pos c6] at H
     have c6b0 : decide (0 ≤ x11_1) = true := decide_eq_true c6
     clear c6
     by_cases c7 : x11_1 < (t206.length : Int)
     ·rw [if_pos c7] at H
      have c7b0 : decide (x11_1 < (t206.length : Int)) = true := decide_eq_true c7
      clear c7
      replace H := Option.bind_eq_some_iff.mp H
      obtain ⟨t211, A80, H⟩ := H
      replace H : (if t211 = true then (if (((rd_T98 t206 x11_1).f0).size : Int) < (a0.size : Int) then (if 0 ≤ (((rd_T98 t206 x11_1).f0).size : Int) then (entity_Longest.j1 k1 a0 x4_1 x5_1 (((rd_T98 t206 x11_1).f0).size : Int) t206 (t206.length : Int) x11_1 ((bt a0 (((rd_T98 t206 x11_1).f0).size : Int)) == 59) ((rd_T98 t206 x11_1).f0) ((rd_T98 t206 x11_1).f1) ((rd_T98 t206 x11_1).f2) ((rd_T98 t206 x11_1).f3)) else (none)) else (entity_Longest.j1 k1 a0 x4_1 x5_1 (((rd_T98 t206 x11_1).f0).size : Int) t206 (t206.length : Int) x11_1 false ((rd_T98 t206 x11_1).f0) ((rd_T98 t206 x11_1).f1) ((rd_T98 t206 x11_1).f2) ((rd_T98 t206 x11_1).f3))) else (entity_Longest.l0 k1 a0 x4_1 x5_1 t206 (t206.length : Int) (wrap64 (x11_1 + 1)))) = some (r1, r2) := H
      have A8 := Aside0.mk A80
      clear A80
      by_cases c9 : t211 = true
      ·subst c9
       have H1 : (if (((rd_T98 t206 x11_1).f0).size : Int) < (a0.size : Int) then (if 0 ≤ (((rd_T98 t206 x11_1).f0).size : Int) then (entity_Longest.j1 k1 a0 x4_1 x5_1 (((rd_T98 t206 x11_1).f0).size : Int) t206 (t206.length : Int) x11_1 ((bt a0 (((rd_T98 t206 x11_1).f0).size : Int)) == 59) ((rd_T98 t206 x11_1).f0) ((rd_T98 t206 x11_1).f1) ((rd_T98 t206 x11_1).f2) ((rd_T98 t206 x11_1).f3)) else (none)) else (entity_Longest.j1 k1 a0 x4_1 x5_1 (((rd_T98 t206 x11_1).f0).size : Int) t206 (t206.length : Int) x11_1 false ((rd_T98 t206 x11_1).f0) ((rd_T98 t206 x11_1).f1) ((rd_T98 t206 x11_1).f2) ((rd_T98 t206 x11_1).f3))) = some (r1, r2) := by rw [if_pos rfl] at H; exact H
       clear H
       have H := H1
       clear H1
       have HC10 := Aside0.mk H
       clear H
       have p209 : 0 ≤ (x11_1 : Int) := of_decide_eq_true (by first | (with_reducible assumption) | assumption)
       have q209 : x11_1 < (t206.length : Int) := of_decide_eq_true (by first | (with_reducible assumption) | assumption)
       obtain ⟨ad209, e209, hx209_0, hx209_1, hx209_2, hx209_3⟩ := at_T98 (Kd.R_reads' HO_9.out).2.2 x11_1 p209 q209
       cases e209
       replace p209 := eq_true p209
       replace q209 := eq_true q209
       go_upto_region 8 with (first | ((with_reducible refine gate_dst (N := 7) rfl ?_); refine box_event ?hg (N := 7) ?hd (cs := #[.string (⟨#[]⟩ : ByteArray), .int .i32 0, .int .i32 0, .bool false]) (t := 98) ?hr ?_; (case hd => rfl); (case hg => rfl); (case hr => first | (go_simp; done) | (go_simp; rfl)); intro gb210 hg w11 hbox hb; have n0_ := Aside0.mk (Kd.R_below (by (with_reducible repeat (first | apply Kd.R_alloc | apply Kd.R_drewN | apply Kd.R_drew)); exact HO_5.out) hb); have n1_ := Aside0.mk (Kd.R_below (Kd.R_elderB (by (with_reducible repeat (first | apply Kd.R_alloc | apply Kd.R_drewN | apply Kd.R_drew)); exact HO_9.out) gb210 (Nat.le_of_eq hg.symm)) hb); have n2_ := Aside0.mk (below_step (by repeat (first | (with_reducible first | exact HB.out | apply below_alloc | apply pw_below_drewN | apply below_drew1) | exact HB.out)) hb); have n3_ := Aside0.mk (hbox); have n4_ := Aside0.mk ((by rw [hg]; exact (below_size (by repeat (first | (with_reducible first | exact HB.out | apply below_alloc | apply pw_below_drewN | apply below_drew1) | exact HB.out))) : w.heap.size ≤ gb210)); have n5_ := Aside0.mk ((by rw [hg]; exact (below_size (by repeat (first | (with_reducible first | exact HB.out | apply below_alloc | apply pw_below_drewN | apply below_drew1) | exact HB.out))) : w.heap.size ≤ gb210)); clear HO_5; clear HO_9; clear HB; have HO_5 := n0_; have HO_9 := n1_; have HB := n2_; have BK210 := n3_; have GW210 := n4_; have GE210 := n5_; clear n0_ n1_ n2_ n3_ n4_ n5_; clear hb hbox hg; have hcz12_0 : w11.cell? ⟨gb210, 0, none⟩ = some (.string (⟨#[]⟩ : ByteArray)) := (blk_cell BK210.out 0).trans rfl; have hcz12_1 : w11.cell? ⟨gb210, 1, none⟩ = some (.int .i32 0) := (blk_cell BK210.out 1).trans rfl; have hcz12_2 : w11.cell? ⟨gb210, 2, none⟩ = some (.int .i32 0) := (blk_cell BK210.out 2).trans rfl; have hcz12_3 : w11.cell? ⟨gb210, 3, none⟩ = some (.bool false) := (blk_cell BK210.out 3).trans rfl; have hfz12_0 := blk_frozen BK210.out 0; have hfz12_1 := blk_frozen BK210.out 1; have hfz12_2 := blk_frozen BK210.out 2; have hfz12_3 := blk_frozen BK210.out 3) | ((with_reducible refine gate_callee (f := 79) rfl ?_); refine goesL_ (some 18) rfl rfl Try.func79 (by kernel_rfl) rfl #[.string a0, .string ((rd_T98 t206 x11_1).f0)] rfl (by (try simp only [List.map_toArray, List.map_cons, List.map_nil]); first | done | rfl | (simp only [List.length_drop, List.length_take]; rfl) | (simp [*] <;> rfl)) ?_; (with_reducible refine (strings_HasPrefix.calls a0 ((rd_T98 t206 x11_1).f0) true _ A8.out).mono ?_); rintro e w' ⟨rfl, ⟨nd, rfl⟩⟩; refine ⟨_, rfl, ?_⟩))
       (try simp only [Act.put, List.setIfInBounds_toArray, List.set_cons_zero, List.set_cons_succ])
       go_cut [32] (fun v32 wc => ∃ (kq : Nat) (x32_9 : Bool), v32 = .bool x32_9 ∧ Aside0 (entity_Longest.j1 kq a0 x4_1 x5_1 (((rd_T98 t206 x11_1).f0).size : Int) t206 (t206.length : Int) x11_1 x32_9 ((rd_T98 t206 x11_1).f0) ((rd_T98 t206 x11_1).f1) ((rd_T98 t206 x11_1).f2) ((rd_T98 t206 x11_1).f3) = some (r1, r2)) ∧ Aside0 (kq ≤ k1) ∧ Aside0 (Kd.R (Kd.int .i32) 21 wc w.heap.size (fun _ => True) u5 x5_1) ∧ Aside0 (Kd.R k98 98 wc w.heap.size (fun k_ => k_ ≠ gb210) (.slice (some ad209) t206.length co4) t206) ∧ Aside0 (wc.heap[gb210]? = some (.cells #[.string ((rd_T98 t206 x11_1).f0), .int .i32 ((rd_T98 t206 x11_1).f1), .int .i32 ((rd_T98 t206 x11_1).f2), .bool ((rd_T98 t206 x11_1).f3)] 98 (0, 0))) ∧ Aside0 (Below w.heap.size w wc))
       case first =>
        have H := HC10.out
        clear HC10
        by_cases c13 : (((rd_T98 t206 x11_1).f0).size : Int) < (a0.size : Int)
        ·rw [if_pos c13] at H
         have c13b0 : decide ((((rd_T98 t206 x11_1).f0).size : Int) < (a0.size : Int)) = true := decide_eq_true c13
         have c13b1 : decide (((rd_T98 t206 x11_1).f0).size < a0.size) = true := decide_eq_true (Int.ofNat_lt.mp c13)
         clear c13
         (first | rw [c13b0] | (simp only [i64_w, i32_w]; rw [c13b0]) | skip)
         by_cases c14 : 0 ≤ (((rd_T98 t206 x11_1).f0).size : Int)
         ·rw [if_pos c14] at H
          have c14b0 : decide (0 ≤ (((rd_T98 t206 x11_1).f0).size : Int)) = true := decide_eq_true c14
          have c14b1 : decide (0 ≤ ((rd_T98 t206 x11_1).f0).size) = true := decide_eq_true (by omega)
          clear c14
          have H' := Aside0.mk H
          clear H
          have p15 : 0 ≤ ((((rd_T98 t206 x11_1).f0).size : Int) : Int) := of_decide_eq_true (by first | (with_reducible assumption) | assumption)
          have q15 : (((rd_T98 t206 x11_1).f0).size : Int) < (a0.size : Int) := of_decide_eq_true (by first | (with_reducible assumption) | assumption)
          have hx15 := bt_at a0 (((rd_T98 t206 x11_1).f0).size : Int)
          have hx15z : ∀ h : ((rd_T98 t206 x11_1).f0).size < a0.size, ((a0[((rd_T98 t206 x11_1).f0).size]'h).toNat : Int) = bt a0 (((rd_T98 t206 x11_1).f0).size : Int) := bt_at a0 (((rd_T98 t206 x11_1).f0).size : Int)
          replace p15 := eq_true p15
          replace q15 := eq_true q15
          go_wp2
          go_meet
          case rel => exact ⟨_, (((bt a0 (((rd_T98 t206 x11_1).f0).size : Int)) == 59)), (by first | rfl | (simp; done) | (simp [*]; done) | (unfold bt; split <;> first | rfl | (exfalso; simp_all; done) | (exfalso; simp_all; omega))), H', ⟨by have := HK1.out; first | omega | exact Nat.le_refl _⟩, ⟨by (with_reducible repeat (first | apply Kd.R_alloc | apply Kd.R_drewN | apply Kd.R_drew)); exact Kd.R_mono (Kd.R_far (p := ⟨gb210, 3, none⟩) (Kd.R_far (p := ⟨gb210, 2, none⟩) (Kd.R_far (p := ⟨gb210, 1, none⟩) (Kd.R_far (p := ⟨gb210, 0, none⟩) (Kd.R_types HO_5.out BK210.out (by decide)) (fun _ hk => hk.2) (.string ((rd_T98 t206 x11_1).f0))) (fun _ hk => hk.2) (.int .i32 ((rd_T98 t206 x11_1).f1))) (fun _ hk => hk.2) (.int .i32 ((rd_T98 t206 x11_1).f2))) (fun _ hk => hk.2) (.bool ((rd_T98 t206 x11_1).f3))) (fun _ hk => trivial)⟩, ⟨by (with_reducible repeat (first | apply Kd.R_alloc | apply Kd.R_drewN | apply Kd.R_drew)); exact Kd.R_mono (Kd.R_far (p := ⟨gb210, 3, none⟩) (Kd.R_far (p := ⟨gb210, 2, none⟩) (Kd.R_far (p := ⟨gb210, 1, none⟩) (Kd.R_far (p := ⟨gb210, 0, none⟩) (Kd.R_mono HO_9.out (fun k_ hk => (⟨hk, hk.2⟩ : _ ∧ k_ ≠ gb210))) (fun _ hk => hk.2) (.string ((rd_T98 t206 x11_1).f0))) (fun _ hk => hk.2) (.int .i32 ((rd_T98 t206 x11_1).f1))) (fun _ hk => hk.2) (.int .i32 ((rd_T98 t206 x11_1).f2))) (fun _ hk => hk.2) (.bool ((rd_T98 t206 x11_1).f3))) (fun _ hk => hk.1.2)⟩, ⟨by (with_reducible repeat (first | refine blk_drewN ?_ _ | refine blk_drew ?_ | refine blk_alloc ?_ _)); refine blk_put (cs := #[.string ((rd_T98 t206 x11_1).f0), .int .i32 ((rd_T98 t206 x11_1).f1), .int .i32 ((rd_T98 t206 x11_1).f2), .bool false]) ?_ 3 _ rfl; (with_reducible repeat (first | refine blk_drewN ?_ _ | refine blk_drew ?_ | refine blk_alloc ?_ _)); refine blk_put (cs := #[.string ((rd_T98 t206 x11_1).f0), .int .i32 ((rd_T98 t206 x11_1).f1), .int .i32 0, .bool false]) ?_ 2 _ rfl; (with_reducible repeat (first | refine blk_drewN ?_ _ | refine blk_drew ?_ | refine blk_alloc ?_ _)); refine blk_put (cs := #[.string ((rd_T98 t206 x11_1).f0), .int .i32 0, .int .i32 0, .bool false]) ?_ 1 _ rfl; (with_reducible repeat (first | refine blk_drewN ?_ _ | refine blk_drew ?_ | refine blk_alloc ?_ _)); refine blk_put (cs := #[.string (⟨#[]⟩ : ByteArray), .int .i32 0, .int .i32 0, .bool false]) ?_ 0 _ rfl; (with_reducible repeat (first | refine blk_drewN ?_ _ | refine blk_drew ?_ | refine blk_alloc ?_ _)); exact BK210.out⟩, ⟨by repeat (first | (with_reducible first | exact HB.out | apply below_alloc | apply pw_below_drewN | apply below_drew1 | refine below_set ?_ GE210.out) | exact HB.out)⟩⟩
         ·rw [if_neg c14] at H
          exact absurd H (by simp)
        ·rw [if_neg c13] at H
         have c13b0 : decide ((((rd_T98 t206 x11_1).f0).size : Int) < (a0.size : Int)) = false := decide_eq_false c13
         have c13b1 : decide (((rd_T98 t206 x11_1).f0).size < a0.size) = false := decide_eq_false (fun h => c13 (Int.ofNat_lt.mpr h))
         clear c13
         (first | rw [c13b0] | (simp only [i64_w, i32_w]; rw [c13b0]) | skip)
         have H' := Aside0.mk H
         clear H
         go_wp2
         go_meet
         case rel => exact ⟨_, (false), (by first | rfl | (simp; done) | (simp [*]; done) | (unfold bt; split <;> first | rfl | (exfalso; simp_all; done) | (exfalso; simp_all; omega))), H', ⟨by have := HK1.out; first | omega | exact Nat.le_refl _⟩, ⟨by (with_reducible repeat (first | apply Kd.R_alloc | apply Kd.R_drewN | apply Kd.R_drew)); exact Kd.R_mono (Kd.R_far (p := ⟨gb210, 3, none⟩) (Kd.R_far (p := ⟨gb210, 2, none⟩) (Kd.R_far (p := ⟨gb210, 1, none⟩) (Kd.R_far (p := ⟨gb210, 0, none⟩) (Kd.R_types HO_5.out BK210.out (by decide)) (fun _ hk => hk.2) (.string ((rd_T98 t206 x11_1).f0))) (fun _ hk => hk.2) (.int .i32 ((rd_T98 t206 x11_1).f1))) (fun _ hk => hk.2) (.int .i32 ((rd_T98 t206 x11_1).f2))) (fun _ hk => hk.2) (.bool ((rd_T98 t206 x11_1).f3))) (fun _ hk => trivial)⟩, ⟨by (with_reducible repeat (first | apply Kd.R_alloc | apply Kd.R_drewN | apply Kd.R_drew)); exact Kd.R_mono (Kd.R_far (p := ⟨gb210, 3, none⟩) (Kd.R_far (p := ⟨gb210, 2, none⟩) (Kd.R_far (p := ⟨gb210, 1, none⟩) (Kd.R_far (p := ⟨gb210, 0, none⟩) (Kd.R_mono HO_9.out (fun k_ hk => (⟨hk, hk.2⟩ : _ ∧ k_ ≠ gb210))) (fun _ hk => hk.2) (.string ((rd_T98 t206 x11_1).f0))) (fun _ hk => hk.2) (.int .i32 ((rd_T98 t206 x11_1).f1))) (fun _ hk => hk.2) (.int .i32 ((rd_T98 t206 x11_1).f2))) (fun _ hk => hk.2) (.bool ((rd_T98 t206 x11_1).f3))) (fun _ hk => hk.1.2)⟩, ⟨by (with_reducible repeat (first | refine blk_drewN ?_ _ | refine blk_drew ?_ | refine blk_alloc ?_ _)); refine blk_put (cs := #[.string ((rd_T98 t206 x11_1).f0), .int .i32 ((rd_T98 t206 x11_1).f1), .int .i32 ((rd_T98 t206 x11_1).f2), .bool false]) ?_ 3 _ rfl; (with_reducible repeat (first | refine blk_drewN ?_ _ | refine blk_drew ?_ | refine blk_alloc ?_ _)); refine blk_put (cs := #[.string ((rd_T98 t206 x11_1).f0), .int .i32 ((rd_T98 t206 x11_1).f1), .int .i32 0, .bool false]) ?_ 2 _ rfl; (with_reducible repeat (first | refine blk_drewN ?_ _ | refine blk_drew ?_ | refine blk_alloc ?_ _)); refine blk_put (cs := #[.string ((rd_T98 t206 x11_1).f0), .int .i32 0, .int .i32 0, .bool false]) ?_ 1 _ rfl; (with_reducible repeat (first | refine blk_drewN ?_ _ | refine blk_drew ?_ | refine blk_alloc ?_ _)); refine blk_put (cs := #[.string (⟨#[]⟩ : ByteArray), .int .i32 0, .int .i32 0, .bool false]) ?_ 0 _ rfl; (with_reducible repeat (first | refine blk_drewN ?_ _ | refine blk_drew ?_ | refine blk_alloc ?_ _)); exact BK210.out⟩, ⟨by repeat (first | (with_reducible first | exact HB.out | apply below_alloc | apply pw_below_drewN | apply below_drew1 | refine below_set ?_ GE210.out) | exact HB.out)⟩⟩
       case rest =>
        clear HC10
        try clear c1
        try clear p1
        try clear q1
        try clear hx1
        try clear p2
        try clear q2
        try clear hx2
        try clear c5
        try clear c5b0
        try clear c6
        try clear c6b0
        try clear p6
        try clear c7
        try clear c7b0
        try clear c9
        try clear c13
        try clear c13b0
        try clear c13b1
        try clear c14
        try clear c14b0
        try clear c14b1
        try clear p15
        try clear q15
        try clear hx15
        try clear hcz12_0
        try clear hcz12_1
        try clear hcz12_2
        try clear hcz12_3
        try clear hfz12_0
        try clear hfz12_1
        try clear hfz12_2
        try clear hfz12_3
        try clear hx209_0
        try clear hx209_1
        try clear hx209_2
        try clear hx209_3
        try clear p15
        try clear p2
        try clear p209
        try clear q15
        try clear q209
        obtain ⟨kq, x32_9, rfl, HA, HJ9, HO_5, HO_9, BK210, HB⟩ := hcut
        cases kq with
        | zero => exact absurd HA.out (by simp [entity_Longest.j1])
        | succ kj9 =>
         have H := HA.out
         clear HA
         simp only [entity_Longest.j1] at H
         by_cases c16 : x32_9 = true
         ·subst c16
          have H1 : (if (wrap64 ((((rd_T98 t206 x11_1).f0).size : Int) + 1)) > x4_1 then ((entity_says.f ((rd_T98 t206 x11_1).f0) ((rd_T98 t206 x11_1).f1) ((rd_T98 t206 x11_1).f2) ((rd_T98 t206 x11_1).f3)).bind fun t212 => (entity_Longest.l0 kj9 a0 (wrap64 ((((rd_T98 t206 x11_1).f0).size : Int) + 1)) t212 t206 (t206.length : Int) (wrap64 (x11_1 + 1)))) else (entity_Longest.l0 kj9 a0 x4_1 x5_1 t206 (t206.length : Int) (wrap64 (x11_1 + 1)))) = some (r1, r2) := by rw [if_pos rfl] at H; exact H
          clear H
          have H := H1
          clear H1
          by_cases c17 : (wrap64 ((((rd_T98 t206 x11_1).f0).size : Int) + 1)) > x4_1
          ·rw [if_pos c17] at H
           have c17b0 : decide (x4_1 < (wrap64 ((((rd_T98 t206 x11_1).f0).size : Int) + 1))) = true := decide_eq_true c17
           clear c17
           replace H := Option.bind_eq_some_iff.mp H
           obtain ⟨t212, A180, H⟩ := H
           replace H : (entity_Longest.l0 kj9 a0 (wrap64 ((((rd_T98 t206 x11_1).f0).size : Int) + 1)) t212 t206 (t206.length : Int) (wrap64 (x11_1 + 1))) = some (r1, r2) := H
           have A18 := Aside0.mk A180
           clear A180
           have H' := Aside0.mk H
           clear H
           have hcz19_0 : wc.cell? ⟨gb210, 0, none⟩ = some (.string ((rd_T98 t206 x11_1).f0)) := (blk_cell BK210.out 0).trans rfl
           have hcz19_1 : wc.cell? ⟨gb210, 1, none⟩ = some (.int .i32 ((rd_T98 t206 x11_1).f1)) := (blk_cell BK210.out 1).trans rfl
           have hcz19_2 : wc.cell? ⟨gb210, 2, none⟩ = some (.int .i32 ((rd_T98 t206 x11_1).f2)) := (blk_cell BK210.out 2).trans rfl
           have hcz19_3 : wc.cell? ⟨gb210, 3, none⟩ = some (.bool ((rd_T98 t206 x11_1).f3)) := (blk_cell BK210.out 3).trans rfl
           have hfz19_0 := blk_frozen BK210.out 0
           have hfz19_1 := blk_frozen BK210.out 1
           have hfz19_2 := blk_frozen BK210.out 2
           have hfz19_3 := blk_frozen BK210.out 3
           go_wp2_with (first | ((with_reducible refine gate_callee (f := 80) rfl ?_); refine goesL_ (some 43) rfl rfl Try.func80 (by kernel_rfl) rfl #[.agg #[.string ((rd_T98 t206 x11_1).f0), .int .i32 ((rd_T98 t206 x11_1).f1), .int .i32 ((rd_T98 t206 x11_1).f2), .bool ((rd_T98 t206 x11_1).f3)]] rfl (by (try simp only [List.map_toArray, List.map_cons, List.map_nil]); first | done | rfl | (simp only [List.length_drop, List.length_take]; rfl) | (simp [*] <;> rfl)) ?_; (with_reducible refine (entity_says.calls ((rd_T98 t206 x11_1).f0) ((rd_T98 t206 x11_1).f1) ((rd_T98 t206 x11_1).f2) ((rd_T98 t206 x11_1).f3) t212 _ A18.out).mono ?_); rintro e w20 ⟨v213, rfl, ho0, hb⟩; refine ⟨_, rfl, ?_⟩; have n0_ := Aside0.mk (Kd.R_elder' (by (with_reducible repeat (first | apply Kd.R_alloc | apply Kd.R_drewN | apply Kd.R_drew)); exact HO_5.out) (Kd.R_base ho0) hb); have n1_ := Aside0.mk (Kd.R_below (by (with_reducible repeat (first | apply Kd.R_alloc | apply Kd.R_drewN | apply Kd.R_drew)); exact HO_9.out) hb); have n2_ := Aside0.mk (Kd.R_lower (Kd.R_new' ho0 (Kd.R_lt (by (with_reducible repeat (first | apply Kd.R_alloc | apply Kd.R_drewN | apply Kd.R_drew)); exact HO_5.out))) (below_size (by repeat (first | (with_reducible first | exact HB.out | apply below_alloc | apply pw_below_drewN | apply below_drew1 | refine below_set ?_ GE210.out) | exact HB.out)))); have n3_ := Aside0.mk (blk_below (g := gb210) (o := .cells #[.string ((rd_T98 t206 x11_1).f0), .int .i32 ((rd_T98 t206 x11_1).f1), .int .i32 ((rd_T98 t206 x11_1).f2), .bool ((rd_T98 t206 x11_1).f3)] 98 (0, 0)) (by (with_reducible repeat (first | refine blk_drewN ?_ _ | refine blk_drew ?_ | refine blk_alloc ?_ _)); exact BK210.out) hb); have n4_ := Aside0.mk (below_step (by repeat (first | (with_reducible first | exact HB.out | apply below_alloc | apply pw_below_drewN | apply below_drew1 | refine below_set ?_ GE210.out) | exact HB.out)) hb); clear HO_5; clear HO_9; clear BK210; clear HB; have HO_5 := n0_; have HO_9 := n1_; have HO214 := n2_; have BK210 := n3_; have HB := n4_; clear n0_ n1_ n2_ n3_ n4_; (try clear hb); (try clear hb2); (try clear hk); (try clear hi); (try clear ho0)))
           go_roundg kj9
           case measure => have := HK1.out; have := HJ9.out; omega
           case rel => exact ⟨(wrap64 ((((rd_T98 t206 x11_1).f0).size : Int) + 1)), (t212), (wrap64 (x11_1 + 1)), (by first | rfl | (simp; done) | (simp [*]; done) | (unfold bt; split <;> first | rfl | (exfalso; simp_all; done) | (exfalso; simp_all; omega))), (by first | rfl | (simp; done) | (simp [*]; done) | (unfold bt; split <;> first | rfl | (exfalso; simp_all; done) | (exfalso; simp_all; omega))), H', ⟨by have := HK1.out; have := HJ9.out; omega⟩, ⟨by (with_reducible repeat (first | apply Kd.R_alloc | apply Kd.R_drewN | apply Kd.R_drew)); exact Kd.R_mono HO214.out (fun _ hk => trivial)⟩, ⟨by (with_reducible repeat (first | apply Kd.R_alloc | apply Kd.R_drewN | apply Kd.R_drew)); exact Kd.R_mono HO_9.out (fun _ hk => trivial)⟩, ⟨by repeat (first | (with_reducible first | exact HB.out | apply below_alloc | apply pw_below_drewN | apply below_drew1 | refine below_set ?_ GE210.out) | exact HB.out)⟩⟩
          ·rw [if_neg c17] at H
           have c17b0 : decide (x4_1 < (wrap64 ((((rd_T98 t206 x11_1).f0).size : Int) + 1))) = false := decide_eq_false c17
           clear c17
           have H' := Aside0.mk H
           clear H
           go_wp2
           go_roundg kj9
           case measure => have := HK1.out; have := HJ9.out; omega
           case rel => exact ⟨(x4_1), (x5_1), (wrap64 (x11_1 + 1)), (by first | rfl | (simp; done) | (simp [*]; done) | (unfold bt; split <;> first | rfl | (exfalso; simp_all; done) | (exfalso; simp_all; omega))), (by first | rfl | (simp; done) | (simp [*]; done) | (unfold bt; split <;> first | rfl | (exfalso; simp_all; done) | (exfalso; simp_all; omega))), H', ⟨by have := HK1.out; have := HJ9.out; omega⟩, ⟨by (with_reducible repeat (first | apply Kd.R_alloc | apply Kd.R_drewN | apply Kd.R_drew)); exact HO_5.out⟩, ⟨by (with_reducible repeat (first | apply Kd.R_alloc | apply Kd.R_drewN | apply Kd.R_drew)); exact Kd.R_mono HO_9.out (fun _ hk => trivial)⟩, ⟨by repeat (first | (with_reducible first | exact HB.out | apply below_alloc | apply pw_below_drewN | apply below_drew1 | refine below_set ?_ GE210.out) | exact HB.out)⟩⟩
         ·replace c16 := Bool.eq_false_iff.mpr c16
          subst c16
          have H1 : (if ((rd_T98 t206 x11_1).f3) = true then (if (((rd_T98 t206 x11_1).f0).size : Int) > x4_1 then ((entity_says.f ((rd_T98 t206 x11_1).f0) ((rd_T98 t206 x11_1).f1) ((rd_T98 t206 x11_1).f2) ((rd_T98 t206 x11_1).f3)).bind fun t215 => (entity_Longest.l0 kj9 a0 (((rd_T98 t206 x11_1).f0).size : Int) t215 t206 (t206.length : Int) (wrap64 (x11_1 + 1)))) else (entity_Longest.l0 kj9 a0 x4_1 x5_1 t206 (t206.length : Int) (wrap64 (x11_1 + 1)))) else (entity_Longest.l0 kj9 a0 x4_1 x5_1 t206 (t206.length : Int) (wrap64 (x11_1 + 1)))) = some (r1, r2) := by rw [if_neg (show ¬ (false = true) by decide)] at H; exact H
          clear H
          have H := H1
          clear H1
          by_cases c21 : ((rd_T98 t206 x11_1).f3) = true
          ·rw [if_pos c21] at H
           have c21b0 : ((rd_T98 t206 x11_1).f3) = true := c21
           clear c21
           by_cases c22 : (((rd_T98 t206 x11_1).f0).size : Int) > x4_1
           ·rw [if_pos c22] at H
            have c22b0 : decide (x4_1 < (((rd_T98 t206 x11_1).f0).size : Int)) = true := decide_eq_true c22
            clear c22
            replace H := Option.bind_eq_some_iff.mp H
            obtain ⟨t215, A230, H⟩ := H
            replace H : (entity_Longest.l0 kj9 a0 (((rd_T98 t206 x11_1).f0).size : Int) t215 t206 (t206.length : Int) (wrap64 (x11_1 + 1))) = some (r1, r2) := H
            have A23 := Aside0.mk A230
            clear A230
            have H' := Aside0.mk H
            clear H
            have hcz24_0 : wc.cell? ⟨gb210, 0, none⟩ = some (.string ((rd_T98 t206 x11_1).f0)) := (blk_cell BK210.out 0).trans rfl
            have hcz24_1 : wc.cell? ⟨gb210, 1, none⟩ = some (.int .i32 ((rd_T98 t206 x11_1).f1)) := (blk_cell BK210.out 1).trans rfl
            have hcz24_2 : wc.cell? ⟨gb210, 2, none⟩ = some (.int .i32 ((rd_T98 t206 x11_1).f2)) := (blk_cell BK210.out 2).trans rfl
            have hcz24_3 : wc.cell? ⟨gb210, 3, none⟩ = some (.bool ((rd_T98 t206 x11_1).f3)) := (blk_cell BK210.out 3).trans rfl
            have hfz24_0 := blk_frozen BK210.out 0
            have hfz24_1 := blk_frozen BK210.out 1
            have hfz24_2 := blk_frozen BK210.out 2
            have hfz24_3 := blk_frozen BK210.out 3
            go_wp2_with (first | ((with_reducible refine gate_callee (f := 80) rfl ?_); refine goesL_ (some 43) rfl rfl Try.func80 (by kernel_rfl) rfl #[.agg #[.string ((rd_T98 t206 x11_1).f0), .int .i32 ((rd_T98 t206 x11_1).f1), .int .i32 ((rd_T98 t206 x11_1).f2), .bool ((rd_T98 t206 x11_1).f3)]] rfl (by (try simp only [List.map_toArray, List.map_cons, List.map_nil]); first | done | rfl | (simp only [List.length_drop, List.length_take]; rfl) | (simp [*] <;> rfl)) ?_; (with_reducible refine (entity_says.calls ((rd_T98 t206 x11_1).f0) ((rd_T98 t206 x11_1).f1) ((rd_T98 t206 x11_1).f2) ((rd_T98 t206 x11_1).f3) t215 _ A23.out).mono ?_); rintro e w25 ⟨v216, rfl, ho0, hb⟩; refine ⟨_, rfl, ?_⟩; have n0_ := Aside0.mk (Kd.R_elder' (by (with_reducible repeat (first | apply Kd.R_alloc | apply Kd.R_drewN | apply Kd.R_drew)); exact HO_5.out) (Kd.R_base ho0) hb); have n1_ := Aside0.mk (Kd.R_below (by (with_reducible repeat (first | apply Kd.R_alloc | apply Kd.R_drewN | apply Kd.R_drew)); exact HO_9.out) hb); have n2_ := Aside0.mk (Kd.R_lower (Kd.R_new' ho0 (Kd.R_lt (by (with_reducible repeat (first | apply Kd.R_alloc | apply Kd.R_drewN | apply Kd.R_drew)); exact HO_5.out))) (below_size (by repeat (first | (with_reducible first | exact HB.out | apply below_alloc | apply pw_below_drewN | apply below_drew1 | refine below_set ?_ GE210.out) | exact HB.out)))); have n3_ := Aside0.mk (blk_below (g := gb210) (o := .cells #[.string ((rd_T98 t206 x11_1).f0), .int .i32 ((rd_T98 t206 x11_1).f1), .int .i32 ((rd_T98 t206 x11_1).f2), .bool ((rd_T98 t206 x11_1).f3)] 98 (0, 0)) (by (with_reducible repeat (first | refine blk_drewN ?_ _ | refine blk_drew ?_ | refine blk_alloc ?_ _)); exact BK210.out) hb); have n4_ := Aside0.mk (below_step (by repeat (first | (with_reducible first | exact HB.out | apply below_alloc | apply pw_below_drewN | apply below_drew1 | refine below_set ?_ GE210.out) | exact HB.out)) hb); clear HO_5; clear HO_9; clear BK210; clear HB; have HO_5 := n0_; have HO_9 := n1_; have HO217 := n2_; have BK210 := n3_; have HB := n4_; clear n0_ n1_ n2_ n3_ n4_; (try clear hb); (try clear hb2); (try clear hk); (try clear hi); (try clear ho0)))
            go_roundg kj9
            case measure => have := HK1.out; have := HJ9.out; omega
            case rel => exact ⟨((((rd_T98 t206 x11_1).f0).size : Int)), (t215), (wrap64 (x11_1 + 1)), (by first | rfl | (simp; done) | (simp [*]; done) | (unfold bt; split <;> first | rfl | (exfalso; simp_all; done) | (exfalso; simp_all; omega))), (by first | rfl | (simp; done) | (simp [*]; done) | (unfold bt; split <;> first | rfl | (exfalso; simp_all; done) | (exfalso; simp_all; omega))), H', ⟨by have := HK1.out; have := HJ9.out; omega⟩, ⟨by (with_reducible repeat (first | apply Kd.R_alloc | apply Kd.R_drewN | apply Kd.R_drew)); exact Kd.R_mono HO217.out (fun _ hk => trivial)⟩, ⟨by (with_reducible repeat (first | apply Kd.R_alloc | apply Kd.R_drewN | apply Kd.R_drew)); exact Kd.R_mono HO_9.out (fun _ hk => trivial)⟩, ⟨by repeat (first | (with_reducible first | exact HB.out | apply below_alloc | apply pw_below_drewN | apply below_drew1 | refine below_set ?_ GE210.out) | exact HB.out)⟩⟩
           ·rw [if_neg c22] at H
            have c22b0 : decide (x4_1 < (((rd_T98 t206 x11_1).f0).size : Int)) = false := decide_eq_false c22
            clear c22
            have H' := Aside0.mk H
            clear H
            have hcz26_0 : wc.cell? ⟨gb210, 0, none⟩ = some (.string ((rd_T98 t206 x11_1).f0)) := (blk_cell BK210.out 0).trans rfl
            have hcz26_1 : wc.cell? ⟨gb210, 1, none⟩ = some (.int .i32 ((rd_T98 t206 x11_1).f1)) := (blk_cell BK210.out 1).trans rfl
            have hcz26_2 : wc.cell? ⟨gb210, 2, none⟩ = some (.int .i32 ((rd_T98 t206 x11_1).f2)) := (blk_cell BK210.out 2).trans rfl
            have hcz26_3 : wc.cell? ⟨gb210, 3, none⟩ = some (.bool ((rd_T98 t206 x11_1).f3)) := (blk_cell BK210.out 3).trans rfl
            have hfz26_0 := blk_frozen BK210.out 0
            have hfz26_1 := blk_frozen BK210.out 1
            have hfz26_2 := blk_frozen BK210.out 2
            have hfz26_3 := blk_frozen BK210.out 3
            go_wp2
            go_roundg kj9
            case measure => have := HK1.out; have := HJ9.out; omega
            case rel => exact ⟨(x4_1), (x5_1), (wrap64 (x11_1 + 1)), (by first | rfl | (simp; done) | (simp [*]; done) | (unfold bt; split <;> first | rfl | (exfalso; simp_all; done) | (exfalso; simp_all; omega))), (by first | rfl | (simp; done) | (simp [*]; done) | (unfold bt; split <;> first | rfl | (exfalso; simp_all; done) | (exfalso; simp_all; omega))), H', ⟨by have := HK1.out; have := HJ9.out; omega⟩, ⟨by (with_reducible repeat (first | apply Kd.R_alloc | apply Kd.R_drewN | apply Kd.R_drew)); exact HO_5.out⟩, ⟨by (with_reducible repeat (first | apply Kd.R_alloc | apply Kd.R_drewN | apply Kd.R_drew)); exact Kd.R_mono HO_9.out (fun _ hk => trivial)⟩, ⟨by repeat (first | (with_reducible first | exact HB.out | apply below_alloc | apply pw_below_drewN | apply below_drew1 | refine below_set ?_ GE210.out) | exact HB.out)⟩⟩
          ·rw [if_neg c21] at H
           have c21b0 : ((rd_T98 t206 x11_1).f3) = false := by simpa using c21
           clear c21
           have H' := Aside0.mk H
           clear H
           have hcz27_0 : wc.cell? ⟨gb210, 0, none⟩ = some (.string ((rd_T98 t206 x11_1).f0)) := (blk_cell BK210.out 0).trans rfl
           have hcz27_1 : wc.cell? ⟨gb210, 1, none⟩ = some (.int .i32 ((rd_T98 t206 x11_1).f1)) := (blk_cell BK210.out 1).trans rfl
           have hcz27_2 : wc.cell? ⟨gb210, 2, none⟩ = some (.int .i32 ((rd_T98 t206 x11_1).f2)) := (blk_cell BK210.out 2).trans rfl
           have hcz27_3 : wc.cell? ⟨gb210, 3, none⟩ = some (.bool ((rd_T98 t206 x11_1).f3)) := (blk_cell BK210.out 3).trans rfl
           have hfz27_0 := blk_frozen BK210.out 0
           have hfz27_1 := blk_frozen BK210.out 1
           have hfz27_2 := blk_frozen BK210.out 2
           have hfz27_3 := blk_frozen BK210.out 3
           go_wp2
           go_roundg kj9
           case measure => have := HK1.out; have := HJ9.out; omega
           case rel => exact ⟨(x4_1), (x5_1), (wrap64 (x11_1 + 1)), (by first | rfl | (simp; done) | (simp [*]; done) | (unfold bt; split <;> first | rfl | (exfalso; simp_all; done) | (exfalso; simp_all; omega))), (by first | rfl | (simp; done) | (simp [*]; done) | (unfold bt; split <;> first | rfl | (exfalso; simp_all; done) | (exfalso; simp_all; omega))), H', ⟨by have := HK1.out; have := HJ9.out; omega⟩, ⟨by (with_reducible repeat (first | apply Kd.R_alloc | apply Kd.R_drewN | apply Kd.R_drew)); exact HO_5.out⟩, ⟨by (with_reducible repeat (first | apply Kd.R_alloc | apply Kd.R_drewN | apply Kd.R_drew)); exact Kd.R_mono HO_9.out (fun _ hk => trivial)⟩, ⟨by repeat (first | (with_reducible first | exact HB.out | apply below_alloc | apply pw_below_drewN | apply below_drew1 | refine below_set ?_ GE210.out) | exact HB.out)⟩⟩
      ·replace c9 := Bool.eq_false_iff.mpr c9
       subst c9
       have H1 : (entity_Longest.l0 k1 a0 x4_1 x5_1 t206 (t206.length : Int) (wrap64 (x11_1 + 1))) = some (r1, r2) := by rw [if_neg (show ¬ (false = true) by decide)] at H; exact H
       clear H
       have H := H1
       clear H1
       have H' := Aside0.mk H
       clear H
       have p209 : 0 ≤ (x11_1 : Int) := of_decide_eq_true (by first | (with_reducible assumption) | assumption)
       have q209 : x11_1 < (t206.length : Int) := of_decide_eq_true (by first | (with_reducible assumption) | assumption)
       obtain ⟨ad209, e209, hx209_0, hx209_1, hx209_2, hx209_3⟩ := at_T98 (Kd.R_reads' HO_9.out).2.2 x11_1 p209 q209
       cases e209
       replace p209 := eq_true p209
       replace q209 := eq_true q209
       go_wp2_with (first | ((with_reducible refine gate_dst (N := 7) rfl ?_); refine box_event ?hg (N := 7) ?hd (cs := #[.string (⟨#[]⟩ : ByteArray), .int .i32 0, .int .i32 0, .bool false]) (t := 98) ?hr ?_; (case hd => rfl); (case hg => rfl); (case hr => first | (go_simp; done) | (go_simp; rfl)); intro gb210 hg w28 hbox hb; have n0_ := Aside0.mk (Kd.R_below (by (with_reducible repeat (first | apply Kd.R_alloc | apply Kd.R_drewN | apply Kd.R_drew)); exact HO_5.out) hb); have n1_ := Aside0.mk (Kd.R_below (Kd.R_elderB (by (with_reducible repeat (first | apply Kd.R_alloc | apply Kd.R_drewN | apply Kd.R_drew)); exact HO_9.out) gb210 (Nat.le_of_eq hg.symm)) hb); have n2_ := Aside0.mk (below_step (by repeat (first | (with_reducible first | exact HB.out | apply below_alloc | apply pw_below_drewN | apply below_drew1) | exact HB.out)) hb); have n3_ := Aside0.mk (hbox); have n4_ := Aside0.mk ((by rw [hg]; exact (below_size (by repeat (first | (with_reducible first | exact HB.out | apply below_alloc | apply pw_below_drewN | apply below_drew1) | exact HB.out))) : w.heap.size ≤ gb210)); have n5_ := Aside0.mk ((by rw [hg]; exact (below_size (by repeat (first | (with_reducible first | exact HB.out | apply below_alloc | apply pw_below_drewN | apply below_drew1) | exact HB.out))) : w.heap.size ≤ gb210)); clear HO_5; clear HO_9; clear HB; have HO_5 := n0_; have HO_9 := n1_; have HB := n2_; have BK210 := n3_; have GW210 := n4_; have GE210 := n5_; clear n0_ n1_ n2_ n3_ n4_ n5_; clear hb hbox hg; have hcz29_0 : w28.cell? ⟨gb210, 0, none⟩ = some (.string (⟨#[]⟩ : ByteArray)) := (blk_cell BK210.out 0).trans rfl; have hcz29_1 : w28.cell? ⟨gb210, 1, none⟩ = some (.int .i32 0) := (blk_cell BK210.out 1).trans rfl; have hcz29_2 : w28.cell? ⟨gb210, 2, none⟩ = some (.int .i32 0) := (blk_cell BK210.out 2).trans rfl; have hcz29_3 : w28.cell? ⟨gb210, 3, none⟩ = some (.bool false) := (blk_cell BK210.out 3).trans rfl; have hfz29_0 := blk_frozen BK210.out 0; have hfz29_1 := blk_frozen BK210.out 1; have hfz29_2 := blk_frozen BK210.out 2; have hfz29_3 := blk_frozen BK210.out 3) | ((with_reducible refine gate_callee (f := 79) rfl ?_); refine goesL_ (some 18) rfl rfl Try.func79 (by kernel_rfl) rfl #[.string a0, .string ((rd_T98 t206 x11_1).f0)] rfl (by (try simp only [List.map_toArray, List.map_cons, List.map_nil]); first | done | rfl | (simp only [List.length_drop, List.length_take]; rfl) | (simp [*] <;> rfl)) ?_; (with_reducible refine (strings_HasPrefix.calls a0 ((rd_T98 t206 x11_1).f0) false _ A8.out).mono ?_); rintro e w' ⟨rfl, ⟨nd, rfl⟩⟩; refine ⟨_, rfl, ?_⟩))
       go_roundg k1
       case measure => have := HK1.out; omega
       case rel => exact ⟨(x4_1), (x5_1), (wrap64 (x11_1 + 1)), (by first | rfl | (simp; done) | (simp [*]; done) | (unfold bt; split <;> first | rfl | (exfalso; simp_all; done) | (exfalso; simp_all; omega))), (by first | rfl | (simp; done) | (simp [*]; done) | (unfold bt; split <;> first | rfl | (exfalso; simp_all; done) | (exfalso; simp_all; omega))), H', ⟨by have := HK1.out; omega⟩, ⟨by (with_reducible repeat (first | apply Kd.R_alloc | apply Kd.R_drewN | apply Kd.R_drew)); exact Kd.R_mono (Kd.R_far (p := ⟨gb210, 3, none⟩) (Kd.R_far (p := ⟨gb210, 2, none⟩) (Kd.R_far (p := ⟨gb210, 1, none⟩) (Kd.R_far (p := ⟨gb210, 0, none⟩) (Kd.R_types HO_5.out BK210.out (by decide)) (fun _ hk => hk.2) (.string ((rd_T98 t206 x11_1).f0))) (fun _ hk => hk.2) (.int .i32 ((rd_T98 t206 x11_1).f1))) (fun _ hk => hk.2) (.int .i32 ((rd_T98 t206 x11_1).f2))) (fun _ hk => hk.2) (.bool ((rd_T98 t206 x11_1).f3))) (fun _ hk => trivial)⟩, ⟨by (with_reducible repeat (first | apply Kd.R_alloc | apply Kd.R_drewN | apply Kd.R_drew)); exact Kd.R_mono (Kd.R_far (p := ⟨gb210, 3, none⟩) (Kd.R_far (p := ⟨gb210, 2, none⟩) (Kd.R_far (p := ⟨gb210, 1, none⟩) (Kd.R_far (p := ⟨gb210, 0, none⟩) (Kd.R_mono HO_9.out (fun k_ hk => (⟨hk, hk.2⟩ : _ ∧ k_ ≠ gb210))) (fun _ hk => hk.2) (.string ((rd_T98 t206 x11_1).f0))) (fun _ hk => hk.2) (.int .i32 ((rd_T98 t206 x11_1).f1))) (fun _ hk => hk.2) (.int .i32 ((rd_T98 t206 x11_1).f2))) (fun _ hk => hk.2) (.bool ((rd_T98 t206 x11_1).f3))) (fun _ hk => trivial)⟩, ⟨by repeat (first | (with_reducible first | exact HB.out | apply below_alloc | apply pw_below_drewN | apply below_drew1 | refine below_set ?_ GE210.out) | exact HB.out)⟩⟩
     ·rw [if_neg c7] at H
      exact absurd H (by simp)
    ·rw [if_neg c6] at H
     exact absurd H (by simp)
   ·rw [if_neg c5] at H
    have c5b0 : decide (x11_1 < (t206.length : Int)) = false := decide_eq_false c5
    clear c5
    simp only [Option.some.injEq, Prod.mk.injEq] at H
    obtain ⟨rfl, rfl⟩ := H
    go_wp2
    go_ret2
    exact ⟨_, by first | rfl | (simp [errW_none, errW_some] <;> rfl) | (simp [*, errW_none, errW_some] <;> rfl), by (with_reducible repeat (first | apply Kd.R_alloc | apply Kd.R_drewN | apply Kd.R_drew)); exact HO_5.out, by repeat (first | (with_reducible first | exact HB.out | apply below_alloc | apply pw_below_drewN | apply below_drew1) | exact HB.out)⟩

/-! ### charref_named: function 44 -/
mutual
def charref_named.j0 : Nat → ByteArray → Bool → Bool → Bool → Option (ByteArray × Int × Bool)
 | 0, _, _, _, _ => none
 | k + 1, x0, x1, x2, x14 => if x14 = true then (some ((⟨#[]⟩ : ByteArray), 0, false)) else ((entity_Longest.f k x0).bind fun bt220 => (if bt220.1 = 0 then (some ((⟨#[]⟩ : ByteArray), 0, true)) else (if x1 = true then (if 0 ≤ (wrap64 (bt220.1 - 1)) then (if (wrap64 (bt220.1 - 1)) < (x0.size : Int) then (charref_named.j1 k x0 x2 bt220.1 bt220.2 ((bt x0 (wrap64 (bt220.1 - 1))) != 59)) else (none)) else (none)) else (charref_named.j1 k x0 x2 bt220.1 bt220.2 false))))
def charref_named.j1 : Nat → ByteArray → Bool → Int → List Int → Bool → Option (ByteArray × Int × Bool)
 | 0, _, _, _, _, _ => none
 | k + 1, x0, x2, x7, x8, x31 => if x31 = true then (if x7 = (x0.size : Int) then (if x2 = true then (some (Hc_text x8, x7, true)) else (some ((⟨#[]⟩ : ByteArray), 0, false))) else (if 0 ≤ x7 then (if x7 < (x0.size : Int) then ((charref_word.f (bt x0 x7)).bind fun t224 => (if t224 = true then (some ((⟨#[]⟩ : ByteArray), 0, true)) else (if (bt x0 x7) = 61 then (some ((⟨#[]⟩ : ByteArray), 0, true)) else (some (Hc_text x8, x7, true))))) else (none)) else (none))) else (some (Hc_text x8, x7, true))
end
def charref_named.f (k : Nat) (a0 : ByteArray) (a1 : Bool) (a2 : Bool) : Option (ByteArray × Int × Bool) := if a2 = true then (charref_named.j0 k a0 a1 a2 false) else ((entity_Begins.f k a0).bind fun t219 => (charref_named.j0 k a0 a1 a2 t219))
theorem charref_named.mono_l : ∀ k, (∀ y0 y1 y2 y3, LeO (charref_named.j0 k y0 y1 y2 y3) (charref_named.j0 (k + 1) y0 y1 y2 y3)) ∧ (∀ y0 y1 y2 y3 y4, LeO (charref_named.j1 k y0 y1 y2 y3 y4) (charref_named.j1 (k + 1) y0 y1 y2 y3 y4))
 | 0 => ⟨fun _ _ _ _ r h => by simp [charref_named.j0] at h, fun _ _ _ _ _ r h => by simp [charref_named.j1] at h⟩
 | k + 1 => by
  obtain ⟨ih0, ih1⟩ := charref_named.mono_l k
  refine ⟨?_, ?_⟩
  ·intro y0 y1 y2 y3
   unfold charref_named.j0
   repeat' first
   | (with_reducible exact ih0 _ _ _ _)
   | (with_reducible exact ih1 _ _ _ _ _)
   | (with_reducible exact entity_Begins.mono _ _)
   | (with_reducible exact entity_Longest.mono _ _)
   | (with_reducible exact LeO.refl _)
   | (with_reducible exact LeO.none _)
   | (with_reducible refine LeO.ite ?_ ?_)
   | (with_reducible refine LeO.bind ?_ (fun _ => ?_))
   | exact ih0 _ _ _ _
   | exact ih1 _ _ _ _ _
   | exact entity_Begins.mono _ _
   | exact entity_Longest.mono _ _
   | exact LeO.none _
   | refine LeO.ite ?_ ?_
   | refine LeO.bind ?_ (fun _ => ?_)
  ·intro y0 y1 y2 y3 y4
   unfold charref_named.j1
   repeat' first
   | (with_reducible exact ih0 _ _ _ _)
   | (with_reducible exact ih1 _ _ _ _ _)
   | (with_reducible exact entity_Begins.mono _ _)
   | (with_reducible exact entity_Longest.mono _ _)
   | (with_reducible exact LeO.refl _)
   | (with_reducible exact LeO.none _)
   | (with_reducible refine LeO.ite ?_ ?_)
   | (with_reducible refine LeO.bind ?_ (fun _ => ?_))
   | exact ih0 _ _ _ _
   | exact ih1 _ _ _ _ _
   | exact entity_Begins.mono _ _
   | exact entity_Longest.mono _ _
   | exact LeO.none _
   | refine LeO.ite ?_ ?_
   | refine LeO.bind ?_ (fun _ => ?_)
theorem charref_named.mono : ∀ a0 a1 a2 k, LeO (charref_named.f k a0 a1 a2) (charref_named.f (k + 1) a0 a1 a2) := by
 intro a0 a1 a2 k
 obtain ⟨ih0, ih1⟩ := charref_named.mono_l k
 unfold charref_named.f
 repeat' first
   | (with_reducible exact ih0 _ _ _ _)
   | (with_reducible exact ih1 _ _ _ _ _)
   | (with_reducible exact entity_Begins.mono _ _)
   | (with_reducible exact entity_Longest.mono _ _)
   | (with_reducible exact LeO.refl _)
   | (with_reducible exact LeO.none _)
   | (with_reducible refine LeO.ite ?_ ?_)
   | (with_reducible refine LeO.bind ?_ (fun _ => ?_))
   | exact ih0 _ _ _ _
   | exact ih1 _ _ _ _ _
   | exact entity_Begins.mono _ _
   | exact entity_Longest.mono _ _
   | exact LeO.none _
   | refine LeO.ite ?_ ?_
   | refine LeO.bind ?_ (fun _ => ?_)
set_option maxHeartbeats 8000000 in
set_option maxRecDepth 100000 in
theorem charref_named.calls (k : Nat) (a0 : ByteArray) (a1 : Bool) (a2 : Bool) (r1 : ByteArray) (r2 : Int) (r3 : Bool) (w : World) (h : charref_named.f k a0 a1 a2 = some (r1, r2, r3)) :
  Calls Try.prog 44 #[.string a0, .bool a1, .bool a2] w fun e w' => e = .returned (.agg #[.string r1, .int .i64 r2, .bool r3]) ∧ Below w.heap.size w w' := by
 have hu60 := Try.underlying60
 have HB := Aside0.mk (Below.refl w.heap.size w)
 have H : (if a2 = true then (charref_named.j0 k a0 a1 a2 false) else ((entity_Begins.f k a0).bind fun t219 => (charref_named.j0 k a0 a1 a2 t219))) = some (r1, r2, r3) := h
 clear h
 have HC4 := Aside0.mk H
 clear H
 go_enter Try.func44, Try.ntmps44
 go_upto_region 1 with (first | ((with_reducible refine gate_dst (N := 6) rfl ?_); refine box_event ?hg (N := 6) ?hd (cs := #[.string (⟨#[]⟩ : ByteArray), .int .i64 0, .bool false]) (t := 60) ?hr ?_; (case hd => rfl); (case hg => rfl); (case hr => first | (go_simp; done) | (go_simp; rfl)); intro gb218 hg w5 hbox hb; have n0_ := Aside0.mk (below_step (by repeat (first | (with_reducible first | exact HB.out | apply below_alloc | apply pw_below_drewN | apply below_drew1) | exact HB.out)) hb); have n1_ := Aside0.mk (hbox); have n2_ := Aside0.mk ((by rw [hg]; exact (below_size (by repeat (first | (with_reducible first | exact HB.out | apply below_alloc | apply pw_below_drewN | apply below_drew1) | exact HB.out))) : w.heap.size ≤ gb218)); have n3_ := Aside0.mk ((by rw [hg]; exact (below_size (by repeat (first | (with_reducible first | exact HB.out | apply below_alloc | apply pw_below_drewN | apply below_drew1) | exact HB.out))) : w.heap.size ≤ gb218)); clear HB; have HB := n0_; have BK218 := n1_; have GW218 := n2_; have GE218 := n3_; clear n0_ n1_ n2_ n3_; clear hb hbox hg))
 (try simp only [Act.put, List.setIfInBounds_toArray, List.set_cons_zero, List.set_cons_succ])
 go_cut [14] (fun v14 wc => ∃ (kq : Nat) (x14_3 : Bool), v14 = .bool x14_3 ∧ Aside0 (charref_named.j0 kq a0 a1 a2 x14_3 = some (r1, r2, r3)) ∧ Aside0 (kq ≤ k) ∧ Aside0 (wc.heap[gb218]? = some (.cells #[.string (⟨#[]⟩ : ByteArray), .int .i64 0, .bool false] 60 (0, 0))) ∧ Aside0 (Below w.heap.size w wc))
 case first =>
  have H := HC4.out
  clear HC4
  by_cases c6 : a2 = true
  ·subst c6
   have H1 : (charref_named.j0 k a0 a1 true false) = some (r1, r2, r3) := by rw [if_pos rfl] at H; exact H
   clear H
   have H := H1
   clear H1
   have H' := Aside0.mk H
   clear H
   go_wp2
   go_meet
   case rel => exact ⟨_, (false), (by first | rfl | (simp; done) | (simp [*]; done) | (unfold bt; split <;> first | rfl | (exfalso; simp_all; done) | (exfalso; simp_all; omega))), H', ⟨by first | omega | exact Nat.le_refl _⟩, ⟨by (with_reducible repeat (first | refine blk_drewN ?_ _ | refine blk_drew ?_ | refine blk_alloc ?_ _)); exact BK218.out⟩, ⟨by repeat (first | (with_reducible first | exact HB.out | apply below_alloc | apply pw_below_drewN | apply below_drew1 | refine below_set ?_ GE218.out) | exact HB.out)⟩⟩
  ·replace c6 := Bool.eq_false_iff.mpr c6
   subst c6
   have H1 : ((entity_Begins.f k a0).bind fun t219 => (charref_named.j0 k a0 a1 false t219)) = some (r1, r2, r3) := by rw [if_neg (show ¬ (false = true) by decide)] at H; exact H
   clear H
   have H := H1
   clear H1
   replace H := Option.bind_eq_some_iff.mp H
   obtain ⟨t219, A70, H⟩ := H
   replace H : (charref_named.j0 k a0 a1 false t219) = some (r1, r2, r3) := H
   have A7 := Aside0.mk A70
   clear A70
   have H' := Aside0.mk H
   clear H
   go_wp2_with (first | (go_at_call 62; (with_reducible refine (entity_Begins.calls k a0 t219 _ A7.out).mono ?_); rintro e w8 ⟨rfl, hb⟩; have n0_ := Aside0.mk (blk_below (g := gb218) (o := .cells #[.string (⟨#[]⟩ : ByteArray), .int .i64 0, .bool false] 60 (0, 0)) (by (with_reducible repeat (first | refine blk_drewN ?_ _ | refine blk_drew ?_ | refine blk_alloc ?_ _)); exact BK218.out) hb); have n1_ := Aside0.mk (below_step (by repeat (first | (with_reducible first | exact HB.out | apply below_alloc | apply pw_below_drewN | apply below_drew1 | refine below_set ?_ GE218.out) | exact HB.out)) hb); clear BK218; clear HB; have BK218 := n0_; have HB := n1_; clear n0_ n1_; (try clear hb); (try clear hb2); (try clear hk); (try clear hi)))
   go_meet
   case rel => exact ⟨_, (t219), (by first | rfl | (simp; done) | (simp [*]; done) | (unfold bt; split <;> first | rfl | (exfalso; simp_all; done) | (exfalso; simp_all; omega))), H', ⟨by first | omega | exact Nat.le_refl _⟩, ⟨by (with_reducible repeat (first | refine blk_drewN ?_ _ | refine blk_drew ?_ | refine blk_alloc ?_ _)); exact BK218.out⟩, ⟨by repeat (first | (with_reducible first | exact HB.out | apply below_alloc | apply pw_below_drewN | apply below_drew1 | refine below_set ?_ GE218.out) | exact HB.out)⟩⟩
 case rest =>
  clear HC4
  try clear p2
  try clear c4
  try clear c6
  obtain ⟨kq, x14_3, rfl, HA, HJ3, BK218, HB⟩ := hcut
  cases kq with
  | zero => exact absurd HA.out (by simp [charref_named.j0])
  | succ kj3 =>
   have H := HA.out
   clear HA
   simp only [charref_named.j0] at H
   by_cases c9 : x14_3 = true
   ·subst c9
    have H1 : (some ((⟨#[]⟩ : ByteArray), 0, false)) = some (r1, r2, r3) := by rw [if_pos rfl] at H; exact H
    clear H
    have H := H1
    clear H1
    simp only [Option.some.injEq, Prod.mk.injEq] at H
    obtain ⟨rfl, rfl, rfl⟩ := H
    have hcz10_0 : wc.cell? ⟨gb218, 0, none⟩ = some (.string (⟨#[]⟩ : ByteArray)) := (blk_cell BK218.out 0).trans rfl
    have hcz10_1 : wc.cell? ⟨gb218, 1, none⟩ = some (.int .i64 0) := (blk_cell BK218.out 1).trans rfl
    have hcz10_2 : wc.cell? ⟨gb218, 2, none⟩ = some (.bool false) := (blk_cell BK218.out 2).trans rfl
    have hfz10_0 := blk_frozen BK218.out 0
    have hfz10_1 := blk_frozen BK218.out 1
    have hfz10_2 := blk_frozen BK218.out 2
    go_wp2
    refine bodyPost_ret (results_cell_row rfl _ _ gb218 60 #[.string (⟨#[]⟩ : ByteArray), .int .i64 0, .bool false] (0, 0) _ rfl (by (with_reducible repeat (first | refine blk_drewN ?_ _ | refine blk_drew ?_ | refine blk_alloc ?_ _)); refine blk_put (cs := #[.string (⟨#[]⟩ : ByteArray), .int .i64 0, .bool false]) ?_ 2 _ rfl; (with_reducible repeat (first | refine blk_drewN ?_ _ | refine blk_drew ?_ | refine blk_alloc ?_ _)); refine blk_put (cs := #[.string (⟨#[]⟩ : ByteArray), .int .i64 0, .bool false]) ?_ 1 _ rfl; (with_reducible repeat (first | refine blk_drewN ?_ _ | refine blk_drew ?_ | refine blk_alloc ?_ _)); refine blk_put (cs := #[.string (⟨#[]⟩ : ByteArray), .int .i64 0, .bool false]) ?_ 0 _ rfl; (with_reducible repeat (first | refine blk_drewN ?_ _ | refine blk_drew ?_ | refine blk_alloc ?_ _)); exact BK218.out) Try.underlying60 rfl (by kernel_rfl)) rfl ?_
    exact ⟨by first | rfl | (simp [errW_none, errW_some] <;> rfl) | (simp [*, errW_none, errW_some] <;> rfl), by repeat (first | (with_reducible first | exact HB.out | apply below_alloc | apply pw_below_drewN | apply below_drew1 | refine below_set ?_ GE218.out) | exact HB.out)⟩
   ·replace c9 := Bool.eq_false_iff.mpr c9
    subst c9
    have H1 : ((entity_Longest.f kj3 a0).bind fun bt220 => (if bt220.1 = 0 then (some ((⟨#[]⟩ : ByteArray), 0, true)) else (if a1 = true then (if 0 ≤ (wrap64 (bt220.1 - 1)) then (if (wrap64 (bt220.1 - 1)) < (a0.size : Int) then (charref_named.j1 kj3 a0 a2 bt220.1 bt220.2 ((bt a0 (wrap64 (bt220.1 - 1))) != 59)) else (none)) else (none)) else (charref_named.j1 kj3 a0 a2 bt220.1 bt220.2 false)))) = some (r1, r2, r3) := by rw [if_neg (show ¬ (false = true) by decide)] at H; exact H
    clear H
    have H := H1
    clear H1
    replace H := Option.bind_eq_some_iff.mp H
    obtain ⟨⟨t220, t221⟩, A110, H⟩ := H
    replace H : (if t220 = 0 then (some ((⟨#[]⟩ : ByteArray), 0, true)) else (if a1 = true then (if 0 ≤ (wrap64 (t220 - 1)) then (if (wrap64 (t220 - 1)) < (a0.size : Int) then (charref_named.j1 kj3 a0 a2 t220 t221 ((bt a0 (wrap64 (t220 - 1))) != 59)) else (none)) else (none)) else (charref_named.j1 kj3 a0 a2 t220 t221 false))) = some (r1, r2, r3) := H
    have A11 := Aside0.mk A110
    clear A110
    by_cases c12 : t220 = 0
    ·rw [if_pos c12] at H
     have c12b0 : (t220 == 0) = true := beq_iff_eq.mpr c12
     have c12b1 : (t220 != 0) = false := bne_eq_false_iff_eq.mpr c12
     clear c12
     simp only [Option.some.injEq, Prod.mk.injEq] at H
     obtain ⟨rfl, rfl, rfl⟩ := H
     go_wp2_with (first | ((with_reducible refine gate_callee (f := 63) rfl ?_); refine goesL_ (some 18) rfl rfl Try.func63 (by kernel_rfl) rfl #[.string a0] rfl (by (try simp only [List.map_toArray, List.map_cons, List.map_nil]); first | done | rfl | (simp only [List.length_drop, List.length_take]; rfl) | (simp [*] <;> rfl)) ?_; (with_reducible refine (entity_Longest.calls kj3 a0 t220 t221 _ A11.out).mono ?_); rintro e w13 ⟨v222, rfl, ho0, hb⟩; refine ⟨_, rfl, ?_⟩; have n0_ := Aside0.mk (Kd.R_lower ho0 (below_size (by repeat (first | (with_reducible first | exact HB.out | apply below_alloc | apply pw_below_drewN | apply below_drew1 | refine below_set ?_ GE218.out) | exact HB.out)))); have n1_ := Aside0.mk (blk_below (g := gb218) (o := .cells #[.string (⟨#[]⟩ : ByteArray), .int .i64 0, .bool false] 60 (0, 0)) (by (with_reducible repeat (first | refine blk_drewN ?_ _ | refine blk_drew ?_ | refine blk_alloc ?_ _)); exact BK218.out) hb); have n2_ := Aside0.mk (below_step (by repeat (first | (with_reducible first | exact HB.out | apply below_alloc | apply pw_below_drewN | apply below_drew1 | refine below_set ?_ GE218.out) | exact HB.out)) hb); clear BK218; clear HB; have HO223 := n0_; have BK218 := n1_; have HB := n2_; clear n0_ n1_ n2_; (try clear hb); (try clear hb2); (try clear hk); (try clear hi); (try clear ho0); have hcz14_0 : w13.cell? ⟨gb218, 0, none⟩ = some (.string (⟨#[]⟩ : ByteArray)) := (blk_cell BK218.out 0).trans rfl; have hcz14_1 : w13.cell? ⟨gb218, 1, none⟩ = some (.int .i64 0) := (blk_cell BK218.out 1).trans rfl; have hcz14_2 : w13.cell? ⟨gb218, 2, none⟩ = some (.bool false) := (blk_cell BK218.out 2).trans rfl; have hfz14_0 := blk_frozen BK218.out 0; have hfz14_1 := blk_frozen BK218.out 1; have hfz14_2 := blk_frozen BK218.out 2))
     refine bodyPost_ret (results_cell_row rfl _ _ gb218 60 #[.string (⟨#[]⟩ : ByteArray), .int .i64 0, .bool true] (0, 0) _ rfl (by (with_reducible repeat (first | refine blk_drewN ?_ _ | refine blk_drew ?_ | refine blk_alloc ?_ _)); refine blk_put (cs := #[.string (⟨#[]⟩ : ByteArray), .int .i64 0, .bool false]) ?_ 2 _ rfl; (with_reducible repeat (first | refine blk_drewN ?_ _ | refine blk_drew ?_ | refine blk_alloc ?_ _)); refine blk_put (cs := #[.string (⟨#[]⟩ : ByteArray), .int .i64 0, .bool false]) ?_ 1 _ rfl; (with_reducible repeat (first | refine blk_drewN ?_ _ | refine blk_drew ?_ | refine blk_alloc ?_ _)); refine blk_put (cs := #[.string (⟨#[]⟩ : ByteArray), .int .i64 0, .bool false]) ?_ 0 _ rfl; (with_reducible repeat (first | refine blk_drewN ?_ _ | refine blk_drew ?_ | refine blk_alloc ?_ _)); exact BK218.out) Try.underlying60 rfl (by kernel_rfl)) rfl ?_
     exact ⟨by first | rfl | (simp [errW_none, errW_some] <;> rfl) | (simp [*, errW_none, errW_some] <;> rfl), by repeat (first | (with_reducible first | exact HB.out | apply below_alloc | apply pw_below_drewN | apply below_drew1 | refine below_set ?_ GE218.out) | exact HB.out)⟩
    ·rw [if_neg c12] at H
     have c12b0 : (t220 == 0) = false := beq_eq_false_iff_ne.mpr c12
     have c12b1 : (t220 != 0) = true := bne_iff_ne.mpr c12
     have HC15 := Aside0.mk H
     clear H
     go_upto_region 6 with (first | ((with_reducible refine gate_callee (f := 63) rfl ?_); refine goesL_ (some 18) rfl rfl Try.func63 (by kernel_rfl) rfl #[.string a0] rfl (by (try simp only [List.map_toArray, List.map_cons, List.map_nil]); first | done | rfl | (simp only [List.length_drop, List.length_take]; rfl) | (simp [*] <;> rfl)) ?_; (with_reducible refine (entity_Longest.calls kj3 a0 t220 t221 _ A11.out).mono ?_); rintro e w16 ⟨v222, rfl, ho0, hb⟩; refine ⟨_, rfl, ?_⟩; have n0_ := Aside0.mk (Kd.R_lower ho0 (below_size (by repeat (first | (with_reducible first | exact HB.out | apply below_alloc | apply pw_below_drewN | apply below_drew1 | refine below_set ?_ GE218.out) | exact HB.out)))); have n1_ := Aside0.mk (blk_below (g := gb218) (o := .cells #[.string (⟨#[]⟩ : ByteArray), .int .i64 0, .bool false] 60 (0, 0)) (by (with_reducible repeat (first | refine blk_drewN ?_ _ | refine blk_drew ?_ | refine blk_alloc ?_ _)); exact BK218.out) hb); have n2_ := Aside0.mk (below_step (by repeat (first | (with_reducible first | exact HB.out | apply below_alloc | apply pw_below_drewN | apply below_drew1 | refine below_set ?_ GE218.out) | exact HB.out)) hb); clear BK218; clear HB; have HO223 := n0_; have BK218 := n1_; have HB := n2_; clear n0_ n1_ n2_; (try clear hb); (try clear hb2); (try clear hk); (try clear hi); (try clear ho0)))
     (try simp only [Act.put, List.setIfInBounds_toArray, List.set_cons_zero, List.set_cons_succ])
     go_cut [31] (fun v31 wc => ∃ (kq : Nat) (x31_14 : Bool), v31 = .bool x31_14 ∧ Aside0 (charref_named.j1 kq a0 a2 t220 t221 x31_14 = some (r1, r2, r3)) ∧ Aside0 (kq ≤ kj3) ∧ Aside0 (Kd.R (Kd.int .i32) 21 wc w.heap.size (fun _ => True) v222 t221) ∧ Aside0 (wc.heap[gb218]? = some (.cells #[.string (⟨#[]⟩ : ByteArray), .int .i64 0, .bool false] 60 (0, 0))) ∧ Aside0 (Below w.heap.size w wc))
     case first =>
      have H := HC15.out
      clear HC15
      by_cases c17 : a1 = true
      ·subst c17
       have H1 : (if 0 ≤ (wrap64 (t220 - 1)) then (if (wrap64 (t220 - 1)) < (a0.size : Int) then (charref_named.j1 kj3 a0 a2 t220 t221 ((bt a0 (wrap64 (t220 - 1))) != 59)) else (none)) else (none)) = some (r1, r2, r3) := by rw [if_pos rfl] at H; exact H
       clear H
       have H := H1
       clear H1
       obtain ⟨ji18, hji18⟩ : ∃ j_ : Int, (wrap64 (t220 - 1)) = j_ := ⟨_, rfl⟩
       replace H : (if 0 ≤ (ji18) then (if (ji18) < (a0.size : Int) then (charref_named.j1 kj3 a0 a2 t220 t221 ((bt a0 (ji18)) != 59)) else (none)) else (none)) = some (r1, r2, r3) := by first | (rw [hji18] at H; exact H) | (simp only [hji18] at H ⊢; exact H)
       have hji18w : (IntKind.i64.wrap (t220 - 1)) = ji18 := (i64_w _).trans hji18
       by_cases c19 : 0 ≤ (ji18)
       ·rw [if_pos c19] at H
        have c19b0 : decide (0 ≤ (ji18)) = true := decide_eq_true c19
        clear c19
        (first | rw [c19b0] | (simp only [i64_w, i32_w]; rw [c19b0]) | skip)
        by_cases c20 : (ji18) < (a0.size : Int)
        ·rw [if_pos c20] at H
         have c20b0 : decide ((ji18) < (a0.size : Int)) = true := decide_eq_true c20
         clear c20
         have H' := Aside0.mk H
         clear H
         have p21 : 0 ≤ ((ji18) : Int) := of_decide_eq_true (by first | (with_reducible assumption) | assumption)
         have q21 : (ji18) < (a0.size : Int) := of_decide_eq_true (by first | (with_reducible assumption) | assumption)
         have hx21 := bt_at a0 (ji18)
         replace p21 := eq_true p21
         replace q21 := eq_true q21
         go_wp2
         go_meet
         case rel => exact ⟨_, (((bt a0 (ji18)) != 59)), (by first | rfl | (simp; done) | (simp only [← hji18] <;> (first | rfl | simp)) | (simp [*]; done)), H', ⟨by have := HJ3.out; first | omega | exact Nat.le_refl _⟩, ⟨by (with_reducible repeat (first | apply Kd.R_alloc | apply Kd.R_drewN | apply Kd.R_drew)); exact HO223.out⟩, ⟨by (with_reducible repeat (first | refine blk_drewN ?_ _ | refine blk_drew ?_ | refine blk_alloc ?_ _)); exact BK218.out⟩, ⟨by repeat (first | (with_reducible first | exact HB.out | apply below_alloc | apply pw_below_drewN | apply below_drew1 | refine below_set ?_ GE218.out) | exact HB.out)⟩⟩
        ·rw [if_neg c20] at H
         exact absurd H (by simp)
       ·rw [if_neg c19] at H
        exact absurd H (by simp)
      ·replace c17 := Bool.eq_false_iff.mpr c17
       subst c17
       have H1 : (charref_named.j1 kj3 a0 a2 t220 t221 false) = some (r1, r2, r3) := by rw [if_neg (show ¬ (false = true) by decide)] at H; exact H
       clear H
       have H := H1
       clear H1
       have H' := Aside0.mk H
       clear H
       go_wp2
       go_meet
       case rel => exact ⟨_, (false), (by first | rfl | (simp; done) | (simp [*]; done) | (unfold bt; split <;> first | rfl | (exfalso; simp_all; done) | (exfalso; simp_all; omega))), H', ⟨by have := HJ3.out; first | omega | exact Nat.le_refl _⟩, ⟨by (with_reducible repeat (first | apply Kd.R_alloc | apply Kd.R_drewN | apply Kd.R_drew)); exact HO223.out⟩, ⟨by (with_reducible repeat (first | refine blk_drewN ?_ _ | refine blk_drew ?_ | refine blk_alloc ?_ _)); exact BK218.out⟩, ⟨by repeat (first | (with_reducible first | exact HB.out | apply below_alloc | apply pw_below_drewN | apply below_drew1 | refine below_set ?_ GE218.out) | exact HB.out)⟩⟩
     case rest =>
      clear HC15
      try clear c1
      try clear c2
      try clear p2
      try clear q2
      try clear hx2
      try clear c4
      try clear c6
      try clear p6
      try clear c9
      try clear c12
      try clear c12b0
      try clear c12b1
      try clear c17
      try clear c19
      try clear c19b0
      try clear c20
      try clear c20b0
      try clear p21
      try clear q21
      try clear hx21
      try clear hcz10_0
      try clear hcz10_1
      try clear hcz10_2
      try clear hcz14_0
      try clear hcz14_1
      try clear hcz14_2
      try clear hfz10_0
      try clear hfz10_1
      try clear hfz10_2
      try clear hfz14_0
      try clear hfz14_1
      try clear hfz14_2
      try clear p2
      try clear p21
      try clear q21
      obtain ⟨kq, x31_14, rfl, HA, HJ14, HO_8, BK218, HB⟩ := hcut
      cases kq with
      | zero => exact absurd HA.out (by simp [charref_named.j1])
      | succ kj14 =>
       have H := HA.out
       clear HA
       simp only [charref_named.j1] at H
       by_cases c22 : x31_14 = true
       ·subst c22
        have H1 : (if t220 = (a0.size : Int) then (if a2 = true then (some (Hc_text t221, t220, true)) else (some ((⟨#[]⟩ : ByteArray), 0, false))) else (if 0 ≤ t220 then (if t220 < (a0.size : Int) then ((charref_word.f (bt a0 t220)).bind fun t224 => (if t224 = true then (some ((⟨#[]⟩ : ByteArray), 0, true)) else (if (bt a0 t220) = 61 then (some ((⟨#[]⟩ : ByteArray), 0, true)) else (some (Hc_text t221, t220, true))))) else (none)) else (none))) = some (r1, r2, r3) := by rw [if_pos rfl] at H; exact H
        clear H
        have H := H1
        clear H1
        by_cases c23 : t220 = (a0.size : Int)
        ·rw [if_pos c23] at H
         have c23b0 : (t220 == (a0.size : Int)) = true := beq_iff_eq.mpr c23
         have c23b1 : (t220 != (a0.size : Int)) = false := bne_eq_false_iff_eq.mpr c23
         clear c23
         by_cases c24 : a2 = true
         ·subst c24
          have H1 : (some (Hc_text t221, t220, true)) = some (r1, r2, r3) := by rw [if_pos rfl] at H; exact H
          clear H
          have H := H1
          clear H1
          simp only [Option.some.injEq, Prod.mk.injEq] at H
          obtain ⟨rfl, rfl, rfl⟩ := H
          have hcv25 := Hc_own_runes (P := Try.prog) Try.underlying29 Try.underlying21 Try.underlying9 (Kd.own_of_R HO_8.out)
          have hcz26_0 : wc.cell? ⟨gb218, 0, none⟩ = some (.string (⟨#[]⟩ : ByteArray)) := (blk_cell BK218.out 0).trans rfl
          have hcz26_1 : wc.cell? ⟨gb218, 1, none⟩ = some (.int .i64 0) := (blk_cell BK218.out 1).trans rfl
          have hcz26_2 : wc.cell? ⟨gb218, 2, none⟩ = some (.bool false) := (blk_cell BK218.out 2).trans rfl
          have hfz26_0 := blk_frozen BK218.out 0
          have hfz26_1 := blk_frozen BK218.out 1
          have hfz26_2 := blk_frozen BK218.out 2
          go_wp2
          refine bodyPost_ret (results_cell_row rfl _ _ gb218 60 #[.string (Hc_text t221), .int .i64 t220, .bool true] (0, 0) _ rfl (by (with_reducible repeat (first | refine blk_drewN ?_ _ | refine blk_drew ?_ | refine blk_alloc ?_ _)); refine blk_put (cs := #[.string (Hc_text t221), .int .i64 t220, .bool false]) ?_ 2 _ rfl; (with_reducible repeat (first | refine blk_drewN ?_ _ | refine blk_drew ?_ | refine blk_alloc ?_ _)); refine blk_put (cs := #[.string (Hc_text t221), .int .i64 0, .bool false]) ?_ 1 _ rfl; (with_reducible repeat (first | refine blk_drewN ?_ _ | refine blk_drew ?_ | refine blk_alloc ?_ _)); refine blk_put (cs := #[.string (⟨#[]⟩ : ByteArray), .int .i64 0, .bool false]) ?_ 0 _ rfl; (with_reducible repeat (first | refine blk_drewN ?_ _ | refine blk_drew ?_ | refine blk_alloc ?_ _)); exact BK218.out) Try.underlying60 rfl (by kernel_rfl)) rfl ?_
          exact ⟨by first | rfl | (simp [errW_none, errW_some] <;> rfl) | (simp [*, errW_none, errW_some] <;> rfl), by repeat (first | (with_reducible first | exact HB.out | apply below_alloc | apply pw_below_drewN | apply below_drew1 | refine below_set ?_ GE218.out) | exact HB.out)⟩
         ·replace c24 := Bool.eq_false_iff.mpr c24
          subst c24
          have H1 : (some ((⟨#[]⟩ : ByteArray), 0, false)) = some (r1, r2, r3) := by rw [if_neg (show ¬ (false = true) by decide)] at H; exact H
          clear H
          have H := H1
          clear H1
          simp only [Option.some.injEq, Prod.mk.injEq] at H
          obtain ⟨rfl, rfl, rfl⟩ := H
          have hcz27_0 : wc.cell? ⟨gb218, 0, none⟩ = some (.string (⟨#[]⟩ : ByteArray)) := (blk_cell BK218.out 0).trans rfl
          have hcz27_1 : wc.cell? ⟨gb218, 1, none⟩ = some (.int .i64 0) := (blk_cell BK218.out 1).trans rfl
          have hcz27_2 : wc.cell? ⟨gb218, 2, none⟩ = some (.bool false) := (blk_cell BK218.out 2).trans rfl
          have hfz27_0 := blk_frozen BK218.out 0
          have hfz27_1 := blk_frozen BK218.out 1
          have hfz27_2 := blk_frozen BK218.out 2
          go_wp2
          refine bodyPost_ret (results_cell_row rfl _ _ gb218 60 #[.string (⟨#[]⟩ : ByteArray), .int .i64 0, .bool false] (0, 0) _ rfl (by (with_reducible repeat (first | refine blk_drewN ?_ _ | refine blk_drew ?_ | refine blk_alloc ?_ _)); refine blk_put (cs := #[.string (⟨#[]⟩ : ByteArray), .int .i64 0, .bool false]) ?_ 2 _ rfl; (with_reducible repeat (first | refine blk_drewN ?_ _ | refine blk_drew ?_ | refine blk_alloc ?_ _)); refine blk_put (cs := #[.string (⟨#[]⟩ : ByteArray), .int .i64 0, .bool false]) ?_ 1 _ rfl; (with_reducible repeat (first | refine blk_drewN ?_ _ | refine blk_drew ?_ | refine blk_alloc ?_ _)); refine blk_put (cs := #[.string (⟨#[]⟩ : ByteArray), .int .i64 0, .bool false]) ?_ 0 _ rfl; (with_reducible repeat (first | refine blk_drewN ?_ _ | refine blk_drew ?_ | refine blk_alloc ?_ _)); exact BK218.out) Try.underlying60 rfl (by kernel_rfl)) rfl ?_
          exact ⟨by first | rfl | (simp [errW_none, errW_some] <;> rfl) | (simp [*, errW_none, errW_some] <;> rfl), by repeat (first | (with_reducible first | exact HB.out | apply below_alloc | apply pw_below_drewN | apply below_drew1 | refine below_set ?_ GE218.out) | exact HB.out)⟩
        ·rw [if_neg c23] at H
         have c23b0 : (t220 == (a0.size : Int)) = false := beq_eq_false_iff_ne.mpr c23
         have c23b1 : (t220 != (a0.size : Int)) = true := bne_iff_ne.mpr c23
         by_cases c28 : 0 ≤ t220
         ·rw [if_pos c28] at H
          have c28b0 : decide (0 ≤ t220) = true := decide_eq_true c28
          clear c28
          by_cases c29 : t220 < (a0.size : Int)
          ·rw [if_pos c29] at H
           have c29b0 : decide (t220 < (a0.size : Int)) = true := decide_eq_true c29
           clear c29
           replace H := Option.bind_eq_some_iff.mp H
           obtain ⟨t224, A310, H⟩ := H
           replace H : (if t224 = true then (some ((⟨#[]⟩ : ByteArray), 0, true)) else (if (bt a0 t220) = 61 then (some ((⟨#[]⟩ : ByteArray), 0, true)) else (some (Hc_text t221, t220, true)))) = some (r1, r2, r3) := H
           have A31 := Aside0.mk A310
           clear A310
           by_cases c32 : t224 = true
           ·subst c32
            have H1 : (some ((⟨#[]⟩ : ByteArray), 0, true)) = some (r1, r2, r3) := by rw [if_pos rfl] at H; exact H
            clear H
            have H := H1
            clear H1
            simp only [Option.some.injEq, Prod.mk.injEq] at H
            obtain ⟨rfl, rfl, rfl⟩ := H
            have p30 : 0 ≤ (t220 : Int) := of_decide_eq_true (by first | (with_reducible assumption) | assumption)
            have q30 : t220 < (a0.size : Int) := of_decide_eq_true (by first | (with_reducible assumption) | assumption)
            have hx30 := bt_at a0 t220
            replace p30 := eq_true p30
            replace q30 := eq_true q30
            go_wp2_with (first | ((with_reducible refine gate_callee (f := 64) rfl ?_); refine goesL_ (some 42) rfl rfl Try.func64 (by kernel_rfl) rfl #[.int .u8 (bt a0 t220)] rfl (by (try simp only [List.map_toArray, List.map_cons, List.map_nil]); first | done | rfl | (simp only [List.length_drop, List.length_take]; rfl) | (simp [*] <;> rfl)) ?_; (with_reducible refine (charref_word.calls (bt a0 t220) true _ A31.out).mono ?_); rintro e w' ⟨rfl, ⟨nd, rfl⟩⟩; refine ⟨_, rfl, ?_⟩; (try (rw [drewN_self wc]; generalize hq_ : World.drewN wc _ = wc; have n0_ : Aside0 (Kd.R (Kd.int .i32) 21 wc w.heap.size (fun _ => True) v222 t221) := ⟨by rw [← hq_]; exact (by (with_reducible repeat (first | apply Kd.R_alloc | apply Kd.R_drewN | apply Kd.R_drew)); exact HO_8.out)⟩; have n1_ : Aside0 (wc.heap[gb218]? = some (.cells #[.string (⟨#[]⟩ : ByteArray), .int .i64 0, .bool false] 60 (0, 0))) := ⟨by rw [← hq_]; exact (by (with_reducible repeat (first | refine blk_drewN ?_ _ | refine blk_drew ?_ | refine blk_alloc ?_ _)); exact BK218.out)⟩; have n2_ : Aside0 (Below w.heap.size w wc) := ⟨by rw [← hq_]; exact (by repeat (first | (with_reducible first | exact HB.out | apply below_alloc | apply pw_below_drewN | apply below_drew1 | refine below_set ?_ GE218.out) | exact HB.out))⟩; clear HO_8 BK218 HB hq_; have HO_8 := n0_; have BK218 := n1_; have HB := n2_; clear n0_ n1_ n2_)); have hcz33_0 : wc.cell? ⟨gb218, 0, none⟩ = some (.string (⟨#[]⟩ : ByteArray)) := (blk_cell BK218.out 0).trans rfl; have hcz33_1 : wc.cell? ⟨gb218, 1, none⟩ = some (.int .i64 0) := (blk_cell BK218.out 1).trans rfl; have hcz33_2 : wc.cell? ⟨gb218, 2, none⟩ = some (.bool false) := (blk_cell BK218.out 2).trans rfl; have hfz33_0 := blk_frozen BK218.out 0; have hfz33_1 := blk_frozen BK218.out 1; have hfz33_2 := blk_frozen BK218.out 2))
            refine bodyPost_ret (results_cell_row rfl _ _ gb218 60 #[.string (⟨#[]⟩ : ByteArray), .int .i64 0, .bool true] (0, 0) _ rfl (by (with_reducible repeat (first | refine blk_drewN ?_ _ | refine blk_drew ?_ | refine blk_alloc ?_ _)); refine blk_put (cs := #[.string (⟨#[]⟩ : ByteArray), .int .i64 0, .bool false]) ?_ 2 _ rfl; (with_reducible repeat (first | refine blk_drewN ?_ _ | refine blk_drew ?_ | refine blk_alloc ?_ _)); refine blk_put (cs := #[.string (⟨#[]⟩ : ByteArray), .int .i64 0, .bool false]) ?_ 1 _ rfl; (with_reducible repeat (first | refine blk_drewN ?_ _ | refine blk_drew ?_ | refine blk_alloc ?_ _)); refine blk_put (cs := #[.string (⟨#[]⟩ : ByteArray), .int .i64 0, .bool false]) ?_ 0 _ rfl; (with_reducible repeat (first | refine blk_drewN ?_ _ | refine blk_drew ?_ | refine blk_alloc ?_ _)); exact BK218.out) Try.underlying60 rfl (by kernel_rfl)) rfl ?_
            exact ⟨by first | rfl | (simp [errW_none, errW_some] <;> rfl) | (simp [*, errW_none, errW_some] <;> rfl), by repeat (first | (with_reducible first | exact HB.out | apply below_alloc | apply pw_below_drewN | apply below_drew1 | refine below_set ?_ GE218.out) | exact HB.out)⟩
           ·replace c32 := Bool.eq_false_iff.mpr c32
            subst c32
            have H1 : (if (bt a0 t220) = 61 then (some ((⟨#[]⟩ : ByteArray), 0, true)) else (some (Hc_text t221, t220, true))) = some (r1, r2, r3) := by rw [if_neg (show ¬ (false = true) by decide)] at H; exact H
            clear H
            have H := H1
            clear H1
            by_cases c35 : (bt a0 t220) = 61
            ·rw [if_pos c35] at H
             have c35b0 : ((bt a0 t220) == 61) = true := beq_iff_eq.mpr c35
             have c35b1 : ((bt a0 t220) != 61) = false := bne_eq_false_iff_eq.mpr c35
             clear c35
             simp only [Option.some.injEq, Prod.mk.injEq] at H
             obtain ⟨rfl, rfl, rfl⟩ := H
             have p30 : 0 ≤ (t220 : Int) := of_decide_eq_true (by first | (with_reducible assumption) | assumption)
             have q30 : t220 < (a0.size : Int) := of_decide_eq_true (by first | (with_reducible assumption) | assumption)
             have hx30 := bt_at a0 t220
             replace p30 := eq_true p30
             replace q30 := eq_true q30
             go_wp2_with (first | ((with_reducible refine gate_callee (f := 64) rfl ?_); refine goesL_ (some 42) rfl rfl Try.func64 (by kernel_rfl) rfl #[.int .u8 (bt a0 t220)] rfl (by (try simp only [List.map_toArray, List.map_cons, List.map_nil]); first | done | rfl | (simp only [List.length_drop, List.length_take]; rfl) | (simp [*] <;> rfl)) ?_; (with_reducible refine (charref_word.calls (bt a0 t220) false _ A31.out).mono ?_); rintro e w' ⟨rfl, ⟨nd, rfl⟩⟩; refine ⟨_, rfl, ?_⟩; (try (rw [drewN_self wc]; generalize hq_ : World.drewN wc _ = wc; have n0_ : Aside0 (Kd.R (Kd.int .i32) 21 wc w.heap.size (fun _ => True) v222 t221) := ⟨by rw [← hq_]; exact (by (with_reducible repeat (first | apply Kd.R_alloc | apply Kd.R_drewN | apply Kd.R_drew)); exact HO_8.out)⟩; have n1_ : Aside0 (wc.heap[gb218]? = some (.cells #[.string (⟨#[]⟩ : ByteArray), .int .i64 0, .bool false] 60 (0, 0))) := ⟨by rw [← hq_]; exact (by (with_reducible repeat (first | refine blk_drewN ?_ _ | refine blk_drew ?_ | refine blk_alloc ?_ _)); exact BK218.out)⟩; have n2_ : Aside0 (Below w.heap.size w wc) := ⟨by rw [← hq_]; exact (by repeat (first | (with_reducible first | exact HB.out | apply below_alloc | apply pw_below_drewN | apply below_drew1 | refine below_set ?_ GE218.out) | exact HB.out))⟩; clear HO_8 BK218 HB hq_; have HO_8 := n0_; have BK218 := n1_; have HB := n2_; clear n0_ n1_ n2_)); have p34 : 0 ≤ (t220 : Int) := of_decide_eq_true (by first | (with_reducible assumption) | assumption); have q34 : t220 < (a0.size : Int) := of_decide_eq_true (by first | (with_reducible assumption) | assumption); have hx34 := bt_at a0 t220; replace p34 := eq_true p34; replace q34 := eq_true q34; have hcz36_0 : wc.cell? ⟨gb218, 0, none⟩ = some (.string (⟨#[]⟩ : ByteArray)) := (blk_cell BK218.out 0).trans rfl; have hcz36_1 : wc.cell? ⟨gb218, 1, none⟩ = some (.int .i64 0) := (blk_cell BK218.out 1).trans rfl; have hcz36_2 : wc.cell? ⟨gb218, 2, none⟩ = some (.bool false) := (blk_cell BK218.out 2).trans rfl; have hfz36_0 := blk_frozen BK218.out 0; have hfz36_1 := blk_frozen BK218.out 1; have hfz36_2 := blk_frozen BK218.out 2))
             refine bodyPost_ret (results_cell_row rfl _ _ gb218 60 #[.string (⟨#[]⟩ : ByteArray), .int .i64 0, .bool true] (0, 0) _ rfl (by (with_reducible repeat (first | refine blk_drewN ?_ _ | refine blk_drew ?_ | refine blk_alloc ?_ _)); refine blk_put (cs := #[.string (⟨#[]⟩ : ByteArray), .int .i64 0, .bool false]) ?_ 2 _ rfl; (with_reducible repeat (first | refine blk_drewN ?_ _ | refine blk_drew ?_ | refine blk_alloc ?_ _)); refine blk_put (cs := #[.string (⟨#[]⟩ : ByteArray), .int .i64 0, .bool false]) ?_ 1 _ rfl; (with_reducible repeat (first | refine blk_drewN ?_ _ | refine blk_drew ?_ | refine blk_alloc ?_ _)); refine blk_put (cs := #[.string (⟨#[]⟩ : ByteArray), .int .i64 0, .bool false]) ?_ 0 _ rfl; (with_reducible repeat (first | refine blk_drewN ?_ _ | refine blk_drew ?_ | refine blk_alloc ?_ _)); exact BK218.out) Try.underlying60 rfl (by kernel_rfl)) rfl ?_
             exact ⟨by first | rfl | (simp [errW_none, errW_some] <;> rfl) | (simp [*, errW_none, errW_some] <;> rfl), by repeat (first | (with_reducible first | exact HB.out | apply below_alloc | apply pw_below_drewN | apply below_drew1 | refine below_set ?_ GE218.out) | exact HB.out)⟩
            ·rw [if_neg c35] at H
             have c35b0 : ((bt a0 t220) == 61) = false := beq_eq_false_iff_ne.mpr c35
             have c35b1 : ((bt a0 t220) != 61) = true := bne_iff_ne.mpr c35
             simp only [Option.some.injEq, Prod.mk.injEq] at H
             obtain ⟨rfl, rfl, rfl⟩ := H
             have p30 : 0 ≤ (t220 : Int) := of_decide_eq_true (by first | (with_reducible assumption) | assumption)
             have q30 : t220 < (a0.size : Int) := of_decide_eq_true (by first | (with_reducible assumption) | assumption)
             have hx30 := bt_at a0 t220
             replace p30 := eq_true p30
             replace q30 := eq_true q30
             go_wp2_with (first | ((with_reducible refine gate_callee (f := 64) rfl ?_); refine goesL_ (some 42) rfl rfl Try.func64 (by kernel_rfl) rfl #[.int .u8 (bt a0 t220)] rfl (by (try simp only [List.map_toArray, List.map_cons, List.map_nil]); first | done | rfl | (simp only [List.length_drop, List.length_take]; rfl) | (simp [*] <;> rfl)) ?_; (with_reducible refine (charref_word.calls (bt a0 t220) false _ A31.out).mono ?_); rintro e w' ⟨rfl, ⟨nd, rfl⟩⟩; refine ⟨_, rfl, ?_⟩; (try (rw [drewN_self wc]; generalize hq_ : World.drewN wc _ = wc; have n0_ : Aside0 (Kd.R (Kd.int .i32) 21 wc w.heap.size (fun _ => True) v222 t221) := ⟨by rw [← hq_]; exact (by (with_reducible repeat (first | apply Kd.R_alloc | apply Kd.R_drewN | apply Kd.R_drew)); exact HO_8.out)⟩; have n1_ : Aside0 (wc.heap[gb218]? = some (.cells #[.string (⟨#[]⟩ : ByteArray), .int .i64 0, .bool false] 60 (0, 0))) := ⟨by rw [← hq_]; exact (by (with_reducible repeat (first | refine blk_drewN ?_ _ | refine blk_drew ?_ | refine blk_alloc ?_ _)); exact BK218.out)⟩; have n2_ : Aside0 (Below w.heap.size w wc) := ⟨by rw [← hq_]; exact (by repeat (first | (with_reducible first | exact HB.out | apply below_alloc | apply pw_below_drewN | apply below_drew1 | refine below_set ?_ GE218.out) | exact HB.out))⟩; clear HO_8 BK218 HB hq_; have HO_8 := n0_; have BK218 := n1_; have HB := n2_; clear n0_ n1_ n2_)); have p34 : 0 ≤ (t220 : Int) := of_decide_eq_true (by first | (with_reducible assumption) | assumption); have q34 : t220 < (a0.size : Int) := of_decide_eq_true (by first | (with_reducible assumption) | assumption); have hx34 := bt_at a0 t220; replace p34 := eq_true p34; replace q34 := eq_true q34; have hcv37 := Hc_own_runes (P := Try.prog) Try.underlying29 Try.underlying21 Try.underlying9 (Kd.own_of_R HO_8.out); have hcz38_0 : wc.cell? ⟨gb218, 0, none⟩ = some (.string (⟨#[]⟩ : ByteArray)) := (blk_cell BK218.out 0).trans rfl; have hcz38_1 : wc.cell? ⟨gb218, 1, none⟩ = some (.int .i64 0) := (blk_cell BK218.out 1).trans rfl; have hcz38_2 : wc.cell? ⟨gb218, 2, none⟩ = some (.bool false) := (blk_cell BK218.out 2).trans rfl; have hfz38_0 := blk_frozen BK218.out 0; have hfz38_1 := blk_frozen BK218.out 1; have hfz38_2 := blk_frozen BK218.out 2))
             refine bodyPost_ret (results_cell_row rfl _ _ gb218 60 #[.string (Hc_text t221), .int .i64 t220, .bool true] (0, 0) _ rfl (by (with_reducible repeat (first | refine blk_drewN ?_ _ | refine blk_drew ?_ | refine blk_alloc ?_ _)); refine blk_put (cs := #[.string (Hc_text t221), .int .i64 t220, .bool false]) ?_ 2 _ rfl; (with_reducible repeat (first | refine blk_drewN ?_ _ | refine blk_drew ?_ | refine blk_alloc ?_ _)); refine blk_put (cs := #[.string (Hc_text t221), .int .i64 0, .bool false]) ?_ 1 _ rfl; (with_reducible repeat (first | refine blk_drewN ?_ _ | refine blk_drew ?_ | refine blk_alloc ?_ _)); refine blk_put (cs := #[.string (⟨#[]⟩ : ByteArray), .int .i64 0, .bool false]) ?_ 0 _ rfl; (with_reducible repeat (first | refine blk_drewN ?_ _ | refine blk_drew ?_ | refine blk_alloc ?_ _)); exact BK218.out) Try.underlying60 rfl (by kernel_rfl)) rfl ?_
             exact ⟨by first | rfl | (simp [errW_none, errW_some] <;> rfl) | (simp [*, errW_none, errW_some] <;> rfl), by repeat (first | (with_reducible first | exact HB.out | apply below_alloc | apply pw_below_drewN | apply below_drew1 | refine below_set ?_ GE218.out) | exact HB.out)⟩
          ·rw [if_neg c29] at H
           exact absurd H (by simp)
         ·rw [if_neg c28] at H
          exact absurd H (by simp)
       ·replace c22 := Bool.eq_false_iff.mpr c22
        subst c22
        have H1 : (some (Hc_text t221, t220, true)) = some (r1, r2, r3) := by rw [if_neg (show ¬ (false = true) by decide)] at H; exact H
        clear H
        have H := H1
        clear H1
        simp only [Option.some.injEq, Prod.mk.injEq] at H
        obtain ⟨rfl, rfl, rfl⟩ := H
        have hcv39 := Hc_own_runes (P := Try.prog) Try.underlying29 Try.underlying21 Try.underlying9 (Kd.own_of_R HO_8.out)
        have hcz40_0 : wc.cell? ⟨gb218, 0, none⟩ = some (.string (⟨#[]⟩ : ByteArray)) := (blk_cell BK218.out 0).trans rfl
        have hcz40_1 : wc.cell? ⟨gb218, 1, none⟩ = some (.int .i64 0) := (blk_cell BK218.out 1).trans rfl
        have hcz40_2 : wc.cell? ⟨gb218, 2, none⟩ = some (.bool false) := (blk_cell BK218.out 2).trans rfl
        have hfz40_0 := blk_frozen BK218.out 0
        have hfz40_1 := blk_frozen BK218.out 1
        have hfz40_2 := blk_frozen BK218.out 2
        go_wp2
        refine bodyPost_ret (results_cell_row rfl _ _ gb218 60 #[.string (Hc_text t221), .int .i64 t220, .bool true] (0, 0) _ rfl (by (with_reducible repeat (first | refine blk_drewN ?_ _ | refine blk_drew ?_ | refine blk_alloc ?_ _)); refine blk_put (cs := #[.string (Hc_text t221), .int .i64 t220, .bool false]) ?_ 2 _ rfl; (with_reducible repeat (first | refine blk_drewN ?_ _ | refine blk_drew ?_ | refine blk_alloc ?_ _)); refine blk_put (cs := #[.string (Hc_text t221), .int .i64 0, .bool false]) ?_ 1 _ rfl; (with_reducible repeat (first | refine blk_drewN ?_ _ | refine blk_drew ?_ | refine blk_alloc ?_ _)); refine blk_put (cs := #[.string (⟨#[]⟩ : ByteArray), .int .i64 0, .bool false]) ?_ 0 _ rfl; (with_reducible repeat (first | refine blk_drewN ?_ _ | refine blk_drew ?_ | refine blk_alloc ?_ _)); exact BK218.out) Try.underlying60 rfl (by kernel_rfl)) rfl ?_
        exact ⟨by first | rfl | (simp [errW_none, errW_some] <;> rfl) | (simp [*, errW_none, errW_some] <;> rfl), by repeat (first | (with_reducible first | exact HB.out | apply below_alloc | apply pw_below_drewN | apply below_drew1 | refine below_set ?_ GE218.out) | exact HB.out)⟩

end Go.Proofs.Ytilpbfbnnmclhaa.P
end
section
/-
  charref.numeric: what a numeric reference says: a label and a goto.
-/
namespace Go.Proofs.Ytilpbfbnnmclhaa.P
open Go.RowKit Go.Proofs.YtilpbfbnnmclhaaW.PrintWords Go.Proofs.YtilpbfbnnmclhaaW.PrintLast Go.Proofs.YtilpbfbnnmclhaaW.PrintMore
set_option linter.unusedVariables false
set_option linter.unusedSimpArgs false

/-! ### plain -/
def digV (b : Nat) : Int := if 48 ≤ b ∧ b ≤ 57 then (b : Int) - 48 else if 97 ≤ b ∧ b ≤ 102 then (b : Int) - 87 else if 65 ≤ b ∧ b ≤ 70 then (b : Int) - 55 else -1
theorem digV_all : ∀ b : Fin 256, names_Value.f 9 (wrap32 ((b.val : Nat) : Int)) = some (digV b.val) := by decide +kernel
/-- is a byte a digit of a number? -/
def isDig (hex : Bool) (b : UInt8) : Bool := decide (0 ≤ digV b.toNat) && (hex || decide (digV b.toNat < 10))
/-- how many digits stand at the head -/
def nDig (hex : Bool) : List UInt8 → Nat
  | [] => 0
  | b :: t => if isDig hex b = true then nDig hex t + 1 else 0
theorem nDig_le (hex : Bool) : ∀ l : List UInt8, nDig hex l ≤ l.length
  | [] => Nat.le_refl _
  | b :: t => by
    unfold nDig
    have := nDig_le hex t
    split <;> simp only [List.length_cons] <;> omega
def numHex (s : ByteArray) : Bool := (bt s 1 == 120) || (bt s 1 == 88)
def numFrom (s : ByteArray) : Nat := if numHex s = true then 2 else 1
def numAt (s : ByteArray) : Nat := numFrom s + nDig (numHex s) (s.data.toList.drop (numFrom s))

def charref_numeric.f (k : Nat) (s : ByteArray) (e : Bool) : Option (ByteArray × Int × Bool) :=
  if s.size ≤ 35184372088831 ∧ 1 ≤ s.size then
    (if s.size = 1 then some ((⟨#[]⟩ : ByteArray), 0, e)
     else if numAt s = s.size ∧ e = false then some ((⟨#[]⟩ : ByteArray), 0, false)
     else if numAt s = numFrom s then some ((⟨#[]⟩ : ByteArray), 0, true)
     else (charref_Number.f k (s.extract (numFrom s) (numAt s)) (numHex s)).bind fun n =>
       some (Utf8.encode n.1, ((if numAt s < s.size ∧ bt s (numAt s : Nat) = 59 then numAt s + 1 else numAt s : Nat) : Int), true))
  else none
theorem charref_numeric.mono : ∀ s e k, LeO (charref_numeric.f k s e) (charref_numeric.f (k + 1) s e) := by
  intro s e k
  unfold charref_numeric.f
  repeat' first
      | (with_reducible exact charref_Number.mono _ _ _)
      | (with_reducible exact LeO.refl _)
      | (with_reducible exact LeO.none _)
      | (with_reducible refine LeO.ite ?_ ?_)
      | (with_reducible refine LeO.bind ?_ (fun _ => ?_))

theorem nDig_at (s : ByteArray) (hex : Bool) (p : Nat) (h : p < s.size) :
    p + nDig hex (s.data.toList.drop p) = if isDig hex (s.data.toList.getD p 0) = true then (p + 1) + nDig hex (s.data.toList.drop (p + 1)) else p := by
  have hl : p < s.data.toList.length := by simpa using h
  rw [List.drop_eq_getElem_cons hl]
  have : s.data.toList.getD p 0 = s.data.toList[p] := by rw [List.getD_eq_getElem?_getD, List.getElem?_eq_getElem hl]; rfl
  rw [this]
  show p + (if isDig hex s.data.toList[p] = true then nDig hex (s.data.toList.drop (p + 1)) + 1 else 0) = _
  split <;> omega
theorem bt_list (s : ByteArray) (p : Nat) (h : p < s.size) : bt s (p : Int) = ((s.data.toList.getD p 0).toNat : Int) := by
  have hl : p < s.data.toList.length := by simpa using h
  have : s.data.toList.getD p 0 = s.data.toList[p] := by rw [List.getD_eq_getElem?_getD, List.getElem?_eq_getElem hl]; rfl
  rw [this]
  unfold bt
  simp only [Int.toNat_natCast]
  rw [dif_pos h]
  rfl

/-! ### the walk -/
theorem scope_pass {P : Program} {a : Act} {w : World} {Q : Exit → Act → World → Prop} {c rest : Code} (l : Nat) (J : Act → World → Prop) (μ : Act → World → Nat) (hf : findLabel c l = some (Code.skip.seq rest))
    (pass : ∀ a w, J a w → rest.wp P (Exit.jump l (fun a' w' => J a' w' ∧ μ a' w' < μ a w) Q) a w)
    (first : (∀ a w, J a w → rest.wp P (Exit.jump l J Q) a w) → c.wp P (Exit.jump l J Q) a w) : (Code.scope c).wp P Q a w := by
  refine wp_scope_jumps l J μ hf (first fun a w hJ => wp_mono (pass a w hJ) ?_) (fun a w hJ => wp_seq (wp_skip (pass a w hJ)))
  intro e a' w' h
  cases e <;> first | exact h | exact ⟨h.1, h.2.1⟩
def numF (s : ByteArray) (e : Bool) (gb : Nat) (hex : Bool) (q : Nat) (u : Nat → Value) (p : Nat) : Act := { tmps := List.toArray (.string s :: .bool e :: u 2 :: u 3 :: .pointer (some ⟨gb, 0, none⟩) :: .int .i64 (p : Nat) :: .bool hex :: .int .i64 (q : Nat) :: u 8 :: u 9 :: u 10 :: u 11 :: u 12 :: u 13 :: u 14 :: u 15 :: u 16 :: u 17 :: u 18 :: u 19 :: u 20 :: u 21 :: u 22 :: u 23 :: u 24 :: u 25 :: u 26 :: u 27 :: u 28 :: u 29 :: u 30 :: u 31 :: u 32 :: u 33 :: u 34 :: u 35 :: u 36 :: u 37 :: u 38 :: u 39 :: u 40 :: u 41 :: u 42 :: u 43 :: u 44 :: u 45 :: u 46 :: u 47 :: u 48 :: u 49 :: u 50 :: u 51 :: u 52 :: u 53 :: u 54 :: u 55 :: u 56 :: u 57 :: u 58 :: u 59 :: u 60 :: u 61 :: u 62 :: u 63 :: u 64 :: u 65 :: u 66 :: u 67 :: u 68 :: u 69 :: u 70 :: u 71 :: u 72 :: u 73 :: u 74 :: u 75 :: u 76 :: u 77 :: u 78 :: u 79 :: u 80 :: u 81 :: u 82 :: u 83 :: u 84 :: u 85 :: u 86 :: u 87 :: []), defers := [] }
def numJ (s : ByteArray) (e : Bool) (gb : Nat) (w : World) (a : Act) (W : World) : Prop :=
  ∃ (p : Nat) (u : Nat → Value), a = numF s e gb (numHex s) (numFrom s) u p ∧ Aside0 (p ≤ s.size ∧ s.size ≠ 1) ∧ Aside0 (p + nDig (numHex s) (s.data.toList.drop p) = numAt s) ∧
    Aside0 (W.heap[gb]? = some (.cells #[.string (⟨#[]⟩ : ByteArray), .int .i64 0, .bool false] 60 (0, 0))) ∧ Aside0 (Below w.heap.size w W)
theorem numJ_of {s : ByteArray} {e : Bool} {gb : Nat} {w : World} {a : Act} {W : World} (p : Nat) (h : a = numF s e gb (numHex s) (numFrom s) (fun i => a.tmps.getD i undef) p) (h1 : p ≤ s.size ∧ s.size ≠ 1) (h2 : p + nDig (numHex s) (s.data.toList.drop p) = numAt s)
    (h3 : W.heap[gb]? = some (.cells #[.string (⟨#[]⟩ : ByteArray), .int .i64 0, .bool false] 60 (0, 0))) (h4 : Below w.heap.size w W) : numJ s e gb w a W :=
  ⟨p, _, h, ⟨h1⟩, ⟨h2⟩, ⟨h3⟩, ⟨h4⟩⟩
set_option maxRecDepth 100000 in
set_option maxHeartbeats 8000000 in
theorem charref_numeric.calls (k : Nat) (s : ByteArray) (e : Bool) (r1 : ByteArray) (r2 : Int) (r3 : Bool) (w : World) (h : charref_numeric.f k s e = some (r1, r2, r3)) :
    Calls Try.prog 43 #[.string s, .bool e] w fun e w' => e = .returned (.agg #[.string r1, .int .i64 r2, .bool r3]) ∧ Below w.heap.size w w' := by
  unfold charref_numeric.f at h
  by_cases hsz : s.size ≤ 35184372088831 ∧ 1 ≤ s.size
  case neg => rw [if_neg hsz] at h; cases h
  rw [if_pos hsz] at h
  obtain ⟨hs1, hs2⟩ := hsz
  have HH := Aside0.mk h
  clear h
  have hu60 := Try.underlying60
  have HB := Aside0.mk (Below.refl w.heap.size w)
  go_enter Try.func43, Try.ntmps43
  go_wp2_with (first | ((with_reducible refine gate_dst (N := 4) rfl ?_); refine box_event ?hg (N := 4) ?hd (cs := #[.string (⟨#[]⟩ : ByteArray), .int .i64 0, .bool false]) (t := 60) ?hr ?_; (case hd => rfl); (case hg => rfl); (case hr => first | (go_simp; done) | (go_simp; rfl)); intro gb hg w5 hbox hb; have n0_ := Aside0.mk (below_step (by repeat (first | (with_reducible first | exact HB.out | apply below_alloc | apply pw_below_drewN | apply below_drew1) | exact HB.out)) hb); have n1_ := Aside0.mk (hbox); have n2_ := Aside0.mk ((by rw [hg]; exact (below_size (by repeat (first | (with_reducible first | exact HB.out | apply below_alloc | apply pw_below_drewN | apply below_drew1) | exact HB.out))) : w.heap.size ≤ gb)); clear HB; have HB := n0_; have BK := n1_; have GW := n2_; clear n0_ n1_ n2_; clear hb hbox hg))
  refine scope_pass 0 (numJ s e gb w) (fun a _ => s.size - (intOf (a.tmps.getD 5 undef)).toNat) rfl ?pass ?first
  case pass =>
    rintro a W ⟨p, u, rfl, hp, hnd, BK', HB'⟩
    unfold numF
    refine wp_seq_k ?_
    intro K hK
    cases hh : numHex s with
    | true =>
      have HX := Aside0.mk hh
      clear hh
      go_cut [5] (fun v5 wc => v5 = .int .i64 (p : Nat) ∧ Aside0 (p = numAt s) ∧ Aside0 (wc.heap[gb]? = some (.cells #[.string (⟨#[]⟩ : ByteArray), .int .i64 0, .bool false] 60 (0, 0))) ∧ Aside0 (Below w.heap.size w wc))
      case first =>
        by_cases hlt : p < s.size
        · have hx0 : ∀ h : p < s.size, ((s[p]'h).toNat : Int) = bt s (p : Int) := bt_at s (p : Int)
          have hl1 : ((p : Int) < (s.size : Int)) = True := eq_true (by omega)
          have hl2 : ((0 : Int) ≤ (p : Int)) = True := eq_true (by omega)
          have hb := bt_list s p hlt
          have hnd1 := nDig_at s (numHex s) p hlt
          have hw1 : IntKind.i64.wrap ((p : Int) + 1) = ((p + 1 : Nat) : Int) := by rw [IntWalk.i64_in _ (by omega)]; omega
          have hval : names_Value.f 9 (wrap32 (bt s (p : Int))) = some (digV (s.data.toList.getD p 0).toNat) := by rw [hb]; exact digV_all ⟨_, UInt8.toNat_lt _⟩
          have hdig : isDig (numHex s) (s.data.toList.getD p 0) = (decide (0 ≤ digV (s.data.toList.getD p 0).toNat) && (numHex s || decide (digV (s.data.toList.getD p 0).toNat < 10))) := rfl
          generalize digV (s.data.toList.getD p 0).toNat = v at hval hdig
          have HVAL := Aside0.mk hval
          have HND1 := Aside0.mk hnd1
          have HDIG := Aside0.mk hdig
          clear hval hnd1 hdig hb
          by_cases cv : 0 ≤ v
          · have cv1 : decide (v ≥ 0) = true := decide_eq_true cv
            have cv2 : decide (0 ≤ v) = true := decide_eq_true cv
            have hd : isDig (numHex s) (s.data.toList.getD p 0) = true := by rw [HDIG.out, cv2, HX.out]; rfl
            have hpp := HND1.out
            rw [if_pos hd] at hpp
            have HPP := Aside0.mk hpp
            clear hpp hd
            go_wp2_with (go_at_call 60; refine (names_Value.calls 9 (wrap32 (bt s (p : Int))) v _ HVAL.out).mono ?_; rintro e1 w' ⟨rfl, ⟨nd, rfl⟩⟩)
            go_step3
            refine ⟨rfl, ?_, ?_⟩
            · refine numJ_of (p + 1) ?_ ⟨by omega, hp.out.2⟩ ?_ BK'.out (pw_below_drewN HB'.out nd)
              · rw [HX.out]
                rfl
              · rw [← hnd.out, HPP.out]
            · simp [intOf]
              omega
          · have cv1 : decide (v ≥ 0) = false := decide_eq_false cv
            have cv2 : decide (0 ≤ v) = false := decide_eq_false cv
            have hd : isDig (numHex s) (s.data.toList.getD p 0) = false := by rw [HDIG.out, cv2, Bool.false_and]
            have hpp := HND1.out
            rw [hd, if_neg (by decide), hnd.out] at hpp
            have HPE := Aside0.mk hpp.symm
            clear hpp hd
            go_wp2_with (go_at_call 60; refine (names_Value.calls 9 (wrap32 (bt s (p : Int))) v _ HVAL.out).mono ?_; rintro e1 w' ⟨rfl, ⟨nd, rfl⟩⟩)
            go_meet
            case rel => exact ⟨rfl, ⟨HPE.out⟩, ⟨BK'.out⟩, ⟨pw_below_drewN HB'.out nd⟩⟩
        · have hpe : p = s.size := by have := hp.out.1; omega
          have hpp := hnd.out
          rw [hpe, List.drop_eq_nil_of_le (by simp), nDig] at hpp
          have HPE := Aside0.mk ((hpe.trans hpp : p = numAt s))
          clear hpp hpe
          have hl1 : ((p : Int) < (s.size : Int)) = False := eq_false (by omega)
          go_wp2
          go_meet
          case rel => exact ⟨rfl, ⟨HPE.out⟩, BK', HB'⟩
      case rest =>
        obtain ⟨rfl, hpe, BK2, HB2⟩ := hcut
        have hpe := hpe.out
        have hp := hp.out
        subst hpe
        have HH' := HH.out
        rw [if_neg hp.2] at HH'
        clear HH
        refine hK _ _ ?_
        by_cases c1 : numAt s = s.size
        · have k1 : ((numAt s : Int) == (s.size : Int)) = true := beq_iff_eq.2 (by omega)
          have k3 : ((numAt s : Int) < (s.size : Int)) = False := eq_false (by omega)
          cases e with
          | false =>
            rw [if_pos ⟨c1, rfl⟩] at HH'
            simp only [Option.some.injEq, Prod.mk.injEq] at HH'
            obtain ⟨rfl, rfl, rfl⟩ := HH'
            clear c1
            have hcz0 : wc.cell? ⟨gb, 0, none⟩ = some (.string (⟨#[]⟩ : ByteArray)) := (blk_cell BK2.out 0).trans rfl
            have hcz1 : wc.cell? ⟨gb, 1, none⟩ = some (.int .i64 0) := (blk_cell BK2.out 1).trans rfl
            have hcz2 : wc.cell? ⟨gb, 2, none⟩ = some (.bool false) := (blk_cell BK2.out 2).trans rfl
            have hfz0 := blk_frozen BK2.out 0
            have hfz1 := blk_frozen BK2.out 1
            have hfz2 := blk_frozen BK2.out 2
            go_wp2
            (try simp only [Exit.jump])
            refine bodyPost_ret (results_cell_row rfl _ _ gb 60 #[.string (⟨#[]⟩ : ByteArray), .int .i64 0, .bool false] (0, 0) _ rfl (by (with_reducible repeat (first | refine blk_drewN ?_ _ | refine blk_drew ?_ | refine blk_alloc ?_ _)); refine blk_put (cs := #[.string (⟨#[]⟩ : ByteArray), .int .i64 0, .bool false]) ?_ 2 _ rfl; (with_reducible repeat (first | refine blk_drewN ?_ _ | refine blk_drew ?_ | refine blk_alloc ?_ _)); refine blk_put (cs := #[.string (⟨#[]⟩ : ByteArray), .int .i64 0, .bool false]) ?_ 1 _ rfl; (with_reducible repeat (first | refine blk_drewN ?_ _ | refine blk_drew ?_ | refine blk_alloc ?_ _)); refine blk_put (cs := #[.string (⟨#[]⟩ : ByteArray), .int .i64 0, .bool false]) ?_ 0 _ rfl; (with_reducible repeat (first | refine blk_drewN ?_ _ | refine blk_drew ?_ | refine blk_alloc ?_ _)); exact BK2.out) Try.underlying60 rfl (by kernel_rfl)) rfl ?_
            exact ⟨rfl, by repeat (first | (with_reducible first | exact HB2.out | apply below_alloc | apply pw_below_drewN | apply below_drew1 | refine below_set ?_ GW.out) | exact HB2.out)⟩
          | true =>
            rw [if_neg (by rintro ⟨_, h⟩; cases h)] at HH'
            by_cases c2 : numAt s = numFrom s
            · have k4 : ((numAt s : Int) == (numFrom s : Int)) = true := beq_iff_eq.2 (by omega)
              rw [if_pos c2] at HH'
              simp only [Option.some.injEq, Prod.mk.injEq] at HH'
              obtain ⟨rfl, rfl, rfl⟩ := HH'
              clear c2
              have hcz0 : wc.cell? ⟨gb, 0, none⟩ = some (.string (⟨#[]⟩ : ByteArray)) := (blk_cell BK2.out 0).trans rfl
              have hcz1 : wc.cell? ⟨gb, 1, none⟩ = some (.int .i64 0) := (blk_cell BK2.out 1).trans rfl
              have hcz2 : wc.cell? ⟨gb, 2, none⟩ = some (.bool false) := (blk_cell BK2.out 2).trans rfl
              have hfz0 := blk_frozen BK2.out 0
              have hfz1 := blk_frozen BK2.out 1
              have hfz2 := blk_frozen BK2.out 2
              go_wp2
              (try simp only [Exit.jump])
              refine bodyPost_ret (results_cell_row rfl _ _ gb 60 #[.string (⟨#[]⟩ : ByteArray), .int .i64 0, .bool true] (0, 0) _ rfl (by (with_reducible repeat (first | refine blk_drewN ?_ _ | refine blk_drew ?_ | refine blk_alloc ?_ _)); refine blk_put (cs := #[.string (⟨#[]⟩ : ByteArray), .int .i64 0, .bool false]) ?_ 2 _ rfl; (with_reducible repeat (first | refine blk_drewN ?_ _ | refine blk_drew ?_ | refine blk_alloc ?_ _)); refine blk_put (cs := #[.string (⟨#[]⟩ : ByteArray), .int .i64 0, .bool false]) ?_ 1 _ rfl; (with_reducible repeat (first | refine blk_drewN ?_ _ | refine blk_drew ?_ | refine blk_alloc ?_ _)); refine blk_put (cs := #[.string (⟨#[]⟩ : ByteArray), .int .i64 0, .bool false]) ?_ 0 _ rfl; (with_reducible repeat (first | refine blk_drewN ?_ _ | refine blk_drew ?_ | refine blk_alloc ?_ _)); exact BK2.out) Try.underlying60 rfl (by kernel_rfl)) rfl ?_
              exact ⟨rfl, by repeat (first | (with_reducible first | exact HB2.out | apply below_alloc | apply pw_below_drewN | apply below_drew1 | refine below_set ?_ GW.out) | exact HB2.out)⟩
            · have k4 : ((numAt s : Int) == (numFrom s : Int)) = false := beq_eq_false_iff_ne.2 (by omega)
              rw [if_neg c2, HX.out] at HH'
              obtain ⟨⟨n1, n2⟩, hN, heq⟩ := Option.bind_eq_some_iff.1 HH'
              clear HH' c2
              have HN := Aside0.mk hN
              clear hN
              simp only [Option.some.injEq, Prod.mk.injEq] at heq
              obtain ⟨rfl, he2, rfl⟩ := heq
              have hfa : numFrom s ≤ numAt s := by unfold numAt; omega
              have j1 : ((0 : Int) ≤ (numFrom s : Int)) = True := eq_true (by omega)
              have j2 : ((numFrom s : Int) ≤ (numAt s : Int)) = True := eq_true (by omega)
              have j3 : ((numAt s : Int) ≤ (s.size : Int)) = True := eq_true (by omega)
              have hat : ((if numAt s < s.size ∧ bt s (numAt s : Nat) = 59 then numAt s + 1 else numAt s : Nat) : Int) = (numAt s : Int) := by rw [if_neg (fun h => absurd h.1 (by omega))]
              rw [hat] at he2
              subst he2
              clear hat c1
              go_wp2_with (go_at_call 61; refine (charref_Number.calls k (s.extract (numFrom s) (numAt s)) true n1 n2 _ HN.out).mono ?_; rintro e1 w7 ⟨rfl, hb⟩; have BK3 := Aside0.mk (blk_below (g := gb) (o := .cells #[.string (⟨#[]⟩ : ByteArray), .int .i64 0, .bool false] 60 (0, 0)) BK2.out hb); have HB3 := Aside0.mk (below_step HB2.out hb); clear hb; have hcz0 : w7.cell? ⟨gb, 0, none⟩ = some (.string (⟨#[]⟩ : ByteArray)) := (blk_cell BK3.out 0).trans rfl; have hcz1 : w7.cell? ⟨gb, 1, none⟩ = some (.int .i64 0) := (blk_cell BK3.out 1).trans rfl; have hcz2 : w7.cell? ⟨gb, 2, none⟩ = some (.bool false) := (blk_cell BK3.out 2).trans rfl; have hfz0 := blk_frozen BK3.out 0; have hfz1 := blk_frozen BK3.out 1; have hfz2 := blk_frozen BK3.out 2)
              (try simp only [Exit.jump])
              refine bodyPost_ret (results_cell_row rfl _ _ gb 60 #[.string (Utf8.encode n1), .int .i64 ((numAt s : Nat) : Int), .bool true] (0, 0) _ rfl (by (with_reducible repeat (first | refine blk_drewN ?_ _ | refine blk_drew ?_ | refine blk_alloc ?_ _)); refine blk_put (cs := #[.string (Utf8.encode n1), .int .i64 ((numAt s : Nat) : Int), .bool false]) ?_ 2 _ rfl; (with_reducible repeat (first | refine blk_drewN ?_ _ | refine blk_drew ?_ | refine blk_alloc ?_ _)); refine blk_put (cs := #[.string (Utf8.encode n1), .int .i64 0, .bool false]) ?_ 1 _ rfl; (with_reducible repeat (first | refine blk_drewN ?_ _ | refine blk_drew ?_ | refine blk_alloc ?_ _)); refine blk_put (cs := #[.string (⟨#[]⟩ : ByteArray), .int .i64 0, .bool false]) ?_ 0 _ rfl; (with_reducible repeat (first | refine blk_drewN ?_ _ | refine blk_drew ?_ | refine blk_alloc ?_ _)); exact BK3.out) Try.underlying60 rfl (by kernel_rfl)) rfl ?_
              exact ⟨rfl, by repeat (first | (with_reducible first | exact HB3.out | apply below_alloc | apply pw_below_drewN | apply below_drew1 | refine below_set ?_ GW.out) | exact HB3.out)⟩
        · have k1 : ((numAt s : Int) == (s.size : Int)) = false := beq_eq_false_iff_ne.2 (by omega)
          have k3 : ((numAt s : Int) < (s.size : Int)) = True := eq_true (by omega)
          have k3' : (numAt s < s.size) = True := eq_true (by omega)
          rw [if_neg (fun h => c1 h.1)] at HH'
          by_cases c2 : numAt s = numFrom s
          · have k4 : ((numAt s : Int) == (numFrom s : Int)) = true := beq_iff_eq.2 (by omega)
            rw [if_pos c2] at HH'
            simp only [Option.some.injEq, Prod.mk.injEq] at HH'
            obtain ⟨rfl, rfl, rfl⟩ := HH'
            clear c2
            have hcz0 : wc.cell? ⟨gb, 0, none⟩ = some (.string (⟨#[]⟩ : ByteArray)) := (blk_cell BK2.out 0).trans rfl
            have hcz1 : wc.cell? ⟨gb, 1, none⟩ = some (.int .i64 0) := (blk_cell BK2.out 1).trans rfl
            have hcz2 : wc.cell? ⟨gb, 2, none⟩ = some (.bool false) := (blk_cell BK2.out 2).trans rfl
            have hfz0 := blk_frozen BK2.out 0
            have hfz1 := blk_frozen BK2.out 1
            have hfz2 := blk_frozen BK2.out 2
            go_wp2
            (try simp only [Exit.jump])
            refine bodyPost_ret (results_cell_row rfl _ _ gb 60 #[.string (⟨#[]⟩ : ByteArray), .int .i64 0, .bool true] (0, 0) _ rfl (by (with_reducible repeat (first | refine blk_drewN ?_ _ | refine blk_drew ?_ | refine blk_alloc ?_ _)); refine blk_put (cs := #[.string (⟨#[]⟩ : ByteArray), .int .i64 0, .bool false]) ?_ 2 _ rfl; (with_reducible repeat (first | refine blk_drewN ?_ _ | refine blk_drew ?_ | refine blk_alloc ?_ _)); refine blk_put (cs := #[.string (⟨#[]⟩ : ByteArray), .int .i64 0, .bool false]) ?_ 1 _ rfl; (with_reducible repeat (first | refine blk_drewN ?_ _ | refine blk_drew ?_ | refine blk_alloc ?_ _)); refine blk_put (cs := #[.string (⟨#[]⟩ : ByteArray), .int .i64 0, .bool false]) ?_ 0 _ rfl; (with_reducible repeat (first | refine blk_drewN ?_ _ | refine blk_drew ?_ | refine blk_alloc ?_ _)); exact BK2.out) Try.underlying60 rfl (by kernel_rfl)) rfl ?_
            exact ⟨rfl, by repeat (first | (with_reducible first | exact HB2.out | apply below_alloc | apply pw_below_drewN | apply below_drew1 | refine below_set ?_ GW.out) | exact HB2.out)⟩
          · have k4 : ((numAt s : Int) == (numFrom s : Int)) = false := beq_eq_false_iff_ne.2 (by omega)
            rw [if_neg c2, HX.out] at HH'
            obtain ⟨⟨n1, n2⟩, hN, heq⟩ := Option.bind_eq_some_iff.1 HH'
            clear HH' c2
            have HN := Aside0.mk hN
            clear hN
            simp only [Option.some.injEq, Prod.mk.injEq] at heq
            obtain ⟨rfl, he2, rfl⟩ := heq
            have hfa : numFrom s ≤ numAt s := by unfold numAt; omega
            have j1 : ((0 : Int) ≤ (numFrom s : Int)) = True := eq_true (by omega)
            have j2 : ((numFrom s : Int) ≤ (numAt s : Int)) = True := eq_true (by omega)
            have j3 : ((numAt s : Int) ≤ (s.size : Int)) = True := eq_true (by omega)
            have hx0 : ∀ h : numAt s < s.size, ((s[numAt s]'h).toNat : Int) = bt s (numAt s : Int) := bt_at s (numAt s : Int)
            have j4 : ((0 : Int) ≤ (numAt s : Int)) = True := eq_true (by omega)
            have hw2 : IntKind.i64.wrap ((numAt s : Int) + 1) = (numAt s : Int) + 1 := IntWalk.i64_in _ (by omega)
            by_cases c4 : bt s (numAt s : Int) = 59
            · have k5 : (bt s (numAt s : Int) == 59) = true := beq_iff_eq.2 c4
              have hat : ((if numAt s < s.size ∧ bt s (numAt s : Nat) = 59 then numAt s + 1 else numAt s : Nat) : Int) = (numAt s : Int) + 1 := by rw [if_pos ⟨by omega, c4⟩]; omega
              rw [hat] at he2
              subst he2
              clear hat
              go_wp2_with (go_at_call 61; refine (charref_Number.calls k (s.extract (numFrom s) (numAt s)) true n1 n2 _ HN.out).mono ?_; rintro e1 w7 ⟨rfl, hb⟩; have BK3 := Aside0.mk (blk_below (g := gb) (o := .cells #[.string (⟨#[]⟩ : ByteArray), .int .i64 0, .bool false] 60 (0, 0)) BK2.out hb); have HB3 := Aside0.mk (below_step HB2.out hb); clear hb; have hcz0 : w7.cell? ⟨gb, 0, none⟩ = some (.string (⟨#[]⟩ : ByteArray)) := (blk_cell BK3.out 0).trans rfl; have hcz1 : w7.cell? ⟨gb, 1, none⟩ = some (.int .i64 0) := (blk_cell BK3.out 1).trans rfl; have hcz2 : w7.cell? ⟨gb, 2, none⟩ = some (.bool false) := (blk_cell BK3.out 2).trans rfl; have hfz0 := blk_frozen BK3.out 0; have hfz1 := blk_frozen BK3.out 1; have hfz2 := blk_frozen BK3.out 2)
              (try simp only [Exit.jump])
              refine bodyPost_ret (results_cell_row rfl _ _ gb 60 #[.string (Utf8.encode n1), .int .i64 ((numAt s : Int) + 1), .bool true] (0, 0) _ rfl (by (with_reducible repeat (first | refine blk_drewN ?_ _ | refine blk_drew ?_ | refine blk_alloc ?_ _)); refine blk_put (cs := #[.string (Utf8.encode n1), .int .i64 ((numAt s : Int) + 1), .bool false]) ?_ 2 _ rfl; (with_reducible repeat (first | refine blk_drewN ?_ _ | refine blk_drew ?_ | refine blk_alloc ?_ _)); refine blk_put (cs := #[.string (Utf8.encode n1), .int .i64 0, .bool false]) ?_ 1 _ rfl; (with_reducible repeat (first | refine blk_drewN ?_ _ | refine blk_drew ?_ | refine blk_alloc ?_ _)); refine blk_put (cs := #[.string (⟨#[]⟩ : ByteArray), .int .i64 0, .bool false]) ?_ 0 _ rfl; (with_reducible repeat (first | refine blk_drewN ?_ _ | refine blk_drew ?_ | refine blk_alloc ?_ _)); exact BK3.out) Try.underlying60 rfl (by kernel_rfl)) rfl ?_
              exact ⟨rfl, by repeat (first | (with_reducible first | exact HB3.out | apply below_alloc | apply pw_below_drewN | apply below_drew1 | refine below_set ?_ GW.out) | exact HB3.out)⟩
            · have k5 : (bt s (numAt s : Int) == 59) = false := beq_eq_false_iff_ne.2 c4
              have hat : ((if numAt s < s.size ∧ bt s (numAt s : Nat) = 59 then numAt s + 1 else numAt s : Nat) : Int) = (numAt s : Int) := by rw [if_neg (fun h => c4 h.2)]
              rw [hat] at he2
              subst he2
              clear hat
              go_wp2_with (go_at_call 61; refine (charref_Number.calls k (s.extract (numFrom s) (numAt s)) true n1 n2 _ HN.out).mono ?_; rintro e1 w7 ⟨rfl, hb⟩; have BK3 := Aside0.mk (blk_below (g := gb) (o := .cells #[.string (⟨#[]⟩ : ByteArray), .int .i64 0, .bool false] 60 (0, 0)) BK2.out hb); have HB3 := Aside0.mk (below_step HB2.out hb); clear hb; have hcz0 : w7.cell? ⟨gb, 0, none⟩ = some (.string (⟨#[]⟩ : ByteArray)) := (blk_cell BK3.out 0).trans rfl; have hcz1 : w7.cell? ⟨gb, 1, none⟩ = some (.int .i64 0) := (blk_cell BK3.out 1).trans rfl; have hcz2 : w7.cell? ⟨gb, 2, none⟩ = some (.bool false) := (blk_cell BK3.out 2).trans rfl; have hfz0 := blk_frozen BK3.out 0; have hfz1 := blk_frozen BK3.out 1; have hfz2 := blk_frozen BK3.out 2)
              (try simp only [Exit.jump])
              refine bodyPost_ret (results_cell_row rfl _ _ gb 60 #[.string (Utf8.encode n1), .int .i64 ((numAt s : Nat) : Int), .bool true] (0, 0) _ rfl (by (with_reducible repeat (first | refine blk_drewN ?_ _ | refine blk_drew ?_ | refine blk_alloc ?_ _)); refine blk_put (cs := #[.string (Utf8.encode n1), .int .i64 ((numAt s : Nat) : Int), .bool false]) ?_ 2 _ rfl; (with_reducible repeat (first | refine blk_drewN ?_ _ | refine blk_drew ?_ | refine blk_alloc ?_ _)); refine blk_put (cs := #[.string (Utf8.encode n1), .int .i64 0, .bool false]) ?_ 1 _ rfl; (with_reducible repeat (first | refine blk_drewN ?_ _ | refine blk_drew ?_ | refine blk_alloc ?_ _)); refine blk_put (cs := #[.string (⟨#[]⟩ : ByteArray), .int .i64 0, .bool false]) ?_ 0 _ rfl; (with_reducible repeat (first | refine blk_drewN ?_ _ | refine blk_drew ?_ | refine blk_alloc ?_ _)); exact BK3.out) Try.underlying60 rfl (by kernel_rfl)) rfl ?_
              exact ⟨rfl, by repeat (first | (with_reducible first | exact HB3.out | apply below_alloc | apply pw_below_drewN | apply below_drew1 | refine below_set ?_ GW.out) | exact HB3.out)⟩
    | false =>
      have HX := Aside0.mk hh
      clear hh
      go_cut [5] (fun v5 wc => v5 = .int .i64 (p : Nat) ∧ Aside0 (p = numAt s) ∧ Aside0 (wc.heap[gb]? = some (.cells #[.string (⟨#[]⟩ : ByteArray), .int .i64 0, .bool false] 60 (0, 0))) ∧ Aside0 (Below w.heap.size w wc))
      case first =>
        by_cases hlt : p < s.size
        · have hx0 : ∀ h : p < s.size, ((s[p]'h).toNat : Int) = bt s (p : Int) := bt_at s (p : Int)
          have hl1 : ((p : Int) < (s.size : Int)) = True := eq_true (by omega)
          have hl2 : ((0 : Int) ≤ (p : Int)) = True := eq_true (by omega)
          have hb := bt_list s p hlt
          have hnd1 := nDig_at s (numHex s) p hlt
          have hw1 : IntKind.i64.wrap ((p : Int) + 1) = ((p + 1 : Nat) : Int) := by rw [IntWalk.i64_in _ (by omega)]; omega
          have hval : names_Value.f 9 (wrap32 (bt s (p : Int))) = some (digV (s.data.toList.getD p 0).toNat) := by rw [hb]; exact digV_all ⟨_, UInt8.toNat_lt _⟩
          have hdig : isDig (numHex s) (s.data.toList.getD p 0) = (decide (0 ≤ digV (s.data.toList.getD p 0).toNat) && (numHex s || decide (digV (s.data.toList.getD p 0).toNat < 10))) := rfl
          generalize digV (s.data.toList.getD p 0).toNat = v at hval hdig
          have HVAL := Aside0.mk hval
          have HND1 := Aside0.mk hnd1
          have HDIG := Aside0.mk hdig
          clear hval hnd1 hdig hb
          by_cases cv : 0 ≤ v
          · have cv1 : decide (v ≥ 0) = true := decide_eq_true cv
            have cv2 : decide (0 ≤ v) = true := decide_eq_true cv
            by_cases cx : v < 10
            · have cx1 : decide (v < 10) = true := decide_eq_true cx
              have hd : isDig (numHex s) (s.data.toList.getD p 0) = true := by rw [HDIG.out, cv2, HX.out, cx1]; rfl
              have hpp := HND1.out
              rw [if_pos hd] at hpp
              have HPP := Aside0.mk hpp
              clear hpp hd
              go_wp2_with (go_at_call 60; refine (names_Value.calls 9 (wrap32 (bt s (p : Int))) v _ HVAL.out).mono ?_; rintro e1 w' ⟨rfl, ⟨nd, rfl⟩⟩)
              go_step3
              refine ⟨rfl, ?_, ?_⟩
              · refine numJ_of (p + 1) ?_ ⟨by omega, hp.out.2⟩ ?_ BK'.out (pw_below_drewN HB'.out nd)
                · rw [HX.out]
                  rfl
                · rw [← hnd.out, HPP.out]
              · simp [intOf]
                omega
            · have cx1 : decide (v < 10) = false := decide_eq_false cx
              have hd : isDig (numHex s) (s.data.toList.getD p 0) = false := by rw [HDIG.out, cv2, HX.out, cx1]; rfl
              have hpp := HND1.out
              rw [hd, if_neg (by decide), hnd.out] at hpp
              have HPE := Aside0.mk hpp.symm
              clear hpp hd
              go_wp2_with (go_at_call 60; refine (names_Value.calls 9 (wrap32 (bt s (p : Int))) v _ HVAL.out).mono ?_; rintro e1 w' ⟨rfl, ⟨nd, rfl⟩⟩)
              go_meet
              case rel => exact ⟨rfl, ⟨HPE.out⟩, ⟨BK'.out⟩, ⟨pw_below_drewN HB'.out nd⟩⟩
          · have cv1 : decide (v ≥ 0) = false := decide_eq_false cv
            have cv2 : decide (0 ≤ v) = false := decide_eq_false cv
            have hd : isDig (numHex s) (s.data.toList.getD p 0) = false := by rw [HDIG.out, cv2, Bool.false_and]
            have hpp := HND1.out
            rw [hd, if_neg (by decide), hnd.out] at hpp
            have HPE := Aside0.mk hpp.symm
            clear hpp hd
            go_wp2_with (go_at_call 60; refine (names_Value.calls 9 (wrap32 (bt s (p : Int))) v _ HVAL.out).mono ?_; rintro e1 w' ⟨rfl, ⟨nd, rfl⟩⟩)
            go_meet
            case rel => exact ⟨rfl, ⟨HPE.out⟩, ⟨BK'.out⟩, ⟨pw_below_drewN HB'.out nd⟩⟩
        · have hpe : p = s.size := by have := hp.out.1; omega
          have hpp := hnd.out
          rw [hpe, List.drop_eq_nil_of_le (by simp), nDig] at hpp
          have HPE := Aside0.mk ((hpe.trans hpp : p = numAt s))
          clear hpp hpe
          have hl1 : ((p : Int) < (s.size : Int)) = False := eq_false (by omega)
          go_wp2
          go_meet
          case rel => exact ⟨rfl, ⟨HPE.out⟩, BK', HB'⟩
      case rest =>
        obtain ⟨rfl, hpe, BK2, HB2⟩ := hcut
        have hpe := hpe.out
        have hp := hp.out
        subst hpe
        have HH' := HH.out
        rw [if_neg hp.2] at HH'
        clear HH
        refine hK _ _ ?_
        by_cases c1 : numAt s = s.size
        · have k1 : ((numAt s : Int) == (s.size : Int)) = true := beq_iff_eq.2 (by omega)
          have k3 : ((numAt s : Int) < (s.size : Int)) = False := eq_false (by omega)
          cases e with
          | false =>
            rw [if_pos ⟨c1, rfl⟩] at HH'
            simp only [Option.some.injEq, Prod.mk.injEq] at HH'
            obtain ⟨rfl, rfl, rfl⟩ := HH'
            clear c1
            have hcz0 : wc.cell? ⟨gb, 0, none⟩ = some (.string (⟨#[]⟩ : ByteArray)) := (blk_cell BK2.out 0).trans rfl
            have hcz1 : wc.cell? ⟨gb, 1, none⟩ = some (.int .i64 0) := (blk_cell BK2.out 1).trans rfl
            have hcz2 : wc.cell? ⟨gb, 2, none⟩ = some (.bool false) := (blk_cell BK2.out 2).trans rfl
            have hfz0 := blk_frozen BK2.out 0
            have hfz1 := blk_frozen BK2.out 1
            have hfz2 := blk_frozen BK2.out 2
            go_wp2
            (try simp only [Exit.jump])
            refine bodyPost_ret (results_cell_row rfl _ _ gb 60 #[.string (⟨#[]⟩ : ByteArray), .int .i64 0, .bool false] (0, 0) _ rfl (by (with_reducible repeat (first | refine blk_drewN ?_ _ | refine blk_drew ?_ | refine blk_alloc ?_ _)); refine blk_put (cs := #[.string (⟨#[]⟩ : ByteArray), .int .i64 0, .bool false]) ?_ 2 _ rfl; (with_reducible repeat (first | refine blk_drewN ?_ _ | refine blk_drew ?_ | refine blk_alloc ?_ _)); refine blk_put (cs := #[.string (⟨#[]⟩ : ByteArray), .int .i64 0, .bool false]) ?_ 1 _ rfl; (with_reducible repeat (first | refine blk_drewN ?_ _ | refine blk_drew ?_ | refine blk_alloc ?_ _)); refine blk_put (cs := #[.string (⟨#[]⟩ : ByteArray), .int .i64 0, .bool false]) ?_ 0 _ rfl; (with_reducible repeat (first | refine blk_drewN ?_ _ | refine blk_drew ?_ | refine blk_alloc ?_ _)); exact BK2.out) Try.underlying60 rfl (by kernel_rfl)) rfl ?_
            exact ⟨rfl, by repeat (first | (with_reducible first | exact HB2.out | apply below_alloc | apply pw_below_drewN | apply below_drew1 | refine below_set ?_ GW.out) | exact HB2.out)⟩
          | true =>
            rw [if_neg (by rintro ⟨_, h⟩; cases h)] at HH'
            by_cases c2 : numAt s = numFrom s
            · have k4 : ((numAt s : Int) == (numFrom s : Int)) = true := beq_iff_eq.2 (by omega)
              rw [if_pos c2] at HH'
              simp only [Option.some.injEq, Prod.mk.injEq] at HH'
              obtain ⟨rfl, rfl, rfl⟩ := HH'
              clear c2
              have hcz0 : wc.cell? ⟨gb, 0, none⟩ = some (.string (⟨#[]⟩ : ByteArray)) := (blk_cell BK2.out 0).trans rfl
              have hcz1 : wc.cell? ⟨gb, 1, none⟩ = some (.int .i64 0) := (blk_cell BK2.out 1).trans rfl
              have hcz2 : wc.cell? ⟨gb, 2, none⟩ = some (.bool false) := (blk_cell BK2.out 2).trans rfl
              have hfz0 := blk_frozen BK2.out 0
              have hfz1 := blk_frozen BK2.out 1
              have hfz2 := blk_frozen BK2.out 2
              go_wp2
              (try simp only [Exit.jump])
              refine bodyPost_ret (results_cell_row rfl _ _ gb 60 #[.string (⟨#[]⟩ : ByteArray), .int .i64 0, .bool true] (0, 0) _ rfl (by (with_reducible repeat (first | refine blk_drewN ?_ _ | refine blk_drew ?_ | refine blk_alloc ?_ _)); refine blk_put (cs := #[.string (⟨#[]⟩ : ByteArray), .int .i64 0, .bool false]) ?_ 2 _ rfl; (with_reducible repeat (first | refine blk_drewN ?_ _ | refine blk_drew ?_ | refine blk_alloc ?_ _)); refine blk_put (cs := #[.string (⟨#[]⟩ : ByteArray), .int .i64 0, .bool false]) ?_ 1 _ rfl; (with_reducible repeat (first | refine blk_drewN ?_ _ | refine blk_drew ?_ | refine blk_alloc ?_ _)); refine blk_put (cs := #[.string (⟨#[]⟩ : ByteArray), .int .i64 0, .bool false]) ?_ 0 _ rfl; (with_reducible repeat (first | refine blk_drewN ?_ _ | refine blk_drew ?_ | refine blk_alloc ?_ _)); exact BK2.out) Try.underlying60 rfl (by kernel_rfl)) rfl ?_
              exact ⟨rfl, by repeat (first | (with_reducible first | exact HB2.out | apply below_alloc | apply pw_below_drewN | apply below_drew1 | refine below_set ?_ GW.out) | exact HB2.out)⟩
            · have k4 : ((numAt s : Int) == (numFrom s : Int)) = false := beq_eq_false_iff_ne.2 (by omega)
              rw [if_neg c2, HX.out] at HH'
              obtain ⟨⟨n1, n2⟩, hN, heq⟩ := Option.bind_eq_some_iff.1 HH'
              clear HH' c2
              have HN := Aside0.mk hN
              clear hN
              simp only [Option.some.injEq, Prod.mk.injEq] at heq
              obtain ⟨rfl, he2, rfl⟩ := heq
              have hfa : numFrom s ≤ numAt s := by unfold numAt; omega
              have j1 : ((0 : Int) ≤ (numFrom s : Int)) = True := eq_true (by omega)
              have j2 : ((numFrom s : Int) ≤ (numAt s : Int)) = True := eq_true (by omega)
              have j3 : ((numAt s : Int) ≤ (s.size : Int)) = True := eq_true (by omega)
              have hat : ((if numAt s < s.size ∧ bt s (numAt s : Nat) = 59 then numAt s + 1 else numAt s : Nat) : Int) = (numAt s : Int) := by rw [if_neg (fun h => absurd h.1 (by omega))]
              rw [hat] at he2
              subst he2
              clear hat c1
              go_wp2_with (go_at_call 61; refine (charref_Number.calls k (s.extract (numFrom s) (numAt s)) false n1 n2 _ HN.out).mono ?_; rintro e1 w7 ⟨rfl, hb⟩; have BK3 := Aside0.mk (blk_below (g := gb) (o := .cells #[.string (⟨#[]⟩ : ByteArray), .int .i64 0, .bool false] 60 (0, 0)) BK2.out hb); have HB3 := Aside0.mk (below_step HB2.out hb); clear hb; have hcz0 : w7.cell? ⟨gb, 0, none⟩ = some (.string (⟨#[]⟩ : ByteArray)) := (blk_cell BK3.out 0).trans rfl; have hcz1 : w7.cell? ⟨gb, 1, none⟩ = some (.int .i64 0) := (blk_cell BK3.out 1).trans rfl; have hcz2 : w7.cell? ⟨gb, 2, none⟩ = some (.bool false) := (blk_cell BK3.out 2).trans rfl; have hfz0 := blk_frozen BK3.out 0; have hfz1 := blk_frozen BK3.out 1; have hfz2 := blk_frozen BK3.out 2)
              (try simp only [Exit.jump])
              refine bodyPost_ret (results_cell_row rfl _ _ gb 60 #[.string (Utf8.encode n1), .int .i64 ((numAt s : Nat) : Int), .bool true] (0, 0) _ rfl (by (with_reducible repeat (first | refine blk_drewN ?_ _ | refine blk_drew ?_ | refine blk_alloc ?_ _)); refine blk_put (cs := #[.string (Utf8.encode n1), .int .i64 ((numAt s : Nat) : Int), .bool false]) ?_ 2 _ rfl; (with_reducible repeat (first | refine blk_drewN ?_ _ | refine blk_drew ?_ | refine blk_alloc ?_ _)); refine blk_put (cs := #[.string (Utf8.encode n1), .int .i64 0, .bool false]) ?_ 1 _ rfl; (with_reducible repeat (first | refine blk_drewN ?_ _ | refine blk_drew ?_ | refine blk_alloc ?_ _)); refine blk_put (cs := #[.string (⟨#[]⟩ : ByteArray), .int .i64 0, .bool false]) ?_ 0 _ rfl; (with_reducible repeat (first | refine blk_drewN ?_ _ | refine blk_drew ?_ | refine blk_alloc ?_ _)); exact BK3.out) Try.underlying60 rfl (by kernel_rfl)) rfl ?_
              exact ⟨rfl, by repeat (first | (with_reducible first | exact HB3.out | apply below_alloc | apply pw_below_drewN | apply below_drew1 | refine below_set ?_ GW.out) | exact HB3.out)⟩
        · have k1 : ((numAt s : Int) == (s.size : Int)) = false := beq_eq_false_iff_ne.2 (by omega)
          have k3 : ((numAt s : Int) < (s.size : Int)) = True := eq_true (by omega)
          have k3' : (numAt s < s.size) = True := eq_true (by omega)
          rw [if_neg (fun h => c1 h.1)] at HH'
          by_cases c2 : numAt s = numFrom s
          · have k4 : ((numAt s : Int) == (numFrom s : Int)) = true := beq_iff_eq.2 (by omega)
            rw [if_pos c2] at HH'
            simp only [Option.some.injEq, Prod.mk.injEq] at HH'
            obtain ⟨rfl, rfl, rfl⟩ := HH'
            clear c2
            have hcz0 : wc.cell? ⟨gb, 0, none⟩ = some (.string (⟨#[]⟩ : ByteArray)) := (blk_cell BK2.out 0).trans rfl
            have hcz1 : wc.cell? ⟨gb, 1, none⟩ = some (.int .i64 0) := (blk_cell BK2.out 1).trans rfl
            have hcz2 : wc.cell? ⟨gb, 2, none⟩ = some (.bool false) := (blk_cell BK2.out 2).trans rfl
            have hfz0 := blk_frozen BK2.out 0
            have hfz1 := blk_frozen BK2.out 1
            have hfz2 := blk_frozen BK2.out 2
            go_wp2
            (try simp only [Exit.jump])
            refine bodyPost_ret (results_cell_row rfl _ _ gb 60 #[.string (⟨#[]⟩ : ByteArray), .int .i64 0, .bool true] (0, 0) _ rfl (by (with_reducible repeat (first | refine blk_drewN ?_ _ | refine blk_drew ?_ | refine blk_alloc ?_ _)); refine blk_put (cs := #[.string (⟨#[]⟩ : ByteArray), .int .i64 0, .bool false]) ?_ 2 _ rfl; (with_reducible repeat (first | refine blk_drewN ?_ _ | refine blk_drew ?_ | refine blk_alloc ?_ _)); refine blk_put (cs := #[.string (⟨#[]⟩ : ByteArray), .int .i64 0, .bool false]) ?_ 1 _ rfl; (with_reducible repeat (first | refine blk_drewN ?_ _ | refine blk_drew ?_ | refine blk_alloc ?_ _)); refine blk_put (cs := #[.string (⟨#[]⟩ : ByteArray), .int .i64 0, .bool false]) ?_ 0 _ rfl; (with_reducible repeat (first | refine blk_drewN ?_ _ | refine blk_drew ?_ | refine blk_alloc ?_ _)); exact BK2.out) Try.underlying60 rfl (by kernel_rfl)) rfl ?_
            exact ⟨rfl, by repeat (first | (with_reducible first | exact HB2.out | apply below_alloc | apply pw_below_drewN | apply below_drew1 | refine below_set ?_ GW.out) | exact HB2.out)⟩
          · have k4 : ((numAt s : Int) == (numFrom s : Int)) = false := beq_eq_false_iff_ne.2 (by omega)
            rw [if_neg c2, HX.out] at HH'
            obtain ⟨⟨n1, n2⟩, hN, heq⟩ := Option.bind_eq_some_iff.1 HH'
            clear HH' c2
            have HN := Aside0.mk hN
            clear hN
            simp only [Option.some.injEq, Prod.mk.injEq] at heq
            obtain ⟨rfl, he2, rfl⟩ := heq
            have hfa : numFrom s ≤ numAt s := by unfold numAt; omega
            have j1 : ((0 : Int) ≤ (numFrom s : Int)) = True := eq_true (by omega)
            have j2 : ((numFrom s : Int) ≤ (numAt s : Int)) = True := eq_true (by omega)
            have j3 : ((numAt s : Int) ≤ (s.size : Int)) = True := eq_true (by omega)
            have hx0 : ∀ h : numAt s < s.size, ((s[numAt s]'h).toNat : Int) = bt s (numAt s : Int) := bt_at s (numAt s : Int)
            have j4 : ((0 : Int) ≤ (numAt s : Int)) = True := eq_true (by omega)
            have hw2 : IntKind.i64.wrap ((numAt s : Int) + 1) = (numAt s : Int) + 1 := IntWalk.i64_in _ (by omega)
            by_cases c4 : bt s (numAt s : Int) = 59
            · have k5 : (bt s (numAt s : Int) == 59) = true := beq_iff_eq.2 c4
              have hat : ((if numAt s < s.size ∧ bt s (numAt s : Nat) = 59 then numAt s + 1 else numAt s : Nat) : Int) = (numAt s : Int) + 1 := by rw [if_pos ⟨by omega, c4⟩]; omega
              rw [hat] at he2
              subst he2
              clear hat
              go_wp2_with (go_at_call 61; refine (charref_Number.calls k (s.extract (numFrom s) (numAt s)) false n1 n2 _ HN.out).mono ?_; rintro e1 w7 ⟨rfl, hb⟩; have BK3 := Aside0.mk (blk_below (g := gb) (o := .cells #[.string (⟨#[]⟩ : ByteArray), .int .i64 0, .bool false] 60 (0, 0)) BK2.out hb); have HB3 := Aside0.mk (below_step HB2.out hb); clear hb; have hcz0 : w7.cell? ⟨gb, 0, none⟩ = some (.string (⟨#[]⟩ : ByteArray)) := (blk_cell BK3.out 0).trans rfl; have hcz1 : w7.cell? ⟨gb, 1, none⟩ = some (.int .i64 0) := (blk_cell BK3.out 1).trans rfl; have hcz2 : w7.cell? ⟨gb, 2, none⟩ = some (.bool false) := (blk_cell BK3.out 2).trans rfl; have hfz0 := blk_frozen BK3.out 0; have hfz1 := blk_frozen BK3.out 1; have hfz2 := blk_frozen BK3.out 2)
              (try simp only [Exit.jump])
              refine bodyPost_ret (results_cell_row rfl _ _ gb 60 #[.string (Utf8.encode n1), .int .i64 ((numAt s : Int) + 1), .bool true] (0, 0) _ rfl (by (with_reducible repeat (first | refine blk_drewN ?_ _ | refine blk_drew ?_ | refine blk_alloc ?_ _)); refine blk_put (cs := #[.string (Utf8.encode n1), .int .i64 ((numAt s : Int) + 1), .bool false]) ?_ 2 _ rfl; (with_reducible repeat (first | refine blk_drewN ?_ _ | refine blk_drew ?_ | refine blk_alloc ?_ _)); refine blk_put (cs := #[.string (Utf8.encode n1), .int .i64 0, .bool false]) ?_ 1 _ rfl; (with_reducible repeat (first | refine blk_drewN ?_ _ | refine blk_drew ?_ | refine blk_alloc ?_ _)); refine blk_put (cs := #[.string (⟨#[]⟩ : ByteArray), .int .i64 0, .bool false]) ?_ 0 _ rfl; (with_reducible repeat (first | refine blk_drewN ?_ _ | refine blk_drew ?_ | refine blk_alloc ?_ _)); exact BK3.out) Try.underlying60 rfl (by kernel_rfl)) rfl ?_
              exact ⟨rfl, by repeat (first | (with_reducible first | exact HB3.out | apply below_alloc | apply pw_below_drewN | apply below_drew1 | refine below_set ?_ GW.out) | exact HB3.out)⟩
            · have k5 : (bt s (numAt s : Int) == 59) = false := beq_eq_false_iff_ne.2 c4
              have hat : ((if numAt s < s.size ∧ bt s (numAt s : Nat) = 59 then numAt s + 1 else numAt s : Nat) : Int) = (numAt s : Int) := by rw [if_neg (fun h => c4 h.2)]
              rw [hat] at he2
              subst he2
              clear hat
              go_wp2_with (go_at_call 61; refine (charref_Number.calls k (s.extract (numFrom s) (numAt s)) false n1 n2 _ HN.out).mono ?_; rintro e1 w7 ⟨rfl, hb⟩; have BK3 := Aside0.mk (blk_below (g := gb) (o := .cells #[.string (⟨#[]⟩ : ByteArray), .int .i64 0, .bool false] 60 (0, 0)) BK2.out hb); have HB3 := Aside0.mk (below_step HB2.out hb); clear hb; have hcz0 : w7.cell? ⟨gb, 0, none⟩ = some (.string (⟨#[]⟩ : ByteArray)) := (blk_cell BK3.out 0).trans rfl; have hcz1 : w7.cell? ⟨gb, 1, none⟩ = some (.int .i64 0) := (blk_cell BK3.out 1).trans rfl; have hcz2 : w7.cell? ⟨gb, 2, none⟩ = some (.bool false) := (blk_cell BK3.out 2).trans rfl; have hfz0 := blk_frozen BK3.out 0; have hfz1 := blk_frozen BK3.out 1; have hfz2 := blk_frozen BK3.out 2)
              (try simp only [Exit.jump])
              refine bodyPost_ret (results_cell_row rfl _ _ gb 60 #[.string (Utf8.encode n1), .int .i64 ((numAt s : Nat) : Int), .bool true] (0, 0) _ rfl (by (with_reducible repeat (first | refine blk_drewN ?_ _ | refine blk_drew ?_ | refine blk_alloc ?_ _)); refine blk_put (cs := #[.string (Utf8.encode n1), .int .i64 ((numAt s : Nat) : Int), .bool false]) ?_ 2 _ rfl; (with_reducible repeat (first | refine blk_drewN ?_ _ | refine blk_drew ?_ | refine blk_alloc ?_ _)); refine blk_put (cs := #[.string (Utf8.encode n1), .int .i64 0, .bool false]) ?_ 1 _ rfl; (with_reducible repeat (first | refine blk_drewN ?_ _ | refine blk_drew ?_ | refine blk_alloc ?_ _)); refine blk_put (cs := #[.string (⟨#[]⟩ : ByteArray), .int .i64 0, .bool false]) ?_ 0 _ rfl; (with_reducible repeat (first | refine blk_drewN ?_ _ | refine blk_drew ?_ | refine blk_alloc ?_ _)); exact BK3.out) Try.underlying60 rfl (by kernel_rfl)) rfl ?_
              exact ⟨rfl, by repeat (first | (with_reducible first | exact HB3.out | apply below_alloc | apply pw_below_drewN | apply below_drew1 | refine below_set ?_ GW.out) | exact HB3.out)⟩
  case first =>
    intro PASS
    have PASS' := Aside0.mk PASS
    clear PASS
    by_cases h1 : s.size = 1
    · have HH' := HH.out
      rw [if_pos h1] at HH'
      simp only [Option.some.injEq, Prod.mk.injEq] at HH'
      obtain ⟨rfl, rfl, rfl⟩ := HH'
      clear HH
      have hcz0 : w5.cell? ⟨gb, 0, none⟩ = some (.string (⟨#[]⟩ : ByteArray)) := (blk_cell BK.out 0).trans rfl
      have hcz1 : w5.cell? ⟨gb, 1, none⟩ = some (.int .i64 0) := (blk_cell BK.out 1).trans rfl
      have hcz2 : w5.cell? ⟨gb, 2, none⟩ = some (.bool false) := (blk_cell BK.out 2).trans rfl
      have hfz0 := blk_frozen BK.out 0
      have hfz1 := blk_frozen BK.out 1
      have hfz2 := blk_frozen BK.out 2
      have hk : ((1 : Int) == (s.size : Int)) = true := beq_iff_eq.2 (by omega)
      go_wp2
      (try simp only [Exit.jump])
      refine bodyPost_ret (results_cell_row rfl _ _ gb 60 #[.string (⟨#[]⟩ : ByteArray), .int .i64 0, .bool e] (0, 0) _ rfl (by (with_reducible repeat (first | refine blk_drewN ?_ _ | refine blk_drew ?_ | refine blk_alloc ?_ _)); refine blk_put (cs := #[.string (⟨#[]⟩ : ByteArray), .int .i64 0, .bool false]) ?_ 2 _ rfl; (with_reducible repeat (first | refine blk_drewN ?_ _ | refine blk_drew ?_ | refine blk_alloc ?_ _)); refine blk_put (cs := #[.string (⟨#[]⟩ : ByteArray), .int .i64 0, .bool false]) ?_ 1 _ rfl; (with_reducible repeat (first | refine blk_drewN ?_ _ | refine blk_drew ?_ | refine blk_alloc ?_ _)); refine blk_put (cs := #[.string (⟨#[]⟩ : ByteArray), .int .i64 0, .bool false]) ?_ 0 _ rfl; (with_reducible repeat (first | refine blk_drewN ?_ _ | refine blk_drew ?_ | refine blk_alloc ?_ _)); exact BK.out) Try.underlying60 rfl (by kernel_rfl)) rfl ?_
      exact ⟨rfl, by repeat (first | (with_reducible first | exact HB.out | apply below_alloc | apply pw_below_drewN | apply below_drew1 | refine below_set ?_ GW.out) | exact HB.out)⟩
    · have hk : ((1 : Int) == (s.size : Int)) = false := beq_eq_false_iff_ne.2 (by omega)
      have hx0 : ∀ h : 1 < s.size, ((s[1]'h).toNat : Int) = bt s 1 := bt_at s 1
      have hlt : ((1 : Int) < (s.size : Int)) = True := eq_true (by omega)
      have hlt' : (1 < s.size) = True := eq_true (by omega)
      by_cases c1 : bt s 1 = 120
      · have hh : numHex s = true := by simp [numHex, c1]
        have hf : numFrom s = 2 := by simp [numFrom, hh]
        have k1 : (bt s 1 == 120) = true := beq_iff_eq.2 c1
        go_wp2
        go_step3
        simp only [Exit.then]
        apply_assumption
        refine PASS'.out _ _ ?_
        refine numJ_of 2 ?_ ⟨by omega, h1⟩ (by unfold numAt; rw [hf]) BK.out HB.out
        rw [hh, hf]
        rfl
      have k1 : (bt s 1 == 120) = false := beq_eq_false_iff_ne.2 c1
      by_cases c2 : bt s 1 = 88
      · have hh : numHex s = true := by simp [numHex, c2]
        have hf : numFrom s = 2 := by simp [numFrom, hh]
        have k2 : (bt s 1 == 88) = true := beq_iff_eq.2 c2
        go_wp2
        go_step3
        simp only [Exit.then]
        apply_assumption
        refine PASS'.out _ _ ?_
        refine numJ_of 2 ?_ ⟨by omega, h1⟩ (by unfold numAt; rw [hf]) BK.out HB.out
        rw [hh, hf]
        rfl
      · have k2 : (bt s 1 == 88) = false := beq_eq_false_iff_ne.2 c2
        have hh : numHex s = false := by simp [numHex, c1, c2]
        have hf : numFrom s = 1 := by simp [numFrom, hh]
        go_wp2
        go_step3
        simp only [Exit.then]
        apply_assumption
        refine PASS'.out _ _ ?_
        refine numJ_of 1 ?_ ⟨by omega, h1⟩ (by unfold numAt; rw [hf]) BK.out HB.out
        rw [hh, hf]
        rfl
end Go.Proofs.Ytilpbfbnnmclhaa.P
end
section
/-
  Named references in plain Lean: what the program's loops over the table tell.
-/
namespace Go.Proofs.Ytilpbfbnnmclhaa.P
open Go.RowKit Go.Proofs.YtilpbfbnnmclhaaW.PrintWords Go.Proofs.YtilpbfbnnmclhaaW.PrintLast Go.Proofs.YtilpbfbnnmclhaaW.PrintMore
set_option linter.unusedVariables false
set_option linter.unusedSimpArgs false

abbrev Ent := S98
def nameL (x : Ent) : List UInt8 := x.f0.data.toList
def saysE (x : Ent) : List Int := if x.f2 = 0 then [x.f1] else [x.f1, x.f2]
def stepL (l : List UInt8) (acc : Nat × List Int) (x : Ent) : Nat × List Int :=
  if (nameL x).isPrefixOf l = true then
    (if (nameL x).length < l.length ∧ l.getD (nameL x).length 0 = 59 then (if acc.1 < (nameL x).length + 1 then ((nameL x).length + 1, saysE x) else acc)
     else if x.f3 = true then (if acc.1 < (nameL x).length then ((nameL x).length, saysE x) else acc) else acc)
  else acc
def longL (l : List UInt8) : Nat × List Int := ents.foldl (stepL l) (0, [])
def begL (l : List UInt8) : Bool := ents.any fun x => l.isPrefixOf (nameL x)

theorem ents_small : ∀ x ∈ ents, x.f0.size ≤ 100 := by decide +kernel
theorem ents_len : ents.length = 301 := by decide +kernel
theorem nameL_len (x : Ent) : (nameL x).length = x.f0.size := by simp [nameL]

theorem prefix_take (a p : List UInt8) : (p.isPrefixOf a = true) ↔ (p.length ≤ a.length ∧ a.take p.length = p) := by
  rw [List.isPrefixOf_iff_prefix, List.prefix_iff_eq_take]
  constructor
  · intro h
    refine ⟨?_, h.symm⟩
    have := congrArg List.length h
    rw [List.length_take] at this
    omega
  · exact fun h => h.2.symm
theorem hasPrefix_f (a b : ByteArray) : strings_HasPrefix.f a b = some (b.data.toList.isPrefixOf a.data.toList) := by
  unfold strings_HasPrefix.f stringslite_HasPrefix.f
  have ha : a.data.toList.length = a.size := by simp
  have hb : b.data.toList.length = b.size := by simp
  have e2 : b.toList = b.data.toList := ByteArray.toList_eq b
  by_cases h : b.size ≤ a.size
  · rw [if_pos (by omega), if_pos (by omega), if_pos (by omega)]
    show some _ = some _
    congr 1
    rw [Lib.extract_toList, e2, Bool.eq_iff_iff, beq_iff_eq, prefix_take, hb]
    simp only [Int.toNat_natCast, Nat.sub_zero, List.drop_zero]
    rw [ha]
    exact ⟨fun e => ⟨h, e⟩, fun e => e.2⟩
  · rw [if_neg (by omega)]
    show some false = some _
    congr 1
    symm
    rw [Bool.eq_false_iff, ne_eq, prefix_take, hb, ha]
    omega
theorem rdT_at (es : List Ent) (i : Nat) (h : i < es.length) : rd_T98 es (i : Int) = es[i] := by
  unfold rd_T98
  rw [Int.toNat_natCast, List.getD_eq_getElem?_getD, List.getElem?_eq_getElem h]
  rfl
theorem bt_l (s : ByteArray) (p : Nat) (h : p < s.size) : bt s (p : Int) = ((s.data.toList.getD p 0).toNat : Int) := by
  have hl : p < s.data.toList.length := by simpa using h
  have : s.data.toList.getD p 0 = s.data.toList[p] := by rw [List.getD_eq_getElem?_getD, List.getElem?_eq_getElem hl]; rfl
  rw [this]
  unfold bt
  simp only [Int.toNat_natCast]
  rw [dif_pos h]
  rfl
theorem u8_eq (b : UInt8) (n : Nat) (h : n < 256) : ((b.toNat : Int) = (n : Int)) ↔ b = UInt8.ofNat n := by
  constructor
  · intro e
    apply UInt8.toNat_inj.1
    rw [UInt8.toNat_ofNat_of_lt' h]
    omega
  · rintro rfl
    rw [UInt8.toNat_ofNat_of_lt' h]

theorem says_f (x : Ent) : entity_says.f x.f0 x.f1 x.f2 x.f3 = some (saysE x) := by
  unfold entity_says.f saysE
  split <;> rfl

set_option maxHeartbeats 4000000 in
theorem longest_l0 (s : ByteArray) (es : List Ent) (hes : es.length ≤ 100000) (hsm : ∀ x ∈ es, x.f0.size ≤ 100) : ∀ (d i k n : Nat) (out : List Int), es.length - i = d → i ≤ es.length → 2 * d + 1 ≤ k →
    entity_Longest.l0 k s (n : Int) out es (es.length : Int) (i : Int) = some ((((es.drop i).foldl (stepL s.data.toList) (n, out)).1 : Int), ((es.drop i).foldl (stepL s.data.toList) (n, out)).2)
  | 0, i, k, n, out, hd, hi, hk => by
    obtain ⟨k, rfl⟩ : ∃ j, k = j + 1 := ⟨k - 1, by omega⟩
    obtain rfl : i = es.length := by omega
    rw [entity_Longest.l0, if_neg (by omega), List.drop_length]
    rfl
  | d + 1, i, k, n, out, hd, hi, hk => by
    obtain ⟨k, rfl⟩ : ∃ j, k = j + 2 := ⟨k - 2, by omega⟩
    have hlt : i < es.length := by omega
    have HW := Aside0.mk (show wrap64 ((i : Int) + 1) = ((i + 1 : Nat) : Int) by unfold wrap64; omega)
    rw [List.drop_eq_getElem_cons hlt, List.foldl_cons]
    have hx := hsm es[i] (List.getElem_mem hlt)
    generalize hxe : es[i] = x at hx
    have hnl := nameL_len x
    have hsl : s.data.toList.length = s.size := by simp
    have ih1 := fun (n : Nat) (out : List Int) => longest_l0 s es hes hsm d (i + 1) (k + 1) n out (by omega) (by omega) (by omega)
    have ih2 := fun (n : Nat) (out : List Int) => longest_l0 s es hes hsm d (i + 1) k n out (by omega) (by omega) (by omega)
    rw [entity_Longest.l0, if_pos (by omega), if_pos (by omega), if_pos (by omega), rdT_at es i hlt, hxe, hasPrefix_f, HW.out]
    rw [Option.bind_some]
    by_cases hp : x.f0.data.toList.isPrefixOf s.data.toList = true
    · rw [if_pos hp]
      have hp' : (nameL x).isPrefixOf s.data.toList = true := hp
      have hle := ((prefix_take _ _).1 hp').1
      have HW2 := Aside0.mk (show wrap64 ((x.f0.size : Int) + 1) = ((x.f0.size + 1 : Nat) : Int) by unfold wrap64; omega)
      -- the test for a semicolon
      have hj : ∀ b : Bool, b = decide ((nameL x).length < s.data.toList.length ∧ s.data.toList.getD (nameL x).length 0 = 59) →
          entity_Longest.j1 (k + 1) s (n : Int) out (x.f0.size : Int) es (es.length : Int) (i : Int) b x.f0 x.f1 x.f2 x.f3 =
            some ((((es.drop (i + 1)).foldl (stepL s.data.toList) (stepL s.data.toList (n, out) x)).1 : Int), ((es.drop (i + 1)).foldl (stepL s.data.toList) (stepL s.data.toList (n, out) x)).2) := by
        rintro b hb
        rw [entity_Longest.j1, HW2.out, says_f, HW.out]
        have hs : stepL s.data.toList (n, out) x = (if (nameL x).length < s.data.toList.length ∧ s.data.toList.getD (nameL x).length 0 = 59 then (if n < (nameL x).length + 1 then ((nameL x).length + 1, saysE x) else (n, out))
            else if x.f3 = true then (if n < (nameL x).length then ((nameL x).length, saysE x) else (n, out)) else (n, out)) := by
          unfold stepL
          rw [if_pos hp']
        rw [hs]
        by_cases hc : (nameL x).length < s.data.toList.length ∧ s.data.toList.getD (nameL x).length 0 = 59
        · rw [hb, if_pos (decide_eq_true hc), if_pos hc]
          by_cases hm : n < (nameL x).length + 1
          · have hm1 : ((x.f0.size + 1 : Nat) : Int) > (n : Int) := by omega
            rw [if_pos hm1, if_pos hm]
            rw [Option.bind_some]
            rw [ih2, hnl]
          · rw [if_neg (by omega), if_neg hm, ih2]
        · rw [hb, if_neg (by simpa using hc), if_neg hc]
          by_cases h3 : x.f3 = true
          · rw [if_pos h3, if_pos h3]
            by_cases hm : n < (nameL x).length
            · rw [if_pos (by omega), if_pos hm]
              rw [Option.bind_some]
              rw [ih2, hnl]
            · rw [if_neg (by omega), if_neg hm, ih2]
          · rw [if_neg h3, if_neg h3, ih2]
      by_cases hc1 : x.f0.size < s.size
      · rw [if_pos (by omega), if_pos (by omega)]
        refine hj _ ?_
        rw [bt_l s _ hc1, Bool.eq_iff_iff, beq_iff_eq, decide_eq_true_iff, hnl, hsl]
        have := u8_eq (s.data.toList.getD x.f0.size 0) 59 (by decide)
        exact ⟨fun e => ⟨hc1, this.1 e⟩, fun e => this.2 e.2⟩
      · rw [if_neg (by omega)]
        refine hj _ ?_
        symm
        rw [decide_eq_false_iff_not, hnl, hsl]
        omega
    · rw [if_neg hp]
      have hp' : ¬ (nameL x).isPrefixOf s.data.toList = true := hp
      have hstep : stepL s.data.toList (n, out) x = (n, out) := by unfold stepL; rw [if_neg hp']
      rw [hstep, ih1]
theorem longest_f (s : ByteArray) (k : Nat) (hk : 603 ≤ k) : entity_Longest.f k s = some (((longL s.data.toList).1 : Int), (longL s.data.toList).2) := by
  unfold entity_Longest.f
  show entity_Longest.l0 k s ((0 : Nat) : Int) [] ents (ents.length : Int) ((0 : Nat) : Int) = _
  rw [longest_l0 s ents (by rw [ents_len]; omega) ents_small ents.length 0 k 0 [] (by omega) (by omega) (by rw [ents_len]; omega)]
  rfl

theorem begins_l0 (s : ByteArray) (es : List Ent) (hes : es.length ≤ 100000) : ∀ (d i k : Nat), es.length - i = d → i ≤ es.length → d + 1 ≤ k →
    entity_Begins.l0 k s es (es.length : Int) (i : Int) = some ((es.drop i).any fun x => s.data.toList.isPrefixOf (nameL x))
  | 0, i, k, hd, hi, hk => by
    obtain ⟨k, rfl⟩ : ∃ j, k = j + 1 := ⟨k - 1, by omega⟩
    obtain rfl : i = es.length := by omega
    rw [entity_Begins.l0, if_neg (by omega), List.drop_length]
    rfl
  | d + 1, i, k, hd, hi, hk => by
    obtain ⟨k, rfl⟩ : ∃ j, k = j + 1 := ⟨k - 1, by omega⟩
    have hlt : i < es.length := by omega
    have HW := Aside0.mk (show wrap64 ((i : Int) + 1) = ((i + 1 : Nat) : Int) by unfold wrap64; omega)
    have ih := begins_l0 s es hes d (i + 1) k (by omega) (by omega) (by omega)
    rw [List.drop_eq_getElem_cons hlt, List.any_cons]
    rw [entity_Begins.l0, if_pos (by omega), if_pos (by omega), if_pos (by omega), rdT_at es i hlt, HW.out]
    generalize es[i] = x
    have hnl := nameL_len x
    have hsl : s.data.toList.length = s.size := by simp
    by_cases hc : s.size ≤ x.f0.size
    · rw [if_pos (by omega), hasPrefix_f]
      rw [Option.bind_some]
      by_cases hp : s.data.toList.isPrefixOf x.f0.data.toList = true
      · rw [if_pos hp]
        have : s.data.toList.isPrefixOf (nameL x) = true := hp
        rw [this]
        rfl
      · rw [if_neg hp, ih]
        have : s.data.toList.isPrefixOf (nameL x) = false := Bool.eq_false_iff.2 hp
        rw [this]
        rfl
    · rw [if_neg (by omega), ih]
      have : s.data.toList.isPrefixOf (nameL x) = false := by
        rw [Bool.eq_false_iff, ne_eq, prefix_take]
        omega
      rw [this]
      rfl
theorem begins_f (s : ByteArray) (k : Nat) (hk : 302 ≤ k) : entity_Begins.f k s = some (begL s.data.toList) := by
  unfold entity_Begins.f
  show entity_Begins.l0 k s ents (ents.length : Int) ((0 : Nat) : Int) = _
  rw [begins_l0 s ents (by rw [ents_len]; omega) ents.length 0 k (by omega) (by omega) (by rw [ents_len]; omega)]
  rfl
end Go.Proofs.Ytilpbfbnnmclhaa.P
end
section
/-
  charref.named in plain Lean.
-/
namespace Go.Proofs.Ytilpbfbnnmclhaa.P
open Go.RowKit Go.Proofs.YtilpbfbnnmclhaaW.PrintWords Go.Proofs.YtilpbfbnnmclhaaW.PrintLast Go.Proofs.YtilpbfbnnmclhaaW.PrintMore
set_option linter.unusedVariables false
set_option linter.unusedSimpArgs false

def wordB (b : Nat) : Bool := decide ((65 ≤ b ∧ b ≤ 90) ∨ (97 ≤ b ∧ b ≤ 122) ∨ (48 ≤ b ∧ b ≤ 57))
theorem word_all : ∀ b : Fin 256, charref_word.f ((b.val : Nat) : Int) = some (wordB b.val) := by decide +kernel

theorem stepL_le (l : List UInt8) (acc : Nat × List Int) (x : Ent) (h : acc.1 ≤ l.length) : (stepL l acc x).1 ≤ l.length := by
  unfold stepL
  by_cases hp : (nameL x).isPrefixOf l = true
  · rw [if_pos hp]
    have := ((prefix_take _ _).1 hp).1
    by_cases hc : (nameL x).length < l.length ∧ l.getD (nameL x).length 0 = 59
    · rw [if_pos hc]
      split
      · exact hc.1
      · exact h
    · rw [if_neg hc]
      split
      · split
        · exact this
        · exact h
      · exact h
  · rw [if_neg hp]
    exact h
theorem foldL_le (l : List UInt8) : ∀ (es : List Ent) (acc : Nat × List Int), acc.1 ≤ l.length → (es.foldl (stepL l) acc).1 ≤ l.length
  | [], acc, h => h
  | x :: t, acc, h => foldL_le l t _ (stepL_le l acc x h)
theorem longL_le (l : List UInt8) : (longL l).1 ≤ l.length := foldL_le l ents (0, []) (Nat.zero_le _)

theorem foldL_small (l : List UInt8) : ∀ (es : List Ent) (acc : Nat × List Int), acc.1 ≤ 101 → (∀ x ∈ es, x.f0.size ≤ 100) → (es.foldl (stepL l) acc).1 ≤ 101
  | [], acc, h, _ => h
  | x :: t, acc, h, hs => by
    refine foldL_small l t _ ?_ (fun y hy => hs y (List.mem_cons_of_mem _ hy))
    have hx := hs x List.mem_cons_self
    have hn := nameL_len x
    unfold stepL
    split
    · split
      · split
        · show (nameL x).length + 1 ≤ 101
          omega
        · exact h
      · split
        · split
          · show (nameL x).length ≤ 101
            omega
          · exact h
        · exact h
    · exact h
theorem longL_small (l : List UInt8) : (longL l).1 ≤ 101 := foldL_small l ents (0, []) (Nat.zero_le _) ents_small

def emp : ByteArray := ⟨#[]⟩
def namedL (l : List UInt8) (attr e : Bool) : ByteArray × Int × Bool :=
  if e = false ∧ begL l = true then (emp, 0, false)
  else if (longL l).1 = 0 then (emp, 0, true)
  else if attr = true ∧ l.getD ((longL l).1 - 1) 0 ≠ 59 then
    (if (longL l).1 = l.length then (if e = true then (Hc_text (longL l).2, ((longL l).1 : Int), true) else (emp, 0, false))
     else if wordB (l.getD (longL l).1 0).toNat = true then (emp, 0, true)
     else if l.getD (longL l).1 0 = 61 then (emp, 0, true) else (Hc_text (longL l).2, ((longL l).1 : Int), true))
  else (Hc_text (longL l).2, ((longL l).1 : Int), true)

theorem named_j1 (k : Nat) (s : ByteArray) (e : Bool) (n : Nat) (o : List Int) (b : Bool) (hn : n ≤ s.size) :
    charref_named.j1 (k + 1) s e (n : Int) o b = some (if b = true then
      (if n = s.data.toList.length then (if e = true then (Hc_text o, (n : Int), true) else (emp, 0, false))
       else if wordB (s.data.toList.getD n 0).toNat = true then (emp, 0, true)
       else if s.data.toList.getD n 0 = 61 then (emp, 0, true) else (Hc_text o, (n : Int), true))
      else (Hc_text o, (n : Int), true)) := by
  have hsl : s.data.toList.length = s.size := by simp
  rw [charref_named.j1]
  by_cases hb : b = true
  · rw [if_pos hb, if_pos hb, hsl]
    by_cases h1 : n = s.size
    · rw [if_pos (by omega), if_pos h1]
      split <;> rfl
    · rw [if_neg (by omega), if_neg h1, if_pos (by omega), if_pos (by omega), bt_l s n (by omega)]
      have hw := word_all ⟨_, UInt8.toNat_lt (s.data.toList.getD n 0)⟩
      simp only at hw
      rw [hw, Option.bind_some]
      have hq : ((s.data.toList.getD n 0).toNat : Int) = 61 ↔ s.data.toList.getD n 0 = 61 := u8_eq (s.data.toList.getD n 0) 61 (by decide)
      by_cases h2 : wordB (s.data.toList.getD n 0).toNat = true
      · rw [if_pos h2, if_pos h2]
        rfl
      · rw [if_neg h2, if_neg h2]
        by_cases h3 : s.data.toList.getD n 0 = 61
        · rw [if_pos h3, if_pos (hq.2 h3)]
          rfl
        · rw [if_neg h3, if_neg (fun e => h3 (hq.1 e))]
  · rw [if_neg hb, if_neg hb]
theorem named_j0 (k : Nat) (hk : 603 ≤ k) (s : ByteArray) (attr e b : Bool) :
    charref_named.j0 (k + 2) s attr e b = some (if b = true then (emp, 0, false) else if (longL s.data.toList).1 = 0 then (emp, 0, true)
      else if attr = true ∧ s.data.toList.getD ((longL s.data.toList).1 - 1) 0 ≠ 59 then
        (if (longL s.data.toList).1 = s.data.toList.length then (if e = true then (Hc_text (longL s.data.toList).2, ((longL s.data.toList).1 : Int), true) else (emp, 0, false))
         else if wordB (s.data.toList.getD (longL s.data.toList).1 0).toNat = true then (emp, 0, true)
         else if s.data.toList.getD (longL s.data.toList).1 0 = 61 then (emp, 0, true) else (Hc_text (longL s.data.toList).2, ((longL s.data.toList).1 : Int), true))
      else (Hc_text (longL s.data.toList).2, ((longL s.data.toList).1 : Int), true)) := by
  have hle := longL_le s.data.toList
  have hsm := longL_small s.data.toList
  have hsl : s.data.toList.length = s.size := by simp
  rw [charref_named.j0]
  by_cases hb : b = true
  · rw [if_pos hb, if_pos hb]
    rfl
  rw [if_neg hb, if_neg hb, longest_f s (k + 1) (by omega), Option.bind_some]
  generalize longL s.data.toList = q at hle hsm
  obtain ⟨n, o⟩ := q
  simp only at hle hsm ⊢
  by_cases h0 : n = 0
  · rw [if_pos (by omega), if_pos h0]
    rfl
  rw [if_neg (by omega), if_neg h0]
  by_cases ha : attr = true
  · have HW := Aside0.mk (show wrap64 ((n : Int) - 1) = ((n - 1 : Nat) : Int) by unfold wrap64; omega)
    rw [if_pos ha, HW.out, if_pos (by omega), if_pos (by omega), named_j1 k s e n o _ (by omega), bt_l s (n - 1) (by omega)]
    have hq : ((s.data.toList.getD (n - 1) 0).toNat : Int) = 59 ↔ s.data.toList.getD (n - 1) 0 = 59 := u8_eq (s.data.toList.getD (n - 1) 0) 59 (by decide)
    by_cases h59 : s.data.toList.getD (n - 1) 0 = 59
    · rw [if_neg (by rw [bne_iff_ne]; exact fun h => h (hq.2 h59)), if_neg (fun h => h.2 h59)]
    · rw [if_pos (by rw [bne_iff_ne]; exact fun h => h59 (hq.1 h)), if_pos (show attr = true ∧ s.data.toList.getD (n - 1) 0 ≠ 59 from ⟨ha, h59⟩)]
  · rw [if_neg ha, named_j1 k s e n o _ (by omega), if_neg (by decide), if_neg (fun h => ha h.1)]
theorem named_f (k : Nat) (hk : 605 ≤ k) (s : ByteArray) (attr e : Bool) : charref_named.f k s attr e = some (namedL s.data.toList attr e) := by
  obtain ⟨j, rfl⟩ : ∃ j, k = j + 2 := ⟨k - 2, by omega⟩
  unfold charref_named.f namedL
  cases e with
  | true =>
    rw [if_pos rfl, named_j0 j (by omega), if_neg (show ¬ (false = true) by decide), if_neg (show ¬ (true = false ∧ begL s.data.toList = true) from fun h => by cases h.1)]
  | false =>
    rw [if_neg (by decide), begins_f s _ (by omega), Option.bind_some, named_j0 j (by omega)]
    by_cases hb : begL s.data.toList = true
    · rw [if_pos hb, if_pos (show false = false ∧ begL s.data.toList = true from ⟨rfl, hb⟩)]
    · rw [if_neg hb, if_neg (show ¬ (false = false ∧ begL s.data.toList = true) from fun h => hb h.2)]
end Go.Proofs.Ytilpbfbnnmclhaa.P
end
section
/-
  charref.Number in plain Lean.
-/
namespace Go.Proofs.Ytilpbfbnnmclhaa.P
open Go.RowKit Go.Proofs.YtilpbfbnnmclhaaW.PrintWords Go.Proofs.YtilpbfbnnmclhaaW.PrintLast Go.Proofs.YtilpbfbnnmclhaaW.PrintMore
set_option linter.unusedVariables false
set_option linter.unusedSimpArgs false

theorem digV_range : ∀ b : Fin 256, -1 ≤ digV b.val ∧ digV b.val ≤ 15 := by decide +kernel
theorem value_f (k : Nat) (b : UInt8) : names_Value.f (k + 1) (wrap32 (b.toNat : Int)) = some (digV b.toNat) := by
  have h := digV_all ⟨b.toNat, UInt8.toNat_lt b⟩
  exact (show names_Value.f (k + 1) (wrap32 (b.toNat : Int)) = names_Value.f 9 (wrap32 (b.toNat : Int)) from rfl).trans h
/-- what digits say so far -/
def numStep (base : Nat) (n : Nat) (b : UInt8) : Nat := min (n * base + (digV b.toNat).toNat) 1114112
def numL (hex : Bool) (l : List UInt8) : Int × Bool :=
  if l.all (isDig hex) = true then (if l = [] then (65533, false) else saysF ((l.foldl (numStep (if hex = true then 16 else 10)) 0 : Nat) : Int)) else (65533, false)

theorem num_step10 (n v : Nat) (hn : n ≤ 1114112) (hv : v ≤ 15) : mn (wrap64 ((wrap64 ((n : Int) * 10)) + (v : Int))) 1114112 = ((min (n * 10 + v) 1114112 : Nat) : Int) := by
  have e1 : wrap64 ((n : Int) * 10) = (n : Int) * 10 := by unfold wrap64; omega
  rw [e1]
  have e2 : wrap64 ((n : Int) * 10 + (v : Int)) = (n : Int) * 10 + (v : Int) := by clear e1; unfold wrap64; omega
  rw [e2]
  clear e1 e2
  unfold mn
  split <;> omega
theorem num_step16 (n v : Nat) (hn : n ≤ 1114112) (hv : v ≤ 15) : mn (wrap64 ((wrap64 ((n : Int) * 16)) + (v : Int))) 1114112 = ((min (n * 16 + v) 1114112 : Nat) : Int) := by
  have e1 : wrap64 ((n : Int) * 16) = (n : Int) * 16 := by unfold wrap64; omega
  rw [e1]
  have e2 : wrap64 ((n : Int) * 16 + (v : Int)) = (n : Int) * 16 + (v : Int) := by clear e1; unfold wrap64; omega
  rw [e2]
  clear e1 e2
  unfold mn
  split <;> omega

theorem number_l0 (s : ByteArray) (hs : s.size ≤ 35184372088831) (hex : Bool) (base : Nat) (hb : base = if hex = true then 16 else 10) (ok : Bool) : ∀ (d i k n : Nat), s.size - i = d → i ≤ s.size → n ≤ 1114112 → d + 2 ≤ k →
    charref_Number.l0 k s (base : Int) (n : Int) ok (s.size : Int) (i : Int) =
      some (if (s.data.toList.drop i).all (isDig hex) = true then (if ok = true then saysF (((s.data.toList.drop i).foldl (numStep base) n : Nat) : Int) else (65533, false)) else (65533, false))
  | 0, i, k, n, hd, hi, hn, hk => by
    obtain ⟨k, rfl⟩ : ∃ j, k = j + 1 := ⟨k - 1, by omega⟩
    obtain rfl : i = s.size := by omega
    have he : s.data.toList.drop s.size = [] := List.drop_eq_nil_of_le (by simp)
    rw [charref_Number.l0, if_neg (by omega), he]
    simp only [List.all_nil, List.foldl_nil, if_true]
    by_cases ho : ok = true
    · rw [if_pos ho, if_pos ho]
      have : charref_says.f (n : Int) = some (saysF (n : Int)) := by unfold charref_says.f; rw [if_pos (by omega)]
      rw [this]
      rfl
    · rw [if_neg ho, if_neg ho]
  | d + 1, i, k, n, hd, hi, hn, hk => by
    obtain ⟨k, rfl⟩ : ∃ j, k = j + 2 := ⟨k - 2, by omega⟩
    have hlt : i < s.size := by omega
    have hl : i < s.data.toList.length := by simpa using hlt
    have hdr := List.drop_eq_getElem_cons hl
    have hg : s.data.toList.getD i 0 = s.data.toList[i] := by rw [List.getD_eq_getElem?_getD, List.getElem?_eq_getElem hl]; rfl
    have ih := fun (n : Nat) (hn : n ≤ 1114112) => number_l0 s hs hex base hb ok d (i + 1) (k + 1) n (by omega) (by omega) hn (by omega)
    rw [hdr, List.all_cons, List.foldl_cons]
    rw [charref_Number.l0, if_pos (by omega), if_pos (by omega), if_pos (by omega), bt_l s i hlt, hg, value_f, Option.bind_some]
    generalize s.data.toList[i] = b
    have hr := digV_range ⟨b.toNat, UInt8.toNat_lt b⟩
    simp only at hr
    have hbase : base = 10 ∨ base = 16 := by subst hb; split <;> simp
    by_cases h0 : digV b.toNat < 0
    · have hd0 : isDig hex b = false := by unfold isDig; rw [decide_eq_false (by omega), Bool.false_and]
      rw [if_pos h0, hd0, Bool.false_and, if_neg (by decide)]
    rw [if_neg h0]
    by_cases h1 : digV b.toNat ≥ (base : Int)
    · have hd0 : isDig hex b = false := by
        unfold isDig
        cases hex with
        | true => simp at hb; omega
        | false => simp at hb; rw [Bool.false_or, decide_eq_false (by omega : ¬ digV b.toNat < 10), Bool.and_false]
      rw [if_pos h1, hd0, Bool.false_and, if_neg (by decide)]
    rw [if_neg h1]
    have hd1 : isDig hex b = true := by
      unfold isDig
      rw [decide_eq_true (by omega), Bool.true_and]
      cases hex with
      | true => rfl
      | false => simp at hb; rw [Bool.false_or, decide_eq_true (by omega)]
    have HM := Aside0.mk (show mn (wrap64 ((wrap64 ((n : Int) * (base : Int))) + digV b.toNat)) 1114112 = ((numStep base n b : Nat) : Int) by
      obtain ⟨v, hv⟩ : ∃ v : Nat, digV b.toNat = v := ⟨(digV b.toNat).toNat, by omega⟩
      unfold numStep
      rw [hv, Int.toNat_natCast]
      rcases hbase with hb2 | hb2
      · rw [hb2]; exact num_step10 n v hn (by omega)
      · rw [hb2]; exact num_step16 n v hn (by omega))
    have HW := Aside0.mk (show wrap64 ((i : Int) + 1) = ((i + 1 : Nat) : Int) by unfold wrap64; omega)
    rw [HM.out, HW.out, ih _ (by unfold numStep; omega), hd1, Bool.true_and]
theorem number_f (k : Nat) (s : ByteArray) (hs : s.size ≤ 35184372088831) (hk : s.size + 4 ≤ k) (hex : Bool) : charref_Number.f k s hex = some (numL hex s.data.toList) := by
  obtain ⟨j, rfl⟩ : ∃ j, k = j + 1 := ⟨k - 1, by omega⟩
  have hne : (s.toList != ([] : List UInt8)) = decide (s.data.toList ≠ []) := by rw [ByteArray.toList_eq, Bool.eq_iff_iff, bne_iff_ne, decide_eq_true_iff]
  have key : ∀ base : Nat, base = (if hex = true then 16 else 10) → charref_Number.j0 (j + 1) s (base : Int) = some (numL hex s.data.toList) := by
    intro base hb
    rw [charref_Number.j0]
    have := number_l0 s hs hex base hb (s.toList != ([] : List UInt8)) s.size 0 j 0 (by omega) (by omega) (by omega) (by omega)
    rw [List.drop_zero] at this
    refine Eq.trans this ?_
    unfold numL
    rw [hne, hb]
    by_cases h : s.data.toList = []
    · simp [h]
    · simp [h]
  unfold charref_Number.f
  cases hex with
  | true => rw [if_pos rfl]; exact key 16 rfl
  | false => rw [if_neg (by decide)]; exact key 10 rfl
end Go.Proofs.Ytilpbfbnnmclhaa.P
end
section
namespace Go.Proofs.Ytilpbfbnnmclhaa.P
open Go.RowKit Go.Proofs.YtilpbfbnnmclhaaW.PrintWords Go.Proofs.YtilpbfbnnmclhaaW.PrintLast Go.Proofs.YtilpbfbnnmclhaaW.PrintMore
attribute [local go_sem] max2_int min2_int max_two min_two max_three min_three max_four min_four   -- for this text's walks alone
set_option linter.unusedVariables false
set_option linter.unusedSimpArgs false

/-! ### charref_next: function 27 -/
def charref_next.j0 : Nat → ByteArray → Bool → Bool → Bool → Option (ByteArray × Int × Bool)
 | 0, _, _, _, _ => none
 | k + 1, x0, x1, x2, x13 => if x13 = true then ((charref_numeric.f k x0 x2).bind fun bt297 => (some (bt297.1, bt297.2.1, bt297.2.2))) else ((charref_named.f k x0 x1 x2).bind fun bt300 => (some (bt300.1, bt300.2.1, bt300.2.2)))
def charref_next.f (k : Nat) (a0 : ByteArray) (a1 : Bool) (a2 : Bool) : Option (ByteArray × Int × Bool) := if a0.toList = ([] : List UInt8) then (charref_next.j0 k a0 a1 a2 false) else (if 0 < (a0.size : Int) then (charref_next.j0 k a0 a1 a2 ((bt a0 0) == 35)) else (none))
theorem charref_next.mono_l : ∀ k, (∀ y0 y1 y2 y3, LeO (charref_next.j0 k y0 y1 y2 y3) (charref_next.j0 (k + 1) y0 y1 y2 y3))
 | 0 => fun _ _ _ _ r h => by simp [charref_next.j0] at h
 | k + 1 => by
  have ih0 := charref_next.mono_l k
  ·intro y0 y1 y2 y3
   unfold charref_next.j0
   repeat' first
   | (with_reducible exact ih0 _ _ _ _)
   | (with_reducible exact charref_named.mono _ _ _ _)
   | (with_reducible exact charref_numeric.mono _ _ _)
   | (with_reducible exact LeO.refl _)
   | (with_reducible exact LeO.none _)
   | (with_reducible refine LeO.ite ?_ ?_)
   | (with_reducible refine LeO.bind ?_ (fun _ => ?_))
   | exact ih0 _ _ _ _
   | exact charref_named.mono _ _ _ _
   | exact charref_numeric.mono _ _ _
   | exact LeO.none _
   | refine LeO.ite ?_ ?_
   | refine LeO.bind ?_ (fun _ => ?_)
theorem charref_next.mono : ∀ a0 a1 a2 k, LeO (charref_next.f k a0 a1 a2) (charref_next.f (k + 1) a0 a1 a2) := by
 intro a0 a1 a2 k
 have ih0 := charref_next.mono_l k
 unfold charref_next.f
 repeat' first
   | (with_reducible exact ih0 _ _ _ _)
   | (with_reducible exact charref_named.mono _ _ _ _)
   | (with_reducible exact charref_numeric.mono _ _ _)
   | (with_reducible exact LeO.refl _)
   | (with_reducible exact LeO.none _)
   | (with_reducible refine LeO.ite ?_ ?_)
   | (with_reducible refine LeO.bind ?_ (fun _ => ?_))
   | exact ih0 _ _ _ _
   | exact charref_named.mono _ _ _ _
   | exact charref_numeric.mono _ _ _
   | exact LeO.none _
   | refine LeO.ite ?_ ?_
   | refine LeO.bind ?_ (fun _ => ?_)
set_option maxHeartbeats 8000000 in
set_option maxRecDepth 100000 in
theorem charref_next.calls (k : Nat) (a0 : ByteArray) (a1 : Bool) (a2 : Bool) (r1 : ByteArray) (r2 : Int) (r3 : Bool) (w : World) (h : charref_next.f k a0 a1 a2 = some (r1, r2, r3)) :
  Calls Try.prog 27 #[.string a0, .bool a1, .bool a2] w fun e w' => e = .returned (.agg #[.string r1, .int .i64 r2, .bool r3]) ∧ Below w.heap.size w w' := by
 have hu60 := Try.underlying60
 have HB := Aside0.mk (Below.refl w.heap.size w)
 have H : (if a0.toList = ([] : List UInt8) then (charref_next.j0 k a0 a1 a2 false) else (if 0 < (a0.size : Int) then (charref_next.j0 k a0 a1 a2 ((bt a0 0) == 35)) else (none))) = some (r1, r2, r3) := h
 clear h
 have HC4 := Aside0.mk H
 clear H
 go_enter Try.func27, Try.ntmps27
 go_upto_region 1 with (first | ((with_reducible refine gate_dst (N := 6) rfl ?_); refine box_event ?hg (N := 6) ?hd (cs := #[.string (⟨#[]⟩ : ByteArray), .int .i64 0, .bool false]) (t := 60) ?hr ?_; (case hd => rfl); (case hg => rfl); (case hr => first | (go_simp; done) | (go_simp; rfl)); intro gb296 hg w5 hbox hb; have n0_ := Aside0.mk (below_step (by repeat (first | (with_reducible first | exact HB.out | apply below_alloc | apply pw_below_drewN | apply below_drew1) | exact HB.out)) hb); have n1_ := Aside0.mk (hbox); have n2_ := Aside0.mk ((by rw [hg]; exact (below_size (by repeat (first | (with_reducible first | exact HB.out | apply below_alloc | apply pw_below_drewN | apply below_drew1) | exact HB.out))) : w.heap.size ≤ gb296)); have n3_ := Aside0.mk ((by rw [hg]; exact (below_size (by repeat (first | (with_reducible first | exact HB.out | apply below_alloc | apply pw_below_drewN | apply below_drew1) | exact HB.out))) : w.heap.size ≤ gb296)); clear HB; have HB := n0_; have BK296 := n1_; have GW296 := n2_; have GE296 := n3_; clear n0_ n1_ n2_ n3_; clear hb hbox hg))
 (try simp only [Act.put, List.setIfInBounds_toArray, List.set_cons_zero, List.set_cons_succ])
 go_cut [13] (fun v13 wc => ∃ (kq : Nat) (x13_3 : Bool), v13 = .bool x13_3 ∧ Aside0 (charref_next.j0 kq a0 a1 a2 x13_3 = some (r1, r2, r3)) ∧ Aside0 (kq ≤ k) ∧ Aside0 (wc.heap[gb296]? = some (.cells #[.string (⟨#[]⟩ : ByteArray), .int .i64 0, .bool false] 60 (0, 0))) ∧ Aside0 (Below w.heap.size w wc))
 case first =>
  have H := HC4.out
  clear HC4
  by_cases c6 : a0.toList = ([] : List UInt8)
  ·rw [if_pos c6] at H
   have c6b0 : (a0.toList == ([] : List UInt8)) = true := beq_iff_eq.mpr c6
   have c6b1 : (a0.toList != ([] : List UInt8)) = false := bne_eq_false_iff_eq.mpr c6
   clear c6
   (first | rw [c6b0] | (simp only [i64_w, i32_w]; rw [c6b0]) | skip)
   have H' := Aside0.mk H
   clear H
   go_wp2
   go_meet
   case rel => exact ⟨_, (false), (by first | rfl | (simp; done) | (simp [*]; done) | (unfold bt; split <;> first | rfl | (exfalso; simp_all; done) | (exfalso; simp_all; omega))), H', ⟨by first | omega | exact Nat.le_refl _⟩, ⟨by (with_reducible repeat (first | refine blk_drewN ?_ _ | refine blk_drew ?_ | refine blk_alloc ?_ _)); exact BK296.out⟩, ⟨by repeat (first | (with_reducible first | exact HB.out | apply below_alloc | apply pw_below_drewN | apply below_drew1 | refine below_set ?_ GE296.out) | exact HB.out)⟩⟩
  ·rw [if_neg c6] at H
   have c6b0 : (a0.toList == ([] : List UInt8)) = false := beq_eq_false_iff_ne.mpr c6
   have c6b1 : (a0.toList != ([] : List UInt8)) = true := bne_iff_ne.mpr c6
   (first | rw [c6b0] | (simp only [i64_w, i32_w]; rw [c6b0]) | skip)
   by_cases c7 : 0 < (a0.size : Int)
   ·rw [if_pos c7] at H
    have c7b0 : decide (0 < (a0.size : Int)) = true := decide_eq_true c7
    have c7b1 : decide (0 < a0.size) = true := decide_eq_true (by omega)
    clear c7
    have H' := Aside0.mk H
    clear H
    have p8 : 0 ≤ (0 : Int) := (by omega)
    have q8 : 0 < a0.size := (by have : (0 : Int) < (a0.size : Int) := of_decide_eq_true (by first | (with_reducible assumption) | assumption); omega)
    have hx8 : ∀ h : 0 < a0.size, ((a0[0]'h).toNat : Int) = bt a0 0 := bt_at a0 0
    clear p8
    have qi8 : (0 < (a0.size : Int)) = True := eq_true (of_decide_eq_true (by first | (with_reducible assumption) | assumption))
    replace q8 := eq_true q8
    go_wp2
    go_meet
    case rel => exact ⟨_, (((bt a0 0) == 35)), (by first | rfl | (simp; done) | (simp [*]; done) | (unfold bt; split <;> first | rfl | (exfalso; simp_all; done) | (exfalso; simp_all; omega))), H', ⟨by first | omega | exact Nat.le_refl _⟩, ⟨by (with_reducible repeat (first | refine blk_drewN ?_ _ | refine blk_drew ?_ | refine blk_alloc ?_ _)); exact BK296.out⟩, ⟨by repeat (first | (with_reducible first | exact HB.out | apply below_alloc | apply pw_below_drewN | apply below_drew1 | refine below_set ?_ GE296.out) | exact HB.out)⟩⟩
   ·rw [if_neg c7] at H
    exact absurd H (by simp)
 case rest =>
  clear HC4
  try clear c2
  try clear p2
  try clear c6
  try clear c6b0
  try clear c6b1
  try clear c7
  try clear c7b0
  try clear c7b1
  try clear p8
  try clear q8
  try clear hx8
  try clear qi8
  try clear p8
  try clear q8
  obtain ⟨kq, x13_3, rfl, HA, HJ3, BK296, HB⟩ := hcut
  cases kq with
  | zero => exact absurd HA.out (by simp [charref_next.j0])
  | succ kj3 =>
   have H := HA.out
   clear HA
   simp only [charref_next.j0] at H
   by_cases c9 : x13_3 = true
   ·subst c9
    have H1 : ((charref_numeric.f kj3 a0 a2).bind fun bt297 => (some (bt297.1, bt297.2.1, bt297.2.2))) = some (r1, r2, r3) := by rw [if_pos rfl] at H; exact H
    clear H
    have H := H1
    clear H1
    replace H := Option.bind_eq_some_iff.mp H
    obtain ⟨⟨t297, t298, t299⟩, A100, H⟩ := H
    replace H : (some (t297, t298, t299)) = some (r1, r2, r3) := H
    have A10 := Aside0.mk A100
    clear A100
    simp only [Option.some.injEq, Prod.mk.injEq] at H
    obtain ⟨rfl, rfl, rfl⟩ := H
    go_wp2_with (first | ((with_reducible refine gate_callee (f := 43) rfl ?_); refine goesL_ (some 16) rfl rfl Try.func43 (by kernel_rfl) rfl #[.string a0, .bool a2] rfl (by (try simp only [List.map_toArray, List.map_cons, List.map_nil]); first | done | rfl | (simp only [List.length_drop, List.length_take]; rfl) | (simp [*] <;> rfl)) ?_; (with_reducible refine (charref_numeric.calls kj3 a0 a2 t297 t298 t299 _ A10.out).mono ?_); rintro e w11 ⟨rfl, hb⟩; refine ⟨_, rfl, ?_⟩; have n0_ := Aside0.mk (blk_below (g := gb296) (o := .cells #[.string (⟨#[]⟩ : ByteArray), .int .i64 0, .bool false] 60 (0, 0)) (by (with_reducible repeat (first | refine blk_drewN ?_ _ | refine blk_drew ?_ | refine blk_alloc ?_ _)); exact BK296.out) hb); have n1_ := Aside0.mk (below_step (by repeat (first | (with_reducible first | exact HB.out | apply below_alloc | apply pw_below_drewN | apply below_drew1 | refine below_set ?_ GE296.out) | exact HB.out)) hb); clear BK296; clear HB; have BK296 := n0_; have HB := n1_; clear n0_ n1_; (try clear hb); (try clear hb2); (try clear hk); (try clear hi); have hcz12_0 : w11.cell? ⟨gb296, 0, none⟩ = some (.string (⟨#[]⟩ : ByteArray)) := (blk_cell BK296.out 0).trans rfl; have hcz12_1 : w11.cell? ⟨gb296, 1, none⟩ = some (.int .i64 0) := (blk_cell BK296.out 1).trans rfl; have hcz12_2 : w11.cell? ⟨gb296, 2, none⟩ = some (.bool false) := (blk_cell BK296.out 2).trans rfl; have hfz12_0 := blk_frozen BK296.out 0; have hfz12_1 := blk_frozen BK296.out 1; have hfz12_2 := blk_frozen BK296.out 2))
    refine bodyPost_ret (results_cell_row rfl _ _ gb296 60 #[.string t297, .int .i64 t298, .bool t299] (0, 0) _ rfl (by (with_reducible repeat (first | refine blk_drewN ?_ _ | refine blk_drew ?_ | refine blk_alloc ?_ _)); refine blk_put (cs := #[.string t297, .int .i64 t298, .bool false]) ?_ 2 _ rfl; (with_reducible repeat (first | refine blk_drewN ?_ _ | refine blk_drew ?_ | refine blk_alloc ?_ _)); refine blk_put (cs := #[.string t297, .int .i64 0, .bool false]) ?_ 1 _ rfl; (with_reducible repeat (first | refine blk_drewN ?_ _ | refine blk_drew ?_ | refine blk_alloc ?_ _)); refine blk_put (cs := #[.string (⟨#[]⟩ : ByteArray), .int .i64 0, .bool false]) ?_ 0 _ rfl; (with_reducible repeat (first | refine blk_drewN ?_ _ | refine blk_drew ?_ | refine blk_alloc ?_ _)); exact BK296.out) Try.underlying60 rfl (by kernel_rfl)) rfl ?_
    exact ⟨by first | rfl | (simp [errW_none, errW_some] <;> rfl) | (simp [*, errW_none, errW_some] <;> rfl), by repeat (first | (with_reducible first | exact HB.out | apply below_alloc | apply pw_below_drewN | apply below_drew1 | refine below_set ?_ GE296.out) | exact HB.out)⟩
   ·replace c9 := Bool.eq_false_iff.mpr c9
    subst c9
    have H1 : ((charref_named.f kj3 a0 a1 a2).bind fun bt300 => (some (bt300.1, bt300.2.1, bt300.2.2))) = some (r1, r2, r3) := by rw [if_neg (show ¬ (false = true) by decide)] at H; exact H
    clear H
    have H := H1
    clear H1
    replace H := Option.bind_eq_some_iff.mp H
    obtain ⟨⟨t300, t301, t302⟩, A130, H⟩ := H
    replace H : (some (t300, t301, t302)) = some (r1, r2, r3) := H
    have A13 := Aside0.mk A130
    clear A130
    simp only [Option.some.injEq, Prod.mk.injEq] at H
    obtain ⟨rfl, rfl, rfl⟩ := H
    go_wp2_with (first | ((with_reducible refine gate_callee (f := 44) rfl ?_); refine goesL_ (some 20) rfl rfl Try.func44 (by kernel_rfl) rfl #[.string a0, .bool a1, .bool a2] rfl (by (try simp only [List.map_toArray, List.map_cons, List.map_nil]); first | done | rfl | (simp only [List.length_drop, List.length_take]; rfl) | (simp [*] <;> rfl)) ?_; (with_reducible refine (charref_named.calls kj3 a0 a1 a2 t300 t301 t302 _ A13.out).mono ?_); rintro e w14 ⟨rfl, hb⟩; refine ⟨_, rfl, ?_⟩; have n0_ := Aside0.mk (blk_below (g := gb296) (o := .cells #[.string (⟨#[]⟩ : ByteArray), .int .i64 0, .bool false] 60 (0, 0)) (by (with_reducible repeat (first | refine blk_drewN ?_ _ | refine blk_drew ?_ | refine blk_alloc ?_ _)); exact BK296.out) hb); have n1_ := Aside0.mk (below_step (by repeat (first | (with_reducible first | exact HB.out | apply below_alloc | apply pw_below_drewN | apply below_drew1 | refine below_set ?_ GE296.out) | exact HB.out)) hb); clear BK296; clear HB; have BK296 := n0_; have HB := n1_; clear n0_ n1_; (try clear hb); (try clear hb2); (try clear hk); (try clear hi); have hcz15_0 : w14.cell? ⟨gb296, 0, none⟩ = some (.string (⟨#[]⟩ : ByteArray)) := (blk_cell BK296.out 0).trans rfl; have hcz15_1 : w14.cell? ⟨gb296, 1, none⟩ = some (.int .i64 0) := (blk_cell BK296.out 1).trans rfl; have hcz15_2 : w14.cell? ⟨gb296, 2, none⟩ = some (.bool false) := (blk_cell BK296.out 2).trans rfl; have hfz15_0 := blk_frozen BK296.out 0; have hfz15_1 := blk_frozen BK296.out 1; have hfz15_2 := blk_frozen BK296.out 2))
    refine bodyPost_ret (results_cell_row rfl _ _ gb296 60 #[.string t300, .int .i64 t301, .bool t302] (0, 0) _ rfl (by (with_reducible repeat (first | refine blk_drewN ?_ _ | refine blk_drew ?_ | refine blk_alloc ?_ _)); refine blk_put (cs := #[.string t300, .int .i64 t301, .bool false]) ?_ 2 _ rfl; (with_reducible repeat (first | refine blk_drewN ?_ _ | refine blk_drew ?_ | refine blk_alloc ?_ _)); refine blk_put (cs := #[.string t300, .int .i64 0, .bool false]) ?_ 1 _ rfl; (with_reducible repeat (first | refine blk_drewN ?_ _ | refine blk_drew ?_ | refine blk_alloc ?_ _)); refine blk_put (cs := #[.string (⟨#[]⟩ : ByteArray), .int .i64 0, .bool false]) ?_ 0 _ rfl; (with_reducible repeat (first | refine blk_drewN ?_ _ | refine blk_drew ?_ | refine blk_alloc ?_ _)); exact BK296.out) Try.underlying60 rfl (by kernel_rfl)) rfl ?_
    exact ⟨by first | rfl | (simp [errW_none, errW_some] <;> rfl) | (simp [*, errW_none, errW_some] <;> rfl), by repeat (first | (with_reducible first | exact HB.out | apply below_alloc | apply pw_below_drewN | apply below_drew1 | refine below_set ?_ GE296.out) | exact HB.out)⟩

-- NOT PRINTED: function 42 (charref_Decoder_tell)

-- NOT PRINTED: function 23 (charref_Decoder_Feed)

-- NOT PRINTED: function 24 (charref_Decoder_End)

end Go.Proofs.Ytilpbfbnnmclhaa.P
end
section
/-
  charref.next in plain Lean: total on every text that is not too long.
-/
namespace Go.Proofs.Ytilpbfbnnmclhaa.P
open Go.RowKit Go.Proofs.YtilpbfbnnmclhaaW.PrintWords Go.Proofs.YtilpbfbnnmclhaaW.PrintLast Go.Proofs.YtilpbfbnnmclhaaW.PrintMore
set_option linter.unusedVariables false
set_option linter.unusedSimpArgs false

/-- what a numeric reference says -/
def numericP (s : ByteArray) (e : Bool) : ByteArray × Int × Bool :=
  if s.size = 1 then (emp, 0, e)
  else if numAt s = s.size ∧ e = false then (emp, 0, false)
  else if numAt s = numFrom s then (emp, 0, true)
  else (Utf8.encode (numL (numHex s) (s.extract (numFrom s) (numAt s)).data.toList).1, ((if numAt s < s.size ∧ bt s (numAt s : Nat) = 59 then numAt s + 1 else numAt s : Nat) : Int), true)
theorem numeric_f (k : Nat) (s : ByteArray) (e : Bool) (hs : s.size ≤ 35184372088831) (h1 : 1 ≤ s.size) (hk : s.size + 4 ≤ k) : charref_numeric.f k s e = some (numericP s e) := by
  unfold charref_numeric.f numericP
  rw [if_pos ⟨hs, h1⟩]
  by_cases c1 : s.size = 1
  · rw [if_pos c1, if_pos c1]
    rfl
  rw [if_neg c1, if_neg c1]
  by_cases c2 : numAt s = s.size ∧ e = false
  · rw [if_pos c2, if_pos c2]
    rfl
  rw [if_neg c2, if_neg c2]
  by_cases c3 : numAt s = numFrom s
  · rw [if_pos c3, if_pos c3]
    rfl
  rw [if_neg c3, if_neg c3, number_f k _ (by simp; omega) (by simp; omega), Option.bind_some]
def nextP (s : ByteArray) (attr e : Bool) : ByteArray × Int × Bool :=
  if s.data.toList ≠ [] ∧ s.data.toList.getD 0 0 = 35 then numericP s e else namedL s.data.toList attr e
theorem next_f (k : Nat) (s : ByteArray) (attr e : Bool) (hs : s.size ≤ 35184372088831) (hk : s.size + 610 ≤ k) : charref_next.f k s attr e = some (nextP s attr e) := by
  obtain ⟨j, rfl⟩ : ∃ j, k = j + 1 := ⟨k - 1, by omega⟩
  unfold charref_next.f nextP
  have hsl : s.data.toList.length = s.size := by simp
  rw [ByteArray.toList_eq]
  by_cases h0 : s.data.toList = []
  · rw [if_pos h0, if_neg (show ¬ (s.data.toList ≠ [] ∧ _) from fun h => h.1 h0), charref_next.j0, if_neg (by decide), named_f j (by omega), Option.bind_some]
  · have hpos : 0 < s.size := by rw [← hsl]; exact List.length_pos_iff.2 h0
    have hb : bt s 0 = ((s.data.toList.getD 0 0).toNat : Int) := bt_l s 0 hpos
    have hq : ((s.data.toList.getD 0 0).toNat : Int) = 35 ↔ s.data.toList.getD 0 0 = 35 := u8_eq _ 35 (by decide)
    rw [if_neg h0, if_pos (by omega), hb, charref_next.j0]
    by_cases c : s.data.toList.getD 0 0 = 35
    · rw [if_pos (beq_iff_eq.2 (hq.2 c)), if_pos (show s.data.toList ≠ [] ∧ s.data.toList.getD 0 0 = 35 from ⟨h0, c⟩), numeric_f j s e hs (by omega) (by omega), Option.bind_some]
    · rw [if_neg (by rw [beq_iff_eq]; exact fun h => c (hq.1 h)), if_neg (show ¬ (s.data.toList ≠ [] ∧ s.data.toList.getD 0 0 = 35) from fun h => c h.2), named_f j (by omega), Option.bind_some]
end Go.Proofs.Ytilpbfbnnmclhaa.P
end
section
/-
  charref.next over lists of bytes, and that it is the same of a text and of the mended text.
-/
namespace Go.Proofs.Ytilpbfbnnmclhaa.P
open Go.RowKit Go.Proofs.YtilpbfbnnmclhaaW.PrintWords Go.Proofs.YtilpbfbnnmclhaaW.PrintLast Go.Proofs.YtilpbfbnnmclhaaW.PrintMore
set_option linter.unusedVariables false
set_option linter.unusedSimpArgs false

/-! ### numbers -/
def hexL (l : List UInt8) : Bool := decide (l.getD 1 0 = 120) || decide (l.getD 1 0 = 88)
def fromL (l : List UInt8) : Nat := if hexL l = true then 2 else 1
def atL (l : List UInt8) : Nat := fromL l + nDig (hexL l) (l.drop (fromL l))
def numericL (l : List UInt8) (e : Bool) : ByteArray × Int × Bool :=
  if l.length = 1 then (emp, 0, e)
  else if atL l = l.length ∧ e = false then (emp, 0, false)
  else if atL l = fromL l then (emp, 0, true)
  else (Utf8.encode (numL (hexL l) ((l.take (atL l)).drop (fromL l))).1, ((if atL l < l.length ∧ l.getD (atL l) 0 = 59 then atL l + 1 else atL l : Nat) : Int), true)
theorem hexL_eq (s : ByteArray) : numHex s = hexL s.data.toList := by
  unfold numHex hexL
  have hl : s.data.toList.length = s.size := by simp
  by_cases h : 1 < s.size
  · have hb : bt s 1 = ((s.data.toList.getD 1 0).toNat : Int) := bt_l s 1 h
    rw [hb]
    have q1 : ((s.data.toList.getD 1 0).toNat : Int) = 120 ↔ s.data.toList.getD 1 0 = 120 := u8_eq _ 120 (by decide)
    have q2 : ((s.data.toList.getD 1 0).toNat : Int) = 88 ↔ s.data.toList.getD 1 0 = 88 := u8_eq _ 88 (by decide)
    rw [Bool.eq_iff_iff, Bool.or_eq_true, Bool.or_eq_true, beq_iff_eq, beq_iff_eq, decide_eq_true_iff, decide_eq_true_iff, q1, q2]
  · have e0 : bt s 1 = 0 := by
      unfold bt
      rw [dif_neg (by simpa using h)]
    have e1 : s.data.toList.getD 1 0 = 0 := by
      rw [List.getD_eq_getElem?_getD, List.getElem?_eq_none (by omega)]
      rfl
    rw [e0, e1]
    rfl
theorem fromL_eq (s : ByteArray) : numFrom s = fromL s.data.toList := by
  unfold numFrom fromL
  rw [hexL_eq]
theorem atL_eq (s : ByteArray) : numAt s = atL s.data.toList := by
  unfold numAt atL
  rw [hexL_eq, fromL_eq]
theorem numericP_eq (s : ByteArray) (e : Bool) : numericP s e = numericL s.data.toList e := by
  unfold numericP numericL
  have hl : s.data.toList.length = s.size := by simp
  rw [hexL_eq, fromL_eq, atL_eq, hl]
  have hx : (s.extract (fromL s.data.toList) (atL s.data.toList)).data.toList = (s.data.toList.take (atL s.data.toList)).drop (fromL s.data.toList) := by
    rw [← ByteArray.toList_eq, Lib.extract_toList, List.drop_take]
  rw [hx]
  have hs : (atL s.data.toList < s.size ∧ bt s (atL s.data.toList : Nat) = 59) ↔ (atL s.data.toList < s.size ∧ s.data.toList.getD (atL s.data.toList) 0 = 59) := by
    constructor
    · rintro ⟨h, hb⟩
      rw [bt_l s _ h] at hb
      exact ⟨h, (u8_eq _ 59 (by decide)).1 hb⟩
    · rintro ⟨h, hb⟩
      refine ⟨h, ?_⟩
      rw [bt_l s _ h]
      exact (u8_eq _ 59 (by decide)).2 hb
  by_cases c : atL s.data.toList < s.size ∧ s.data.toList.getD (atL s.data.toList) 0 = 59
  · rw [if_pos c, if_pos (hs.2 c)]
  · rw [if_neg c, if_neg (fun d => c (hs.1 d))]
def nextL (l : List UInt8) (attr e : Bool) : ByteArray × Int × Bool :=
  if l ≠ [] ∧ l.getD 0 0 = 35 then numericL l e else namedL l attr e
theorem nextP_eq (s : ByteArray) (attr e : Bool) : nextP s attr e = nextL s.data.toList attr e := by
  unfold nextP nextL
  rw [numericP_eq]

end Go.Proofs.Ytilpbfbnnmclhaa.P
end
section
/-
  The document's answer for character references, in plain Lean: on one text it is the program's.
-/
namespace Go.Proofs.Ytilpbfbnnmclhaa.P
open Go.RowKit Go.Proofs.YtilpbfbnnmclhaaW.PrintWords Go.Proofs.YtilpbfbnnmclhaaW.PrintLast Go.Proofs.YtilpbfbnnmclhaaW.PrintMore
set_option linter.unusedVariables false
set_option linter.unusedSimpArgs false

theorem rprefix_f (a b : ByteArray) : sieveref05_Prefix.f a b = some (b.data.toList.isPrefixOf a.data.toList) := by
  unfold sieveref05_Prefix.f
  have ha : a.data.toList.length = a.size := by simp
  have hb : b.data.toList.length = b.size := by simp
  have e2 : b.toList = b.data.toList := ByteArray.toList_eq b
  by_cases h : b.size ≤ a.size
  · rw [if_pos (by omega), if_pos (by omega), if_pos (by omega)]
    congr 1
    rw [Lib.extract_toList, e2, Bool.eq_iff_iff, beq_iff_eq, prefix_take, hb]
    simp only [Int.toNat_natCast, Nat.sub_zero, List.drop_zero]
    rw [ha]
    exact ⟨fun e => ⟨h, e⟩, fun e => e.2⟩
  · rw [if_neg (by omega)]
    congr 1
    symm
    rw [Bool.eq_false_iff, ne_eq, prefix_take, hb, ha]
    omega
theorem rsays_f (x : Ent) : sieveref05_says.f x.f0 x.f1 x.f2 x.f3 = some (saysE x) := by
  unfold sieveref05_says.f saysE
  split <;> rfl

theorem rbegins_l0 (s : ByteArray) (es : List Ent) (hes : es.length ≤ 100000) : ∀ (d i k : Nat), es.length - i = d → i ≤ es.length → d + 1 ≤ k →
    sieveref05_Begins.l0 k s es (es.length : Int) (i : Int) = some ((es.drop i).any fun x => s.data.toList.isPrefixOf (nameL x))
  | 0, i, k, hd, hi, hk => by
    obtain ⟨k, rfl⟩ : ∃ j, k = j + 1 := ⟨k - 1, by omega⟩
    obtain rfl : i = es.length := by omega
    rw [sieveref05_Begins.l0, if_neg (by omega), List.drop_length]
    rfl
  | d + 1, i, k, hd, hi, hk => by
    obtain ⟨k, rfl⟩ : ∃ j, k = j + 1 := ⟨k - 1, by omega⟩
    have hlt : i < es.length := by omega
    have HW := Aside0.mk (show wrap64 ((i : Int) + 1) = ((i + 1 : Nat) : Int) by unfold wrap64; omega)
    have ih := rbegins_l0 s es hes d (i + 1) k (by omega) (by omega) (by omega)
    rw [List.drop_eq_getElem_cons hlt, List.any_cons]
    rw [sieveref05_Begins.l0, if_pos (by omega), if_pos (by omega), if_pos (by omega), rdT_at es i hlt, HW.out, rprefix_f, Option.bind_some]
    generalize es[i] = x
    by_cases hp : s.data.toList.isPrefixOf x.f0.data.toList = true
    · rw [if_pos hp]
      have : s.data.toList.isPrefixOf (nameL x) = true := hp
      rw [this]
      rfl
    · rw [if_neg hp, ih]
      have : s.data.toList.isPrefixOf (nameL x) = false := Bool.eq_false_iff.2 hp
      rw [this]
      rfl
theorem rbegins_f (s : ByteArray) (k : Nat) (hk : 302 ≤ k) : sieveref05_Begins.f k s = some (begL s.data.toList) := by
  unfold sieveref05_Begins.f
  show sieveref05_Begins.l0 k s ents (ents.length : Int) ((0 : Nat) : Int) = _
  rw [rbegins_l0 s ents (by rw [ents_len]; omega) ents.length 0 k (by omega) (by omega) (by rw [ents_len]; omega)]
  rfl

set_option maxHeartbeats 4000000 in
theorem rlongest_l0 (s : ByteArray) (es : List Ent) (hes : es.length ≤ 100000) (hsm : ∀ x ∈ es, x.f0.size ≤ 100) : ∀ (d i k n : Nat) (out : List Int), es.length - i = d → i ≤ es.length → 2 * d + 1 ≤ k →
    sieveref05_Longest.l0 k s (n : Int) out es (es.length : Int) (i : Int) = some ((((es.drop i).foldl (stepL s.data.toList) (n, out)).1 : Int), ((es.drop i).foldl (stepL s.data.toList) (n, out)).2)
  | 0, i, k, n, out, hd, hi, hk => by
    obtain ⟨k, rfl⟩ : ∃ j, k = j + 1 := ⟨k - 1, by omega⟩
    obtain rfl : i = es.length := by omega
    rw [sieveref05_Longest.l0, if_neg (by omega), List.drop_length]
    rfl
  | d + 1, i, k, n, out, hd, hi, hk => by
    obtain ⟨k, rfl⟩ : ∃ j, k = j + 2 := ⟨k - 2, by omega⟩
    have hlt : i < es.length := by omega
    have HW := Aside0.mk (show wrap64 ((i : Int) + 1) = ((i + 1 : Nat) : Int) by unfold wrap64; omega)
    rw [List.drop_eq_getElem_cons hlt, List.foldl_cons]
    have hx := hsm es[i] (List.getElem_mem hlt)
    generalize hxe : es[i] = x at hx
    have hnl := nameL_len x
    have hsl : s.data.toList.length = s.size := by simp
    have ih1 := fun (n : Nat) (out : List Int) => rlongest_l0 s es hes hsm d (i + 1) (k + 1) n out (by omega) (by omega) (by omega)
    have ih2 := fun (n : Nat) (out : List Int) => rlongest_l0 s es hes hsm d (i + 1) k n out (by omega) (by omega) (by omega)
    rw [sieveref05_Longest.l0, if_pos (by omega), if_pos (by omega), if_pos (by omega), rdT_at es i hlt, hxe, rprefix_f, HW.out]
    rw [Option.bind_some]
    by_cases hp : x.f0.data.toList.isPrefixOf s.data.toList = true
    · rw [if_pos hp]
      have hp' : (nameL x).isPrefixOf s.data.toList = true := hp
      have hle := ((prefix_take _ _).1 hp').1
      have HW2 := Aside0.mk (show wrap64 ((x.f0.size : Int) + 1) = ((x.f0.size + 1 : Nat) : Int) by unfold wrap64; omega)
      have hs : stepL s.data.toList (n, out) x = (if (nameL x).length < s.data.toList.length ∧ s.data.toList.getD (nameL x).length 0 = 59 then (if n < (nameL x).length + 1 then ((nameL x).length + 1, saysE x) else (n, out))
            else if x.f3 = true then (if n < (nameL x).length then ((nameL x).length, saysE x) else (n, out)) else (n, out)) := by
        unfold stepL
        rw [if_pos hp']
      have hj : ∀ b : Bool, b = (x.f3 && decide (n < x.f0.size)) →
          sieveref05_Longest.j1 (k + 1) s (n : Int) out (x.f0.size : Int) es (es.length : Int) (i : Int) b x.f0 x.f1 x.f2 x.f3 =
            some ((((es.drop (i + 1)).foldl (stepL s.data.toList) (stepL s.data.toList (n, out) x)).1 : Int), ((es.drop (i + 1)).foldl (stepL s.data.toList) (stepL s.data.toList (n, out) x)).2) := by
        rintro b hb
        rw [sieveref05_Longest.j1, HW2.out, rsays_f, HW.out, hs]
        by_cases hc1 : x.f0.size < s.size
        · have hc1' : (x.f0.size : Int) < (s.size : Int) := by omega
          have hbt := bt_l s _ hc1
          have hq : ((s.data.toList.getD x.f0.size 0).toNat : Int) = 59 ↔ s.data.toList.getD x.f0.size 0 = 59 := u8_eq (s.data.toList.getD x.f0.size 0) 59 (by decide)
          rw [hbt]
          by_cases hc2 : s.data.toList.getD x.f0.size 0 = 59
          · have hc : (nameL x).length < s.data.toList.length ∧ s.data.toList.getD (nameL x).length 0 = 59 := by rw [hnl, hsl]; exact ⟨hc1, hc2⟩
            rw [if_pos hc]
            cases b with
            | true =>
              have hb2 := (Bool.and_eq_true _ _).mp hb.symm
              have hlt2 : n < x.f0.size := of_decide_eq_true hb2.2
              rw [if_pos rfl, Option.bind_some, if_pos hc1', if_pos (by omega), if_pos (hq.2 hc2), if_pos (by omega), Option.bind_some, ih2, if_pos (by omega), hnl]
            | false =>
              rw [if_neg (by decide), if_pos hc1', if_pos (by omega), if_pos (hq.2 hc2)]
              by_cases hm : n < (nameL x).length + 1
              · rw [if_pos (by omega), Option.bind_some, ih2, if_pos hm, hnl]
              · rw [if_neg (by omega), ih2, if_neg hm]
          · have hc : ¬ ((nameL x).length < s.data.toList.length ∧ s.data.toList.getD (nameL x).length 0 = 59) := by rw [hnl, hsl]; exact fun h => hc2 h.2
            rw [if_neg hc]
            cases b with
            | true =>
              have hb2 := (Bool.and_eq_true _ _).mp hb.symm
              have hlt2 : n < x.f0.size := of_decide_eq_true hb2.2
              rw [if_pos rfl, Option.bind_some, if_pos hc1', if_pos (by omega), if_neg (fun h => hc2 (hq.1 h)), ih2, if_pos hb2.1, if_pos (by omega), hnl]
            | false =>
              rw [if_neg (by decide), if_pos hc1', if_pos (by omega), if_neg (fun h => hc2 (hq.1 h)), ih2]
              by_cases h3 : x.f3 = true
              · rw [if_pos h3]
                have : ¬ n < x.f0.size := fun hl => by rw [h3, decide_eq_true hl] at hb; cases hb
                rw [if_neg (by omega)]
              · rw [if_neg h3]
        · have hc1' : ¬ ((x.f0.size : Int) < (s.size : Int)) := by omega
          have hc : ¬ ((nameL x).length < s.data.toList.length ∧ s.data.toList.getD (nameL x).length 0 = 59) := by rw [hnl, hsl]; exact fun h => hc1 h.1
          rw [if_neg hc]
          cases b with
          | true =>
            have hb2 := (Bool.and_eq_true _ _).mp hb.symm
            have hlt2 : n < x.f0.size := of_decide_eq_true hb2.2
            rw [if_pos rfl, Option.bind_some, if_neg hc1', ih2, if_pos hb2.1, if_pos (by omega), hnl]
          | false =>
            rw [if_neg (by decide), if_neg hc1', ih2]
            by_cases h3 : x.f3 = true
            · rw [if_pos h3]
              have : ¬ n < x.f0.size := fun hl => by rw [h3, decide_eq_true hl] at hb; cases hb
              rw [if_neg (by omega)]
            · rw [if_neg h3]
      by_cases h3 : x.f3 = true
      · rw [if_pos h3]
        exact hj _ (by
          rw [h3, Bool.true_and, decide_eq_decide]
          omega)
      · rw [if_neg h3]
        exact hj _ (by rw [Bool.eq_false_iff.2 h3]; rfl)
    · rw [if_neg hp]
      have hp' : ¬ (nameL x).isPrefixOf s.data.toList = true := hp
      have hstep : stepL s.data.toList (n, out) x = (n, out) := by unfold stepL; rw [if_neg hp']
      rw [hstep, ih1]
theorem rlongest_f (s : ByteArray) (k : Nat) (hk : 603 ≤ k) : sieveref05_Longest.f k s = some (((longL s.data.toList).1 : Int), (longL s.data.toList).2) := by
  unfold sieveref05_Longest.f
  show sieveref05_Longest.l0 k s ((0 : Nat) : Int) [] ents (ents.length : Int) ((0 : Nat) : Int) = _
  rw [rlongest_l0 s ents (by rw [ents_len]; omega) ents_small ents.length 0 k 0 [] (by omega) (by omega) (by rw [ents_len]; omega)]
  rfl

/-! ### numbers -/
theorem rvalue_all : ∀ b : Fin 256, sieveref04_Value.f 9 (wrap32 ((b.val : Nat) : Int)) = some (digV b.val) := by decide +kernel
theorem rvalue_f (k : Nat) (b : UInt8) : sieveref04_Value.f (k + 1) (wrap32 (b.toNat : Int)) = some (digV b.toNat) :=
  (show sieveref04_Value.f (k + 1) (wrap32 (b.toNat : Int)) = sieveref04_Value.f 9 (wrap32 (b.toNat : Int)) from rfl).trans (rvalue_all ⟨b.toNat, UInt8.toNat_lt b⟩)
theorem rdigit_all : ∀ b : Fin 256, sieveref04_Digit.f (wrap32 ((b.val : Nat) : Int)) = some (isDig false (UInt8.ofNat b.val)) := by decide +kernel
theorem rdigit_f (b : UInt8) : sieveref04_Digit.f (wrap32 (b.toNat : Int)) = some (isDig false b) := by
  have := rdigit_all ⟨b.toNat, UInt8.toNat_lt b⟩
  simp only [UInt8.ofNat_toNat] at this
  exact this
theorem rhex_f (k : Nat) (b : UInt8) : sieveref04_Hex.f (k + 1) (wrap32 (b.toNat : Int)) = some (isDig true b) := by
  unfold sieveref04_Hex.f
  rw [rvalue_f, Option.bind_some]
  unfold isDig
  rw [Bool.true_or, Bool.and_true]
theorem rletter_all : ∀ b : Fin 256, ((sieveref04_Letter.f (wrap32 ((b.val : Nat) : Int))).bind fun t => if t = true then some true else sieveref04_Digit.f (wrap32 ((b.val : Nat) : Int))) = some (wordB b.val) := by decide +kernel
theorem digits_l0 (s : ByteArray) (hs : s.size ≤ 35184372088831) (hex : Bool) : ∀ (d i k : Nat), s.size - i = d → i ≤ s.size → d + 2 ≤ k →
    sieveref06_digitsOf.l0 k s hex (i : Int) = some (s.extract 0 (i + nDig hex (s.data.toList.drop i)))
  | 0, i, k, hd, hi, hk => by
    obtain ⟨k, rfl⟩ : ∃ j, k = j + 1 := ⟨k - 1, by omega⟩
    obtain rfl : i = s.size := by omega
    have he : s.data.toList.drop s.size = [] := List.drop_eq_nil_of_le (by simp)
    rw [sieveref06_digitsOf.l0, if_neg (by omega), if_pos (by omega), if_pos (by omega), he, Int.toNat_natCast]
    rfl
  | d + 1, i, k, hd, hi, hk => by
    obtain ⟨k, rfl⟩ : ∃ j, k = j + 2 := ⟨k - 2, by omega⟩
    have hlt : i < s.size := by omega
    have hl : i < s.data.toList.length := by simpa using hlt
    have HW := Aside0.mk (show wrap64 ((i : Int) + 1) = ((i + 1 : Nat) : Int) by unfold wrap64; omega)
    have ih := digits_l0 s hs hex d (i + 1) (k + 1) (by omega) (by omega) (by omega)
    rw [sieveref06_digitsOf.l0, if_pos (by omega), if_pos (by omega), bt_l s i hlt, rdigit_f, Option.bind_some, rhex_f, HW.out, ih, nDig_at s hex i hlt]
    by_cases h10 : isDig false (s.data.toList.getD i 0) = true
    · have : isDig hex (s.data.toList.getD i 0) = true := by
        unfold isDig at h10 ⊢
        rw [Bool.false_or, Bool.and_eq_true] at h10
        rw [h10.1, h10.2, Bool.or_true]
        rfl
      rw [if_pos h10, if_pos this]
    · rw [if_neg h10]
      cases hex with
      | true =>
        rw [if_pos rfl, Option.bind_some]
        by_cases h16 : isDig true (s.data.toList.getD i 0) = true
        · rw [if_pos h16, if_pos h16]
        · rw [if_neg h16, if_neg h16, if_pos (by omega), Int.toNat_natCast]
      | false => rw [if_neg (by decide), if_pos (by omega), if_neg h10, Int.toNat_natCast]
theorem digits_f (k : Nat) (s : ByteArray) (hs : s.size ≤ 35184372088831) (hex : Bool) (hk : s.size + 2 ≤ k) : sieveref06_digitsOf.f k s hex = some (s.extract 0 (nDig hex s.data.toList)) := by
  unfold sieveref06_digitsOf.f
  refine (digits_l0 s hs hex s.size 0 k (by omega) (by omega) (by omega)).trans ?_
  rw [List.drop_zero, Nat.zero_add]

def winR (n : Nat) : Int := ([8364, 0, 8218, 402, 8222, 8230, 8224, 8225, 710, 8240, 352, 8249, 338, 0, 381, 0, 0, 8216, 8217, 8220, 8221, 8226, 8211, 8212, 732, 8482, 353, 8250, 339, 0, 382, 376] : List Int).getD n 0
theorem win_all : ∀ i : Fin 32, sieveref06_Windows.f ((i.val + 128 : Nat) : Int) = some (winR i.val) ∧ (if winR i.val = 0 then (((i.val + 128 : Nat) : Int), true) else (winR i.val, false)) = (winL.getD i.val 0, winL.getD i.val 0 == ((i.val + 128 : Nat) : Int)) := by decide +kernel
theorem number_j3 (k n : Nat) (hn : n ≤ 1114112) (b : Bool) (hb : b = decide (n = 0 ∨ n > 1114111 ∨ (n ≥ 55296 ∧ n ≤ 57343))) : sieveref06_Number.j3 (k + 1) (n : Int) b = some (saysF (n : Int)) := by
  have hc : (n = 0 ∨ n > 1114111 ∨ (n ≥ 55296 ∧ n ≤ 57343)) ↔ ((n : Int) = 0 ∨ (n : Int) > 1114111 ∨ ((n : Int) ≥ 55296 ∧ (n : Int) ≤ 57343)) := by omega
  rw [sieveref06_Number.j3]
  unfold saysF
  by_cases c : n = 0 ∨ n > 1114111 ∨ (n ≥ 55296 ∧ n ≤ 57343)
  · rw [hb, decide_eq_true c, if_pos rfl, if_pos (hc.1 c)]
  · rw [hb, decide_eq_false c, if_neg (by decide), if_neg (fun d => c (hc.2 d)), wrap32_nat _ (by omega)]
    by_cases c1 : n ≥ 128
    · rw [if_pos (by omega)]
      by_cases c2 : n ≤ 159
      · obtain ⟨h1, h2⟩ := win_all ⟨n - 128, by omega⟩
        have e : n - 128 + 128 = n := by omega
        simp only [e] at h1 h2
        rw [if_pos (by omega), h1, Option.bind_some, Option.bind_some, if_pos (show (n : Int) ≥ 128 ∧ (n : Int) ≤ 159 by omega)]
        have e2 : ((n : Int) - 128).toNat = n - 128 := by omega
        rw [e2, ← h2]
        split <;> rfl
      · rw [if_neg (by omega), if_neg (by omega)]
    · rw [if_neg (by omega), if_neg (by omega)]
theorem rstep10 (n v : Nat) (hn : n ≤ 1114112) (hv : v ≤ 15) : (if wrap64 ((wrap64 ((n : Int) * 10)) + (v : Int)) > 1114111 then (1114112 : Int) else wrap64 ((wrap64 ((n : Int) * 10)) + (v : Int))) = ((min (n * 10 + v) 1114112 : Nat) : Int) := by
  have e1 : wrap64 ((n : Int) * 10) = (n : Int) * 10 := by unfold wrap64; omega
  rw [e1]
  have e2 : wrap64 ((n : Int) * 10 + (v : Int)) = (n : Int) * 10 + (v : Int) := by clear e1; unfold wrap64; omega
  rw [e2]
  clear e1 e2
  split <;> omega
theorem rstep16 (n v : Nat) (hn : n ≤ 1114112) (hv : v ≤ 15) : (if wrap64 ((wrap64 ((n : Int) * 16)) + (v : Int)) > 1114111 then (1114112 : Int) else wrap64 ((wrap64 ((n : Int) * 16)) + (v : Int))) = ((min (n * 16 + v) 1114112 : Nat) : Int) := by
  have e1 : wrap64 ((n : Int) * 16) = (n : Int) * 16 := by unfold wrap64; omega
  rw [e1]
  have e2 : wrap64 ((n : Int) * 16 + (v : Int)) = (n : Int) * 16 + (v : Int) := by clear e1; unfold wrap64; omega
  rw [e2]
  clear e1 e2
  split <;> omega
theorem rnumber_l0 (s : ByteArray) (hs : s.size ≤ 35184372088831) (hex : Bool) (base : Nat) (hb : base = if hex = true then 16 else 10) : ∀ (d i k n : Nat), s.size - i = d → i ≤ s.size → n ≤ 1114112 → 2 * d + 3 ≤ k →
    sieveref06_Number.l0 k s (base : Int) (n : Int) (i : Int) =
      some (if (s.data.toList.drop i).all (isDig hex) = true then (if s.data.toList = [] then (65533, false) else saysF (((s.data.toList.drop i).foldl (numStep base) n : Nat) : Int)) else (65533, false))
  | 0, i, k, n, hd, hi, hn, hk => by
    obtain ⟨k, rfl⟩ : ∃ j, k = j + 2 := ⟨k - 2, by omega⟩
    obtain rfl : i = s.size := by omega
    have he : s.data.toList.drop s.size = [] := List.drop_eq_nil_of_le (by simp)
    rw [sieveref06_Number.l0, if_neg (by omega), he, ByteArray.toList_eq]
    simp only [List.all_nil, List.foldl_nil, if_true]
    by_cases h0 : s.data.toList = []
    · rw [if_pos h0, if_pos h0, sieveref06_Number.j3, if_pos rfl]
    rw [if_neg h0, if_neg h0]
    by_cases c1 : n = 0
    · rw [if_pos (by omega)]
      exact number_j3 k n hn _ (by symm; rw [decide_eq_true_iff]; omega)
    rw [if_neg (by omega)]
    by_cases c2 : n > 1114111
    · rw [if_pos (by omega)]
      exact number_j3 k n hn _ (by symm; rw [decide_eq_true_iff]; omega)
    rw [if_neg (by omega)]
    by_cases c3 : n ≥ 55296
    · rw [if_pos (by omega)]
      exact number_j3 k n hn _ (by rw [decide_eq_decide]; omega)
    · rw [if_neg (by omega)]
      exact number_j3 k n hn _ (by symm; rw [decide_eq_false_iff_not]; omega)
  | d + 1, i, k, n, hd, hi, hn, hk => by
    obtain ⟨k, rfl⟩ : ∃ j, k = j + 2 := ⟨k - 2, by omega⟩
    have hlt : i < s.size := by omega
    have hl : i < s.data.toList.length := by simpa using hlt
    have hdr := List.drop_eq_getElem_cons hl
    have hg : s.data.toList.getD i 0 = s.data.toList[i] := by rw [List.getD_eq_getElem?_getD, List.getElem?_eq_getElem hl]; rfl
    have ih := fun (n : Nat) (hn : n ≤ 1114112) => rnumber_l0 s hs hex base hb d (i + 1) k n (by omega) (by omega) hn (by omega)
    rw [hdr, List.all_cons, List.foldl_cons]
    rw [sieveref06_Number.l0, if_pos (by omega), if_pos (by omega), bt_l s i hlt, hg, rvalue_f, Option.bind_some]
    generalize s.data.toList[i] = b
    have hr := digV_range ⟨b.toNat, UInt8.toNat_lt b⟩
    simp only at hr
    have hbase : base = 10 ∨ base = 16 := by subst hb; split <;> simp
    rw [sieveref06_Number.j2, sieveref06_Number.j2]
    by_cases h0 : digV b.toNat < 0
    · have hd0 : isDig hex b = false := by unfold isDig; rw [decide_eq_false (by omega), Bool.false_and]
      rw [if_pos h0, if_pos rfl, hd0, Bool.false_and, if_neg (by decide)]
    rw [if_neg h0]
    by_cases h1 : digV b.toNat ≥ (base : Int)
    · have hd0 : isDig hex b = false := by
        unfold isDig
        cases hex with
        | true => simp at hb; omega
        | false => simp at hb; rw [Bool.false_or, decide_eq_false (by omega : ¬ digV b.toNat < 10), Bool.and_false]
      rw [if_pos (decide_eq_true h1), hd0, Bool.false_and, if_neg (by decide)]
    rw [if_neg (by rw [decide_eq_true_iff]; exact h1)]
    have hd1 : isDig hex b = true := by
      unfold isDig
      rw [decide_eq_true (by omega), Bool.true_and]
      cases hex with
      | true => rfl
      | false => simp at hb; rw [Bool.false_or, decide_eq_true (by omega)]
    have HM := Aside0.mk (show (if wrap64 ((wrap64 ((n : Int) * (base : Int))) + digV b.toNat) > 1114111 then (1114112 : Int) else wrap64 ((wrap64 ((n : Int) * (base : Int))) + digV b.toNat)) = ((numStep base n b : Nat) : Int) by
      obtain ⟨v, hv⟩ : ∃ v : Nat, digV b.toNat = v := ⟨(digV b.toNat).toNat, by omega⟩
      unfold numStep
      rw [hv, Int.toNat_natCast]
      rcases hbase with hb2 | hb2
      · rw [hb2]; exact rstep10 n v hn (by omega)
      · rw [hb2]; exact rstep16 n v hn (by omega))
    have HW := Aside0.mk (show wrap64 ((i : Int) + 1) = ((i + 1 : Nat) : Int) by unfold wrap64; omega)
    rw [HW.out, hd1, Bool.true_and, ← ih (numStep base n b) (by unfold numStep; omega), ← HM.out]
    split <;> rfl
theorem rnumber_f (k : Nat) (s : ByteArray) (hs : s.size ≤ 35184372088831) (hk : 2 * s.size + 4 ≤ k) (hex : Bool) : sieveref06_Number.f k s hex = some (numL hex s.data.toList) := by
  obtain ⟨j, rfl⟩ : ∃ j, k = j + 1 := ⟨k - 1, by omega⟩
  have key : ∀ base : Nat, base = (if hex = true then 16 else 10) → sieveref06_Number.j0 (j + 1) s (base : Int) = some (numL hex s.data.toList) := by
    intro base hb
    rw [sieveref06_Number.j0]
    have := rnumber_l0 s hs hex base hb s.size 0 j 0 (by omega) (by omega) (by omega) (by omega)
    rw [List.drop_zero] at this
    refine Eq.trans this ?_
    unfold numL
    rw [hb]
  unfold sieveref06_Number.f
  cases hex with
  | true => rw [if_pos rfl]; exact key 16 rfl
  | false => rw [if_neg (by decide)]; exact key 10 rfl
end Go.Proofs.Ytilpbfbnnmclhaa.P
end
section
/-
  The document's Next, in plain Lean: on one text it is the program's next.
-/
namespace Go.Proofs.Ytilpbfbnnmclhaa.P
open Go.RowKit Go.Proofs.YtilpbfbnnmclhaaW.PrintWords Go.Proofs.YtilpbfbnnmclhaaW.PrintLast Go.Proofs.YtilpbfbnnmclhaaW.PrintMore
set_option linter.unusedVariables false
set_option linter.unusedSimpArgs false

theorem atL_le (l : List UInt8) (h : fromL l ≤ l.length) : atL l ≤ l.length := by
  unfold atL
  have := nDig_le (hexL l) (l.drop (fromL l))
  rw [List.length_drop] at this
  omega
theorem hexL_len (l : List UInt8) (h : hexL l = true) : 1 < l.length := by
  refine Nat.lt_of_not_le fun hle => ?_
  have : l.getD 1 0 = 0 := by
    rw [List.getD_eq_getElem?_getD, List.getElem?_eq_none hle]
    rfl
  unfold hexL at h
  rw [this] at h
  exact absurd h (by decide)
theorem fromL_le (l : List UInt8) (h : 1 ≤ l.length) : fromL l ≤ l.length := by
  unfold fromL
  by_cases c : hexL l = true
  · rw [if_pos c]
    have := hexL_len l c
    omega
  · rw [if_neg c]
    exact h
theorem fromL_pos (l : List UInt8) : 1 ≤ fromL l ∧ fromL l ≤ 2 := by
  unfold fromL
  split <;> omega
/-- the digits behind the head -/
theorem digs_f (k : Nat) (s : ByteArray) (hs : s.size ≤ 35184372088831) (hk : s.size + 2 ≤ k) :
    sieveref06_digitsOf.f k (s.extract (fromL s.data.toList) s.size) (hexL s.data.toList) = some ((s.extract (fromL s.data.toList) s.size).extract 0 (nDig (hexL s.data.toList) (s.data.toList.drop (fromL s.data.toList)))) := by
  have hz : (s.extract (fromL s.data.toList) s.size).size ≤ s.size := by simp
  rw [digits_f k _ (by omega) _ (by omega)]
  have hx : (s.extract (fromL s.data.toList) s.size).data.toList = s.data.toList.drop (fromL s.data.toList) := by
    rw [← ByteArray.toList_eq, Lib.extract_toList]
    refine List.take_of_length_le ?_
    rw [List.length_drop]
    have : s.data.toList.length = s.size := by simp
    omega
  rw [hx]
def digsL (l : List UInt8) : List UInt8 := (l.take (atL l)).drop (fromL l)
theorem extract_list (s : ByteArray) (a b : Nat) : (s.extract a b).data.toList = (s.data.toList.drop a).take (b - a) := by
  rw [← ByteArray.toList_eq, Lib.extract_toList]
theorem digs_list (s : ByteArray) : ((s.extract (fromL s.data.toList) s.size).extract 0 (nDig (hexL s.data.toList) (s.data.toList.drop (fromL s.data.toList)))).data.toList = digsL s.data.toList := by
  have hl : s.data.toList.length = s.size := by simp
  rw [extract_list, extract_list, List.drop_zero, Nat.sub_zero]
  unfold digsL atL
  rw [List.drop_take, Nat.add_sub_cancel_left, List.take_take]
  congr 1
  have := nDig_le (hexL s.data.toList) (s.data.toList.drop (fromL s.data.toList))
  rw [List.length_drop, hl] at this
  omega
theorem digs_size (s : ByteArray) : (((s.extract (fromL s.data.toList) s.size).extract 0 (nDig (hexL s.data.toList) (s.data.toList.drop (fromL s.data.toList)))).size : Nat) = nDig (hexL s.data.toList) (s.data.toList.drop (fromL s.data.toList)) := by
  have hl : s.data.toList.length = s.size := by simp
  have := nDig_le (hexL s.data.toList) (s.data.toList.drop (fromL s.data.toList))
  rw [List.length_drop, hl] at this
  simp only [ByteArray.size_extract]
  omega
theorem hex88 (s : ByteArray) (h : 1 < s.size) : (if bt s 1 = 120 then true else (bt s 1 == 88)) = hexL s.data.toList := by
  rw [← hexL_eq]
  unfold numHex
  by_cases c : bt s 1 = 120
  · rw [if_pos c, beq_iff_eq.2 c]
    rfl
  · rw [if_neg c, beq_eq_false_iff_ne.2 c]
    rfl
theorem hex_short (s : ByteArray) (h : ¬ 1 < s.size) : hexL s.data.toList = false := by
  refine Bool.eq_false_iff.2 fun c => ?_
  have := hexL_len _ c
  simp at this
  exact h this

theorem rwhole_j2 (k : Nat) (s : ByteArray) (hs : s.size ≤ 35184372088831) (h1 : 1 ≤ s.size) (hk : 2 * s.size + 6 ≤ k) :
    sieveref06_Whole.j2 (k + 1) s (fromL s.data.toList : Nat) (hexL s.data.toList) = some ((numericL s.data.toList true).1, (numericL s.data.toList true).2.1) := by
  have hl : s.data.toList.length = s.size := by simp
  have hf := fromL_le s.data.toList (by omega)
  have hfp := fromL_pos s.data.toList
  have ha := atL_le s.data.toList hf
  rw [hl] at hf ha
  have hD := digs_list s
  have hZ := digs_size s
  rw [sieveref06_Whole.j2, if_pos (by omega), if_pos (by omega), Int.toNat_natCast, digs_f k s hs (by omega), Option.bind_some, ByteArray.toList_eq]
  have hat : fromL s.data.toList + nDig (hexL s.data.toList) (s.data.toList.drop (fromL s.data.toList)) = atL s.data.toList := rfl
  generalize hd : (s.extract (fromL s.data.toList) s.size).extract 0 (nDig (hexL s.data.toList) (s.data.toList.drop (fromL s.data.toList))) = d at *
  have hdz : d.data.toList.length = d.size := by simp
  have hsum : (fromL s.data.toList : Int) + (d.size : Int) = (atL s.data.toList : Int) := by rw [hZ]; omega
  have HW := Aside0.mk (show wrap64 ((fromL s.data.toList : Int) + (d.size : Int)) = (atL s.data.toList : Int) by rw [hsum]; clear hsum; unfold wrap64; omega)
  have HW1 := Aside0.mk (show wrap64 ((atL s.data.toList : Int) + 1) = ((atL s.data.toList + 1 : Nat) : Int) by clear hsum; unfold wrap64; omega)
  unfold numericL
  rw [hl]
  by_cases c0 : s.size = 1
  · have hd0 : d.data.toList = [] := by
      refine List.eq_nil_of_length_eq_zero ?_
      omega
    rw [if_pos c0, if_pos hd0]
    rfl
  rw [if_neg c0, if_neg (show ¬ (atL s.data.toList = s.size ∧ true = false) from fun h => absurd h.2 (by decide))]
  by_cases c1 : atL s.data.toList = fromL s.data.toList
  · have hd0 : d.data.toList = [] := by
      refine List.eq_nil_of_length_eq_zero ?_
      omega
    rw [if_pos c1, if_pos hd0]
    rfl
  have hd0 : ¬ d.data.toList = [] := by
    intro e
    have := congrArg List.length e
    rw [hdz, List.length_nil] at this
    omega
  rw [if_neg c1, if_neg hd0, HW.out, HW1.out]
  have hnum : sieveref06_Number.f k d (hexL s.data.toList) = some (numL (hexL s.data.toList) (digsL s.data.toList)) := by
    rw [rnumber_f k d (by omega) (by omega), hD]
  by_cases c2 : atL s.data.toList < s.size
  · have hb := bt_l s _ c2
    have hq : ((s.data.toList.getD (atL s.data.toList) 0).toNat : Int) = 59 ↔ s.data.toList.getD (atL s.data.toList) 0 = 59 := u8_eq _ 59 (by decide)
    rw [if_pos (show (atL s.data.toList : Int) < (s.size : Int) by omega), if_pos (show (0 : Int) ≤ (atL s.data.toList : Int) by omega), hb]
    by_cases c3 : s.data.toList.getD (atL s.data.toList) 0 = 59
    · rw [if_pos (hq.2 c3), hnum, Option.bind_some, if_pos (show atL s.data.toList < s.size ∧ s.data.toList.getD (atL s.data.toList) 0 = 59 from ⟨c2, c3⟩)]
      rfl
    · rw [if_neg (fun h => c3 (hq.1 h)), hnum, Option.bind_some, if_neg (show ¬ (atL s.data.toList < s.size ∧ s.data.toList.getD (atL s.data.toList) 0 = 59) from fun h => c3 h.2)]
      rfl
  · rw [if_neg (show ¬ (atL s.data.toList : Int) < (s.size : Int) by omega), hnum, Option.bind_some, if_neg (show ¬ (atL s.data.toList < s.size ∧ s.data.toList.getD (atL s.data.toList) 0 = 59) from fun h => c2 h.1)]
    rfl
theorem rwhole_f (k : Nat) (s : ByteArray) (attr : Bool) (hs : s.size ≤ 35184372088831) (hk : 2 * s.size + 620 ≤ k) :
    sieveref06_Whole.f k s attr = some ((nextL s.data.toList attr true).1, (nextL s.data.toList attr true).2.1) := by
  obtain ⟨j, rfl⟩ : ∃ j, k = j + 3 := ⟨k - 3, by omega⟩
  have hl : s.data.toList.length = s.size := by simp
  have num : ∀ x : Bool, 1 ≤ s.size → x = true → sieveref06_Whole.j0 (j + 3) s attr x = some ((numericL s.data.toList true).1, (numericL s.data.toList true).2.1) := by
    intro x h1 hx
    have key := rwhole_j2 j s hs h1 (by omega)
    have j1 : ∀ b : Bool, b = hexL s.data.toList → sieveref06_Whole.j1 (j + 2) s 1 b = some ((numericL s.data.toList true).1, (numericL s.data.toList true).2.1) := by
      intro b hb
      rw [sieveref06_Whole.j1, ← key, hb]
      unfold fromL
      by_cases c : hexL s.data.toList = true
      · rw [if_pos c, if_pos c]
        rfl
      · rw [if_neg c, if_neg c]
        rfl
    rw [sieveref06_Whole.j0, if_pos hx]
    by_cases c : 1 < s.size
    · have h88 := hex88 s c
      rw [if_pos (show (s.size : Int) > 1 by omega), if_pos (show (1 : Int) < (s.size : Int) by omega)]
      by_cases c2 : bt s 1 = 120
      · rw [if_pos c2] at h88 ⊢
        exact j1 _ h88
      · rw [if_neg c2] at h88 ⊢
        exact j1 _ h88
    · rw [if_neg (show ¬ (s.size : Int) > 1 by omega)]
      exact j1 _ (hex_short s c).symm
  have nam : ∀ x : Bool, x = false → sieveref06_Whole.j0 (j + 3) s attr x = some ((namedL s.data.toList attr true).1, (namedL s.data.toList attr true).2.1) := by
    intro x hx
    have hle := longL_le s.data.toList
    have hsm := longL_small s.data.toList
    rw [hl] at hle
    rw [sieveref06_Whole.j0, hx, if_neg (by decide), rlongest_f s (j + 2) (by omega), Option.bind_some]
    unfold namedL
    rw [if_neg (show ¬ (true = false ∧ begL s.data.toList = true) from fun h => absurd h.1 (by decide)), hl]
    generalize longL s.data.toList = q at hle hsm
    obtain ⟨n, o⟩ := q
    simp only at hle hsm ⊢
    by_cases c0 : n = 0
    · rw [if_pos (show (n : Int) = 0 by omega), if_pos c0]
      rfl
    rw [if_neg (show ¬ (n : Int) = 0 by omega), if_neg c0]
    by_cases ha : attr = true
    · have HW := Aside0.mk (show wrap64 ((n : Int) - 1) = ((n - 1 : Nat) : Int) by unfold wrap64; omega)
      have hq : ((s.data.toList.getD (n - 1) 0).toNat : Int) = 59 ↔ s.data.toList.getD (n - 1) 0 = 59 := u8_eq (s.data.toList.getD (n - 1) 0) 59 (by decide)
      rw [if_pos ha, HW.out, if_pos (by omega), if_pos (by omega), bt_l s (n - 1) (by omega)]
      by_cases h59 : s.data.toList.getD (n - 1) 0 = 59
      · rw [if_pos (hq.2 h59), if_neg (show ¬ (attr = true ∧ s.data.toList.getD (n - 1) 0 ≠ 59) from fun h => h.2 h59)]
      rw [if_neg (fun h => h59 (hq.1 h)), if_pos (show attr = true ∧ s.data.toList.getD (n - 1) 0 ≠ 59 from ⟨ha, h59⟩)]
      by_cases c1 : n = s.size
      · rw [if_neg (show ¬ (n : Int) < (s.size : Int) by omega), if_pos c1, if_pos trivial]
      rw [if_pos (show (n : Int) < (s.size : Int) by omega), if_pos (show (0 : Int) ≤ (n : Int) by omega), if_neg c1, bt_l s n (by omega)]
      have hq2 : ((s.data.toList.getD n 0).toNat : Int) = 61 ↔ s.data.toList.getD n 0 = 61 := u8_eq (s.data.toList.getD n 0) 61 (by decide)
      have hw := rletter_all ⟨_, UInt8.toNat_lt (s.data.toList.getD n 0)⟩
      simp only at hw
      obtain ⟨t, ht, hw⟩ := Option.bind_eq_some_iff.1 hw
      by_cases c2 : s.data.toList.getD n 0 = 61
      · rw [if_pos (hq2.2 c2)]
        have : wordB (s.data.toList.getD n 0).toNat = false := by rw [c2]; decide
        rw [this, if_neg (by decide), if_pos c2]
        rfl
      rw [if_neg (fun h => c2 (hq2.1 h)), ht, Option.bind_some]
      by_cases c3 : t = true
      · rw [if_pos c3] at hw ⊢
        rw [← Option.some.inj hw, if_pos rfl]
        rfl
      · rw [if_neg c3] at hw ⊢
        rw [hw, Option.bind_some]
        by_cases c4 : wordB (s.data.toList.getD n 0).toNat = true
        · rw [if_pos c4, if_pos c4]
          rfl
        · rw [if_neg c4, if_neg c4, if_neg c2]
    · rw [if_neg ha, if_neg (show ¬ (attr = true ∧ s.data.toList.getD (n - 1) 0 ≠ 59) from fun h => ha h.1)]
  unfold sieveref06_Whole.f nextL
  rw [ByteArray.toList_eq]
  by_cases h0 : s.data.toList = []
  · rw [if_pos h0, if_neg (show ¬ (s.data.toList ≠ [] ∧ _) from fun h => h.1 h0)]
    exact nam false rfl
  · have hpos : 0 < s.size := by rw [← hl]; exact List.length_pos_iff.2 h0
    have hb : bt s 0 = ((s.data.toList.getD 0 0).toNat : Int) := bt_l s 0 hpos
    have hq : ((s.data.toList.getD 0 0).toNat : Int) = 35 ↔ s.data.toList.getD 0 0 = 35 := u8_eq _ 35 (by decide)
    rw [if_neg h0, if_pos (by omega), hb]
    by_cases c : s.data.toList.getD 0 0 = 35
    · rw [if_pos (show s.data.toList ≠ [] ∧ s.data.toList.getD 0 0 = 35 from ⟨h0, c⟩)]
      exact num _ hpos (beq_iff_eq.2 (hq.2 c))
    · rw [if_neg (show ¬ (s.data.toList ≠ [] ∧ s.data.toList.getD 0 0 = 35) from fun h => c h.2)]
      exact nam _ (beq_eq_false_iff_ne.2 fun h => c (hq.1 h))

/-- sure, of a beginning -/
def sureL (l : List UInt8) (attr : Bool) : Bool := (nextL l attr false).2.2
theorem rsure_f (k : Nat) (s : ByteArray) (attr : Bool) (hs : s.size ≤ 35184372088831) (hk : s.size + 620 ≤ k) : sieveref06_Sure.f k s attr = some (sureL s.data.toList attr) := by
  obtain ⟨j, rfl⟩ : ∃ j, k = j + 1 := ⟨k - 1, by omega⟩
  have hl : s.data.toList.length = s.size := by simp
  have num : ∀ x : Bool, 1 ≤ s.size → x = true → sieveref06_Sure.j0 (j + 1) s attr x = some (numericL s.data.toList false).2.2 := by
    intro x h1 hx
    have hf := fromL_le s.data.toList (by omega)
    have hfp := fromL_pos s.data.toList
    have ha := atL_le s.data.toList hf
    rw [hl] at hf ha
    have hZ := digs_size s
    have hD := digs_f j s hs (by omega)
    have hat : fromL s.data.toList + nDig (hexL s.data.toList) (s.data.toList.drop (fromL s.data.toList)) = atL s.data.toList := rfl
    generalize (s.extract (fromL s.data.toList) s.size).extract 0 (nDig (hexL s.data.toList) (s.data.toList.drop (fromL s.data.toList))) = d at *
    have hsum : (fromL s.data.toList : Int) + (d.size : Int) = (atL s.data.toList : Int) := by rw [hZ]; omega
    have HW := Aside0.mk (show wrap64 ((fromL s.data.toList : Int) + (d.size : Int)) = (atL s.data.toList : Int) by rw [hsum]; clear hsum; unfold wrap64; omega)
    have hres : (numericL s.data.toList false).2.2 = decide ((atL s.data.toList : Int) < (s.size : Int)) := by
      unfold numericL
      rw [hl]
      by_cases c0 : s.size = 1
      · rw [if_pos c0]
        symm
        rw [decide_eq_false_iff_not]
        omega
      rw [if_neg c0]
      by_cases c1 : atL s.data.toList = s.size
      · rw [if_pos (show atL s.data.toList = s.size ∧ false = false from ⟨c1, rfl⟩)]
        symm
        rw [decide_eq_false_iff_not]
        omega
      rw [if_neg (show ¬ (atL s.data.toList = s.size ∧ false = false) from fun h => c1 h.1)]
      have ht : decide ((atL s.data.toList : Int) < (s.size : Int)) = true := by rw [decide_eq_true_iff]; omega
      rw [ht]
      split <;> rfl
    rw [hres]
    rw [sieveref06_Sure.j0, if_pos hx]
    by_cases c : 1 < s.size
    · have h88 := hex88 s c
      rw [if_pos (show (s.size : Int) > 1 by omega), if_pos (show (1 : Int) < (s.size : Int) by omega)]
      by_cases c2 : bt s 1 = 120
      · rw [if_pos c2] at h88
        have hf2 : fromL s.data.toList = 2 := by unfold fromL; rw [← h88, if_pos rfl]
        rw [if_pos c2, if_pos (show (2 : Int) ≤ (s.size : Int) by omega)]
        rw [← h88, hf2] at hD
        rw [hf2] at HW
        rw [hD, Option.bind_some]
        refine congrArg some ?_
        have := HW.out
        rw [← this]
        rfl
      · rw [if_neg c2] at h88
        rw [if_neg c2]
        by_cases c3 : bt s 1 = 88
        · have hf2 : fromL s.data.toList = 2 := by unfold fromL; rw [← h88, beq_iff_eq.2 c3, if_pos rfl]
          rw [if_pos c3, if_pos (show (2 : Int) ≤ (s.size : Int) by omega)]
          rw [← h88, hf2] at hD
          rw [hf2] at HW
          rw [hD, Option.bind_some]
          refine congrArg some ?_
          have := HW.out
          rw [← this]
          rfl
        · have hf1 : fromL s.data.toList = 1 := by unfold fromL; rw [← h88, beq_eq_false_iff_ne.2 c3, if_neg (by decide)]
          rw [if_neg c3, if_pos (show (1 : Int) ≤ (s.size : Int) by omega)]
          rw [← h88, hf1] at hD
          rw [hf1] at HW
          rw [hD, Option.bind_some]
          refine congrArg some ?_
          have := HW.out
          rw [← this]
          rfl
    · have hh := hex_short s c
      have hf1 : fromL s.data.toList = 1 := by unfold fromL; rw [hh, if_neg (by decide)]
      rw [if_neg (show ¬ (s.size : Int) > 1 by omega), if_pos (show (1 : Int) ≤ (s.size : Int) by omega)]
      rw [hh, hf1] at hD
      rw [hf1] at HW
      rw [hD, Option.bind_some]
      refine congrArg some ?_
      have := HW.out
      rw [← this]
      rfl
  have nam : ∀ x : Bool, x = false → sieveref06_Sure.j0 (j + 1) s attr x = some (namedL s.data.toList attr false).2.2 := by
    intro x hx
    have hle := longL_le s.data.toList
    have hsm := longL_small s.data.toList
    rw [hl] at hle
    rw [sieveref06_Sure.j0, hx, if_neg (by decide), rbegins_f s j (by omega), Option.bind_some]
    unfold namedL
    by_cases cb : begL s.data.toList = true
    · rw [if_pos cb, if_pos (show false = false ∧ begL s.data.toList = true from ⟨rfl, cb⟩)]
    rw [if_neg cb, if_neg (show ¬ (false = false ∧ begL s.data.toList = true) from fun h => cb h.2), rlongest_f s j (by omega), Option.bind_some, hl]
    generalize longL s.data.toList = q at hle hsm
    obtain ⟨n, o⟩ := q
    simp only at hle hsm ⊢
    by_cases ha : attr = true
    · rw [if_pos ha]
      by_cases c0 : n = 0
      · rw [if_pos (show (n : Int) = 0 by omega), if_pos c0]
      rw [if_neg (show ¬ (n : Int) = 0 by omega), if_neg c0]
      by_cases c1 : n = s.size
      · have HW := Aside0.mk (show wrap64 ((n : Int) - 1) = ((n - 1 : Nat) : Int) by unfold wrap64; omega)
        have hq : ((s.data.toList.getD (n - 1) 0).toNat : Int) = 59 ↔ s.data.toList.getD (n - 1) 0 = 59 := u8_eq (s.data.toList.getD (n - 1) 0) 59 (by decide)
        rw [if_neg (show ¬ (n : Int) < (s.size : Int) by omega), HW.out, if_pos (by omega), if_pos (by omega), bt_l s (n - 1) (by omega)]
        by_cases h59 : s.data.toList.getD (n - 1) 0 = 59
        · rw [if_neg (show ¬ (attr = true ∧ s.data.toList.getD (n - 1) 0 ≠ 59) from fun h => h.2 h59), beq_iff_eq.2 (hq.2 h59)]
        · rw [if_pos (show attr = true ∧ s.data.toList.getD (n - 1) 0 ≠ 59 from ⟨ha, h59⟩), if_pos c1, if_neg (by decide), beq_eq_false_iff_ne.2 (fun h => h59 (hq.1 h))]
      · rw [if_pos (show (n : Int) < (s.size : Int) by omega)]
        by_cases h59 : attr = true ∧ s.data.toList.getD (n - 1) 0 ≠ 59
        · rw [if_pos h59, if_neg c1]
          split
          · rfl
          · split <;> rfl
        · rw [if_neg h59]
    · rw [if_neg ha, if_neg (show ¬ (attr = true ∧ s.data.toList.getD (n - 1) 0 ≠ 59) from fun h => ha h.1)]
      split <;> rfl
  unfold sieveref06_Sure.f sureL nextL
  rw [ByteArray.toList_eq]
  by_cases h0 : s.data.toList = []
  · rw [if_pos h0, if_neg (show ¬ (s.data.toList ≠ [] ∧ _) from fun h => h.1 h0)]
    exact nam false rfl
  · have hpos : 0 < s.size := by rw [← hl]; exact List.length_pos_iff.2 h0
    have hb : bt s 0 = ((s.data.toList.getD 0 0).toNat : Int) := bt_l s 0 hpos
    have hq : ((s.data.toList.getD 0 0).toNat : Int) = 35 ↔ s.data.toList.getD 0 0 = 35 := u8_eq _ 35 (by decide)
    rw [if_neg h0, if_pos (by omega), hb]
    by_cases c : s.data.toList.getD 0 0 = 35
    · rw [if_pos (show s.data.toList ≠ [] ∧ s.data.toList.getD 0 0 = 35 from ⟨h0, c⟩)]
      exact num _ hpos (beq_iff_eq.2 (hq.2 c))
    · rw [if_neg (show ¬ (s.data.toList ≠ [] ∧ s.data.toList.getD 0 0 = 35) from fun h => c h.2)]
      exact nam _ (beq_eq_false_iff_ne.2 fun h => c (hq.1 h))

/-! ### what is sure of a beginning is what it is at the end -/
theorem numericL_end (l : List UInt8) : (numericL l true).2.2 = true := by
  unfold numericL
  split
  · rfl
  · rw [if_neg (show ¬ (atL l = l.length ∧ true = false) from fun h => absurd h.2 (by decide))]
    split <;> rfl
theorem namedL_end (l : List UInt8) (attr : Bool) : (namedL l attr true).2.2 = true := by
  unfold namedL
  rw [if_neg (show ¬ (true = false ∧ begL l = true) from fun h => absurd h.1 (by decide))]
  split
  · rfl
  · split
    · split
      · rfl
      · split
        · rfl
        · split <;> rfl
    · rfl
theorem nextL_end (l : List UInt8) (attr : Bool) : (nextL l attr true).2.2 = true := by
  unfold nextL
  split
  · exact numericL_end l
  · exact namedL_end l attr
theorem numericL_sure (l : List UInt8) : numericL l false = if (numericL l false).2.2 = true then numericL l true else (emp, 0, false) := by
  unfold numericL
  by_cases c0 : l.length = 1
  · rw [if_pos c0, if_pos c0]
    rfl
  rw [if_neg c0, if_neg c0]
  by_cases c1 : atL l = l.length
  · rw [if_pos (show atL l = l.length ∧ false = false from ⟨c1, rfl⟩)]
    rfl
  rw [if_neg (show ¬ (atL l = l.length ∧ false = false) from fun h => c1 h.1), if_neg (show ¬ (atL l = l.length ∧ true = false) from fun h => c1 h.1)]
  split <;> rfl
theorem namedL_sure (l : List UInt8) (attr : Bool) : namedL l attr false = if (namedL l attr false).2.2 = true then namedL l attr true else (emp, 0, false) := by
  unfold namedL
  rw [if_neg (show ¬ (true = false ∧ begL l = true) from fun h => absurd h.1 (by decide))]
  by_cases cb : begL l = true
  · rw [if_pos (show false = false ∧ begL l = true from ⟨rfl, cb⟩)]
    rfl
  rw [if_neg (show ¬ (false = false ∧ begL l = true) from fun h => cb h.2)]
  by_cases c0 : (longL l).1 = 0
  · rw [if_pos c0, if_pos c0]
    rfl
  rw [if_neg c0, if_neg c0]
  by_cases c1 : attr = true ∧ l.getD ((longL l).1 - 1) 0 ≠ 59
  · rw [if_pos c1, if_pos c1]
    by_cases c2 : (longL l).1 = l.length
    · rw [if_pos c2, if_pos c2]
      rfl
    · rw [if_neg c2, if_neg c2]
      split
      · rfl
      · split <;> rfl
  · rw [if_neg c1, if_neg c1]
    rfl
theorem nextL_sure (l : List UInt8) (attr : Bool) : nextL l attr false = if sureL l attr = true then nextL l attr true else (emp, 0, false) := by
  unfold sureL nextL
  split
  · exact numericL_sure l
  · exact namedL_sure l attr
end Go.Proofs.Ytilpbfbnnmclhaa.P
end
section
/-
  What is sure stays, whatever follows: charref.next in plain Lean.
-/
namespace Go.Proofs.Ytilpbfbnnmclhaa.P
open Go.RowKit Go.Proofs.YtilpbfbnnmclhaaW.PrintWords Go.Proofs.YtilpbfbnnmclhaaW.PrintLast Go.Proofs.YtilpbfbnnmclhaaW.PrintMore
set_option linter.unusedVariables false
set_option linter.unusedSimpArgs false

theorem getD_app (l t : List UInt8) (i : Nat) (h : i < l.length) : (l ++ t).getD i 0 = l.getD i 0 := by
  rw [List.getD_eq_getElem?_getD, List.getD_eq_getElem?_getD, List.getElem?_append_left h]
theorem isPrefix_app (p l t : List UInt8) (h : p.length ≤ l.length) : p.isPrefixOf (l ++ t) = p.isPrefixOf l := by
  rw [Bool.eq_iff_iff, prefix_take, prefix_take, List.take_append_of_le_length h, List.length_append]
  constructor
  · exact fun e => ⟨h, e.2⟩
  · exact fun e => ⟨by omega, e.2⟩
/-- no name begins with l: so names see l alone -/
theorem stepL_app (l t : List UInt8) (x : Ent) (hb : l.isPrefixOf (nameL x) = false) (acc : Nat × List Int) : stepL (l ++ t) acc x = stepL l acc x := by
  have hlen : ∀ (h : (nameL x).isPrefixOf (l ++ t) = true), (nameL x).length < l.length := by
    intro h
    refine Nat.lt_of_not_le fun hle => ?_
    have h2 := (prefix_take _ _).1 h
    have : l.isPrefixOf (nameL x) = true := by
      rw [prefix_take]
      refine ⟨hle, ?_⟩
      have e := congrArg (List.take l.length) h2.2
      rw [List.take_take, Nat.min_eq_left hle, List.take_append_of_le_length (Nat.le_refl _), List.take_length] at e
      exact e.symm
    rw [hb] at this
    cases this
  unfold stepL
  by_cases hp : (nameL x).isPrefixOf (l ++ t) = true
  · have hl := hlen hp
    have hp2 : (nameL x).isPrefixOf l = true := by rw [← isPrefix_app _ _ t (by omega)]; exact hp
    rw [if_pos hp, if_pos hp2, getD_app _ _ _ hl]
    have e : ((nameL x).length < (l ++ t).length ∧ l.getD (nameL x).length 0 = 59) ↔ ((nameL x).length < l.length ∧ l.getD (nameL x).length 0 = 59) := by
      rw [List.length_append]
      exact ⟨fun h => ⟨hl, h.2⟩, fun h => ⟨by omega, h.2⟩⟩
    by_cases c : (nameL x).length < l.length ∧ l.getD (nameL x).length 0 = 59
    · rw [if_pos c, if_pos (e.2 c)]
    · rw [if_neg c, if_neg (fun d => c (e.1 d))]
  · have hp2 : ¬ (nameL x).isPrefixOf l = true := by
      intro h
      have h2 := (prefix_take _ _).1 h
      exact hp (by rw [isPrefix_app _ _ t h2.1]; exact h)
    rw [if_neg hp, if_neg hp2]
theorem foldL_app (l t : List UInt8) : ∀ (es : List Ent), (∀ x ∈ es, l.isPrefixOf (nameL x) = false) → ∀ acc : Nat × List Int, es.foldl (stepL (l ++ t)) acc = es.foldl (stepL l) acc
  | [], _, acc => rfl
  | x :: r, h, acc => by
    rw [List.foldl_cons, List.foldl_cons, stepL_app l t x (h x List.mem_cons_self), foldL_app l t r (fun y hy => h y (List.mem_cons_of_mem _ hy))]
theorem begL_none {l : List UInt8} (h : begL l = false) : ∀ x ∈ ents, l.isPrefixOf (nameL x) = false := by
  intro x hx
  unfold begL at h
  rw [List.any_eq_false] at h
  exact Bool.eq_false_iff.2 (h x hx)
theorem longL_app {l : List UInt8} (t : List UInt8) (h : begL l = false) : longL (l ++ t) = longL l := foldL_app l t ents (begL_none h) (0, [])
theorem isPrefix_more (l t p : List UInt8) (h : (l ++ t).isPrefixOf p = true) : l.isPrefixOf p = true := by
  rw [List.isPrefixOf_iff_prefix] at h ⊢
  exact (List.prefix_append l t).trans h
theorem begL_app {l : List UInt8} (t : List UInt8) (h : begL l = false) : begL (l ++ t) = false := by
  refine Bool.eq_false_iff.2 fun hb => ?_
  unfold begL at hb
  rw [List.any_eq_true] at hb
  obtain ⟨x, hx, hp⟩ := hb
  have := begL_none h x hx
  rw [isPrefix_more l t _ hp] at this
  cases this
theorem namedL_app (l t : List UInt8) (attr e : Bool) (h : (namedL l attr false).2.2 = true) : namedL (l ++ t) attr e = namedL l attr true := by
  have hb : begL l = false := by
    refine Bool.eq_false_iff.2 fun hb => ?_
    unfold namedL at h
    rw [if_pos (show false = false ∧ begL l = true from ⟨rfl, hb⟩)] at h
    cases h
  have hle := longL_le l
  unfold namedL at h ⊢
  rw [longL_app t hb, begL_app t hb, hb]
  rw [hb] at h
  rw [if_neg (show ¬ (e = false ∧ false = true) from fun d => by cases d.2), if_neg (show ¬ (true = false ∧ false = true) from fun d => by cases d.2)]
  rw [if_neg (show ¬ (false = false ∧ false = true) from fun d => by cases d.2)] at h
  generalize longL l = q at hle h ⊢
  obtain ⟨n, o⟩ := q
  simp only at hle h ⊢
  by_cases c0 : n = 0
  · rw [if_pos c0, if_pos c0]
  rw [if_neg c0, if_neg c0, getD_app l t _ (by omega)]
  rw [if_neg c0] at h
  by_cases c1 : attr = true ∧ l.getD (n - 1) 0 ≠ 59
  · rw [if_pos c1, if_pos c1]
    rw [if_pos c1] at h
    have c2 : ¬ n = l.length := by
      intro d
      rw [if_pos d] at h
      cases h
    rw [if_neg c2, if_neg (show ¬ n = (l ++ t).length by rw [List.length_append]; omega), getD_app l t _ (by omega)]
  · rw [if_neg c1, if_neg c1]
theorem nDig_app (hex : Bool) : ∀ (l t : List UInt8), nDig hex l < l.length → nDig hex (l ++ t) = nDig hex l
  | [], t, h => absurd h (Nat.not_lt_zero _)
  | b :: l, t, h => by
    rw [List.cons_append]
    unfold nDig at h ⊢
    by_cases c : isDig hex b = true
    · rw [if_pos c] at h ⊢
      rw [if_pos c, nDig_app hex l t (by simpa using h)]
    · rw [if_neg c, if_neg c]
theorem numericL_app (l t : List UInt8) (e : Bool) (h0 : l ≠ []) (h : (numericL l false).2.2 = true) : numericL (l ++ t) e = numericL l true := by
  have hl0 : 0 < l.length := List.length_pos_iff.2 h0
  have c0 : ¬ l.length = 1 := by
    intro d
    unfold numericL at h
    rw [if_pos d] at h
    cases h
  have c1 : ¬ atL l = l.length := by
    intro d
    unfold numericL at h
    rw [if_neg c0, if_pos (show atL l = l.length ∧ false = false from ⟨d, rfl⟩)] at h
    cases h
  have hf := fromL_le l (by omega)
  have ha := atL_le l hf
  have hh : hexL (l ++ t) = hexL l := by
    unfold hexL
    rw [getD_app l t 1 (by omega)]
  have hfr : fromL (l ++ t) = fromL l := by unfold fromL; rw [hh]
  have hat : atL (l ++ t) = atL l := by
    unfold atL
    rw [hh, hfr, List.drop_append_of_le_length hf, nDig_app]
    rw [List.length_drop]
    have : fromL l + nDig (hexL l) (l.drop (fromL l)) = atL l := rfl
    omega
  unfold numericL
  rw [hh, hfr, hat, getD_app l t _ (by omega), List.length_append, List.take_append_of_le_length ha]
  rw [if_neg (by omega), if_neg c0, if_neg (show ¬ (atL l = l.length + t.length ∧ e = false) from fun d => by omega), if_neg (show ¬ (atL l = l.length ∧ true = false) from fun d => c1 d.1)]
  by_cases c2 : atL l = fromL l
  · rw [if_pos c2, if_pos c2]
  rw [if_neg c2, if_neg c2]
  by_cases c3 : atL l < l.length ∧ l.getD (atL l) 0 = 59
  · rw [if_pos c3, if_pos (show atL l < l.length + t.length ∧ l.getD (atL l) 0 = 59 from ⟨by omega, c3.2⟩)]
  · rw [if_neg c3, if_neg (show ¬ (atL l < l.length + t.length ∧ l.getD (atL l) 0 = 59) from fun d => c3 ⟨by omega, d.2⟩)]
theorem begL_nil : begL [] = true := by decide +kernel
theorem nextL_app (l t : List UInt8) (attr e : Bool) (h : sureL l attr = true) : nextL (l ++ t) attr e = nextL l attr true := by
  unfold sureL nextL at h
  unfold nextL
  by_cases h0 : l = []
  · subst h0
    rw [if_neg (show ¬ (([] : List UInt8) ≠ [] ∧ _) from fun d => d.1 rfl)] at h
    unfold namedL at h
    rw [begL_nil, if_pos (show false = false ∧ true = true from ⟨rfl, rfl⟩)] at h
    cases h
  have hl0 : 0 < l.length := List.length_pos_iff.2 h0
  rw [getD_app l t 0 hl0]
  by_cases c : l.getD 0 0 = 35
  · rw [if_pos (show l ≠ [] ∧ l.getD 0 0 = 35 from ⟨h0, c⟩)] at h
    rw [if_pos (show l ++ t ≠ [] ∧ l.getD 0 0 = 35 from ⟨by simp [h0], c⟩), if_pos (show l ≠ [] ∧ l.getD 0 0 = 35 from ⟨h0, c⟩)]
    exact numericL_app l t e h0 h
  · rw [if_neg (show ¬ (l ≠ [] ∧ l.getD 0 0 = 35) from fun d => c d.2)] at h
    rw [if_neg (show ¬ (l ++ t ≠ [] ∧ l.getD 0 0 = 35) from fun d => c d.2), if_neg (show ¬ (l ≠ [] ∧ l.getD 0 0 = 35) from fun d => c d.2)]
    exact namedL_app l t attr e h

/-! ### sizes -/
theorem nextL_size (l : List UInt8) (attr e : Bool) : 0 ≤ (nextL l attr e).2.1 ∧ (nextL l attr e).2.1 ≤ (l.length : Int) := by
  have hn : 0 ≤ (namedL l attr e).2.1 ∧ (namedL l attr e).2.1 ≤ (l.length : Int) := by
    have hle := longL_le l
    unfold namedL
    generalize longL l = q at hle
    obtain ⟨n, o⟩ := q
    simp only at hle ⊢
    split
    · exact ⟨Int.le_refl _, by simp only; omega⟩
    · split
      · exact ⟨Int.le_refl _, by simp only; omega⟩
      · split
        · split
          · split
            · exact ⟨by simp only; omega, by simp only; omega⟩
            · exact ⟨Int.le_refl _, by simp only; omega⟩
          · split
            · exact ⟨Int.le_refl _, by simp only; omega⟩
            · split
              · exact ⟨Int.le_refl _, by simp only; omega⟩
              · exact ⟨by simp only; omega, by simp only; omega⟩
        · exact ⟨by simp only; omega, by simp only; omega⟩
  unfold nextL
  by_cases c : l ≠ [] ∧ l.getD 0 0 = 35
  · rw [if_pos c]
    have hl0 : 0 < l.length := List.length_pos_iff.2 c.1
    have ha := atL_le l (fromL_le l (by omega))
    unfold numericL
    split
    · exact ⟨Int.le_refl _, by simp only; omega⟩
    · split
      · exact ⟨Int.le_refl _, by simp only; omega⟩
      · split
        · exact ⟨Int.le_refl _, by simp only; omega⟩
        · by_cases d : atL l < l.length ∧ l.getD (atL l) 0 = 59
          · rw [if_pos d]
            exact ⟨by simp only; omega, by simp only; omega⟩
          · rw [if_neg d]
            exact ⟨by simp only; omega, by simp only; omega⟩
  · rw [if_neg c]
    exact hn
theorem nextL_is (l : List UInt8) (attr : Bool) (h : sureL l attr = true) : nextL l attr false = nextL l attr true := by
  rw [nextL_sure, if_pos h]
end Go.Proofs.Ytilpbfbnnmclhaa.P
end
section
/-
  Valid texts in plain Lean: runes of a text of good runes; what may be cut off a valid text.
-/
set_option linter.unusedVariables false
set_option linter.unusedSimpArgs false
namespace Go.Proofs.Ytilpbfbnnmclhaa.P
open Go.Lib

theorem u8n (z : Nat) (h : z < 256) : (((z : Int)).toNat.toUInt8).toNat = z := by
  rw [Int.toNat_natCast]
  have : (z.toUInt8).toNat = z % 256 := by simp
  omega
theorem rdL_encode (r : Nat) (hg : r < 55296 ∨ (57344 ≤ r ∧ r ≤ 1114111)) (t : List UInt8) : rdL (encodeRune ((r : Nat) : Int) ++ t) = (r, (encodeRune ((r : Nat) : Int)).length, 0) := by
  by_cases c1 : r < 128
  · have e : encodeRune ((r : Nat) : Int) = [(((r : Nat) : Int)).toNat.toUInt8] := by
      simp only [encodeRune]
      rw [encodeRuneZ_one (by omega) (by omega)]
      rfl
    rw [e, List.singleton_append, rdL_ascii _ _ (by rw [u8n r (by omega)]; omega), u8n r (by omega)]
    rfl
  by_cases c2 : r < 2048
  · have e : encodeRune ((r : Nat) : Int) = [(((192 + r / 64 : Nat) : Int)).toNat.toUInt8, (((128 + r % 64 : Nat) : Int)).toNat.toUInt8] := by
      simp only [encodeRune]
      rw [encodeRuneZ_two (by omega) (by omega)]
      simp only [List.map_cons, List.map_nil]
      rw [show (192 : Int) + (r : Int) / 64 = ((192 + r / 64 : Nat) : Int) by omega, show (128 : Int) + (r : Int) % 64 = ((128 + r % 64 : Nat) : Int) by omega]
    rw [e]
    unfold rdL
    simp only [List.cons_append, List.nil_append, List.getD_cons_zero, List.getD_cons_succ, List.length_cons, List.length_nil]
    rw [u8n _ (by omega), u8n _ (by omega)]
    unfold rdN
    rw [if_neg (by omega), if_neg (by omega), if_pos (by omega), if_neg (by omega), if_neg (by omega)]
    congr 1
    omega
  by_cases c3 : r < 65536
  · have e : encodeRune ((r : Nat) : Int) = [(((224 + r / 4096 : Nat) : Int)).toNat.toUInt8, (((128 + r / 64 % 64 : Nat) : Int)).toNat.toUInt8, (((128 + r % 64 : Nat) : Int)).toNat.toUInt8] := by
      simp only [encodeRune]
      rw [encodeRuneZ_three (by omega)]
      simp only [List.map_cons, List.map_nil]
      rw [show (224 : Int) + (r : Int) / 4096 = ((224 + r / 4096 : Nat) : Int) by omega, show (128 : Int) + (r : Int) / 64 % 64 = ((128 + r / 64 % 64 : Nat) : Int) by omega, show (128 : Int) + (r : Int) % 64 = ((128 + r % 64 : Nat) : Int) by omega]
    rw [e]
    unfold rdL
    simp only [List.cons_append, List.nil_append, List.getD_cons_zero, List.getD_cons_succ, List.length_cons, List.length_nil]
    rw [u8n _ (by omega), u8n _ (by omega), u8n _ (by omega)]
    unfold rdN
    rw [if_neg (by omega), if_neg (by omega), if_neg (by omega), if_pos (by omega), if_neg (by omega), if_neg (by omega), if_neg (by omega), if_neg (by omega)]
    congr 1
    omega
  · have e : encodeRune ((r : Nat) : Int) = [(((240 + r / 262144 : Nat) : Int)).toNat.toUInt8, (((128 + r / 4096 % 64 : Nat) : Int)).toNat.toUInt8, (((128 + r / 64 % 64 : Nat) : Int)).toNat.toUInt8, (((128 + r % 64 : Nat) : Int)).toNat.toUInt8] := by
      simp only [encodeRune]
      rw [encodeRuneZ_four (by omega) (by omega)]
      simp only [List.map_cons, List.map_nil]
      rw [show (240 : Int) + (r : Int) / 262144 = ((240 + r / 262144 : Nat) : Int) by omega, show (128 : Int) + (r : Int) / 4096 % 64 = ((128 + r / 4096 % 64 : Nat) : Int) by omega, show (128 : Int) + (r : Int) / 64 % 64 = ((128 + r / 64 % 64 : Nat) : Int) by omega, show (128 : Int) + (r : Int) % 64 = ((128 + r % 64 : Nat) : Int) by omega]
    rw [e]
    unfold rdL
    simp only [List.cons_append, List.nil_append, List.getD_cons_zero, List.getD_cons_succ, List.length_cons, List.length_nil]
    rw [u8n _ (by omega), u8n _ (by omega), u8n _ (by omega), u8n _ (by omega)]
    unfold rdN
    rw [if_neg (by omega), if_neg (by omega), if_neg (by omega), if_neg (by omega), if_pos (by omega), if_neg (by omega), if_neg (by omega), if_neg (by omega), if_neg (by omega), if_neg (by omega), if_neg (by omega)]
    congr 1
    omega
theorem encode_ne (r : Int) : encodeRune r ≠ [] := by
  intro h
  have := (encodeRuneZ_length r).1
  have h2 := congrArg List.length h
  unfold encodeRune at h2
  rw [List.length_map, List.length_nil] at h2
  omega
def goodsR (rs : List Int) : Prop := ∀ r ∈ rs, goodR r
theorem runes_good : ∀ (n : Nat) (l : List UInt8), l.length ≤ n → goodsR (runes l)
  | 0, l, h => by
    obtain rfl : l = [] := List.eq_nil_of_length_eq_zero (by omega)
    intro r hr
    rw [runes_nil] at hr
    cases hr
  | n + 1, l, h => by
    by_cases hne : l = []
    · subst hne
      intro r hr
      rw [runes_nil] at hr
      cases hr
    · have hf := rdL_facts l hne
      have hl : 0 < l.length := List.length_pos_iff.2 hne
      rw [runes_step l hne]
      intro r hr
      rcases List.mem_cons.1 hr with rfl | hr
      · have := hf.2.2.2.2.1
        unfold goodR
        omega
      · exact runes_good n (l.drop (rdL l).2.1) (by rw [List.length_drop]; have := hf.1; omega) r hr
theorem runes_encode (r : Int) (hg : goodR r) (t : List UInt8) : runes (encodeRune r ++ t) = r :: runes t := by
  obtain ⟨n, rfl⟩ : ∃ n : Nat, r = n := ⟨r.toNat, by unfold goodR at hg; omega⟩
  have h := rdL_encode n (by unfold goodR at hg; omega) t
  rw [runes_step _ (by simp [encode_ne]), h]
  simp only
  rw [List.drop_append_of_le_length (Nat.le_refl _), List.drop_length, List.nil_append]
theorem runes_text : ∀ rs : List Int, goodsR rs → runes (text rs) = rs
  | [], _ => rfl
  | r :: t, h => by
    rw [text_cons, runes_encode r (h r List.mem_cons_self), runes_text t (fun x hx => h x (List.mem_cons_of_mem _ hx))]
theorem valid_encode (r : Int) (hg : goodR r) (t : List UInt8) : valid (encodeRune r ++ t) = valid t := by
  obtain ⟨n, rfl⟩ : ∃ n : Nat, r = n := ⟨r.toNat, by unfold goodR at hg; omega⟩
  have h := rdL_encode n (by unfold goodR at hg; omega) t
  rw [valid_step _ (by simp [encode_ne]), h]
  simp only
  rw [if_pos trivial, List.drop_append_of_le_length (Nat.le_refl _), List.drop_length, List.nil_append]
theorem valid_text : ∀ rs : List Int, goodsR rs → valid (text rs) = true
  | [], _ => rfl
  | r :: t, h => by rw [text_cons, valid_encode r (h r List.mem_cons_self), valid_text t (fun x hx => h x (List.mem_cons_of_mem _ hx))]
theorem text_runes : ∀ (n : Nat) (l : List UInt8), l.length ≤ n → valid l = true → text (runes l) = l
  | 0, l, h, _ => by
    obtain rfl : l = [] := List.eq_nil_of_length_eq_zero (by omega)
    rfl
  | n + 1, l, h, hv => by
    by_cases hne : l = []
    · subst hne
      rfl
    · have hf := rdL_facts l hne
      have hl : 0 < l.length := List.length_pos_iff.2 hne
      rw [valid_step l hne] at hv
      by_cases h0 : (rdL l).2.2 = 0
      · rw [if_pos h0] at hv
        rw [runes_step l hne, text_cons, text_runes n (l.drop (rdL l).2.1) (by rw [List.length_drop]; have := hf.1; omega) hv]
        exact (rdL_whole l h0 hne).symm
      · rw [if_neg h0] at hv
        cases hv
theorem mendL_valid (l : List UInt8) : valid (mendL l) = true := valid_text _ (runes_good _ l (Nat.le_refl _))
theorem mendL_runes (l : List UInt8) : runes (mendL l) = runes l := runes_text _ (runes_good _ l (Nat.le_refl _))
theorem mendL_of_valid (l : List UInt8) (h : valid l = true) : mendL l = l := text_runes _ l (Nat.le_refl _) h
theorem valid_append : ∀ (n : Nat) (a b : List UInt8), a.length ≤ n → valid a = true → valid b = true → valid (a ++ b) = true := by
  intro n a b _ ha hb
  rw [← mendL_of_valid a ha]
  unfold mendL
  have : ∀ rs : List Int, goodsR rs → valid (text rs ++ b) = true := by
    intro rs
    induction rs with
    | nil => intro _; exact hb
    | cons r t ih =>
      intro hg
      rw [text_cons, List.append_assoc, valid_encode r (hg r List.mem_cons_self)]
      exact ih (fun x hx => hg x (List.mem_cons_of_mem _ hx))
  exact this _ (runes_good _ a (Nat.le_refl _))
/-- a byte below 128 begins a character: behind any such place a valid text is valid -/
theorem encode_tail_high (r : Int) (i : Nat) (h0 : 0 < i) (hi : i < (encodeRune r).length) : 128 ≤ ((encodeRune r).getD i 0).toNat := by
  have hu : ∀ z : Int, 128 ≤ z → z < 256 → 128 ≤ (z.toNat.toUInt8).toNat := by
    intro z h1 h2
    have : (z.toNat.toUInt8).toNat = z.toNat % 256 := by simp
    omega
  have key : ∀ z : List Int, (∀ j, 0 < j → j < z.length → 128 ≤ z.getD j 0 ∧ z.getD j 0 < 256) → ∀ i, 0 < i → i < (z.map fun x : Int => x.toNat.toUInt8).length → 128 ≤ ((z.map fun x : Int => x.toNat.toUInt8).getD i 0).toNat := by
    intro z hz i h0 hi
    rw [List.length_map] at hi
    have := hz i h0 hi
    rw [List.getD_eq_getElem?_getD, List.getElem?_eq_getElem hi] at this
    rw [List.getD_eq_getElem?_getD, List.getElem?_map, List.getElem?_eq_getElem hi]
    exact hu _ this.1 this.2
  unfold encodeRune at hi ⊢
  refine key _ ?_ i h0 hi
  intro j j0 j1
  by_cases c1 : 0 ≤ r ∧ r ≤ 127
  · rw [encodeRuneZ_one c1.1 c1.2] at j1
    simp at j1
    omega
  by_cases c2 : 128 ≤ r ∧ r ≤ 2047
  · rw [encodeRuneZ_two c2.1 c2.2] at j1 ⊢
    simp at j1
    obtain rfl : j = 1 := by omega
    simp
    omega
  by_cases c3 : (2048 ≤ r ∧ r < 55296) ∨ (57343 < r ∧ r ≤ 65535)
  · rw [encodeRuneZ_three c3] at j1 ⊢
    simp at j1
    rcases (show j = 1 ∨ j = 2 by omega) with rfl | rfl <;> simp <;> omega
  by_cases c4 : 65536 ≤ r ∧ r ≤ 1114111
  · rw [encodeRuneZ_four c4.1 c4.2] at j1 ⊢
    simp at j1
    rcases (show j = 1 ∨ j = 2 ∨ j = 3 by omega) with rfl | rfl | rfl <;> simp <;> omega
  · rw [encodeRuneZ_bad (by omega)] at j1 ⊢
    simp at j1
    rcases (show j = 1 ∨ j = 2 by omega) with rfl | rfl <;> simp
theorem valid_drop (i : Nat) : ∀ (rs : List Int), goodsR rs → ∀ i, i < (text rs).length → ((text rs).getD i 0).toNat < 128 → valid ((text rs).drop i) = true
  | [], _, i, h, _ => absurd h (Nat.not_lt_zero _)
  | r :: t, hg, i, h, hb => by
    rw [text_cons] at h hb ⊢
    have hgt : goodsR t := fun x hx => hg x (List.mem_cons_of_mem _ hx)
    by_cases c0 : i = 0
    · subst c0
      rw [List.drop_zero, valid_encode r (hg r List.mem_cons_self)]
      exact valid_text t hgt
    by_cases c : i < (encodeRune r).length
    · exfalso
      have := encode_tail_high r i (by omega) c
      rw [List.getD_eq_getElem?_getD, List.getElem?_append_left c, ← List.getD_eq_getElem?_getD] at hb
      omega
    · rw [List.drop_append, List.drop_eq_nil_of_le (by omega), List.nil_append]
      rw [List.length_append] at h
      rw [List.getD_eq_getElem?_getD, List.getElem?_append_right (by omega), ← List.getD_eq_getElem?_getD] at hb
      exact valid_drop 0 t hgt (i - (encodeRune r).length) (by omega) hb
theorem valid_drop_at (l : List UInt8) (hv : valid l = true) (i : Nat) (h : i < l.length) (hb : (l.getD i 0).toNat < 128) : valid (l.drop i) = true := by
  have e := mendL_of_valid l hv
  unfold mendL at e
  have := valid_drop 0 (runes l) (runes_good _ l (Nat.le_refl _)) i
  rw [e] at this
  exact this h hb
end Go.Proofs.Ytilpbfbnnmclhaa.P
end
