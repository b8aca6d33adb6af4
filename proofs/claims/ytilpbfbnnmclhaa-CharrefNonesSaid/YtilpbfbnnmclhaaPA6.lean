-- PRINTED by this session's wip/xprint.py over the kit's print.py. Not trusted: Lean checks it.
import Derived.Test.YtilpbfbnnmclhaaPA0
import Derived.Test.YtilpbfbnnmclhaaPA1
import Derived.Test.YtilpbfbnnmclhaaHent
import Derived.Test.YtilpbfbnnmclhaaHsays
import Derived.Test.YtilpbfbnnmclhaaHconv
namespace Go.Proofs.Ytilpbfbnnmclhaa.P
open Go.RowKit Go.Proofs.YtilpbfbnnmclhaaW.PrintWords Go.Proofs.YtilpbfbnnmclhaaW.PrintLast Go.Proofs.YtilpbfbnnmclhaaW.PrintMore
attribute [local go_sem] max2_int min2_int max_two min_two max_three min_three max_four min_four   -- for this text's walks alone
set_option linter.unusedVariables false
set_option linter.unusedSimpArgs false

/-! ### charref_Number: function 61 -/
mutual
def charref_Number.j0 : Nat → ByteArray → Int → Option (Int × Bool)
  | 0, _, _ => none
  | k + 1, x0, x6 => charref_Number.l0 k x0 x6 0 (x0.toList != ([] : List UInt8)) (x0.size : Int) 0
def charref_Number.l0 : Nat → ByteArray → Int → Int → Bool → Int → Int → Option (Int × Bool)
  | 0, _, _, _, _, _, _ => none
  | k + 1, x0, x6, x7, x8, x15, x16 => if x16 < x15 then (if 0 ≤ x16 then (if x16 < (x0.size : Int) then ((names_Value.f k (wrap32 (bt x0 x16))).bind fun t197 => (if t197 < 0 then (some (65533, false)) else (if t197 ≥ x6 then (some (65533, false)) else (charref_Number.l0 k x0 x6 (mn (wrap64 ((wrap64 (x7 * x6)) + t197)) 1114112) x8 x15 (wrap64 (x16 + 1)))))) else (none)) else (none)) else (if x8 = true then ((charref_says.f x7).bind fun bt198 => (some (bt198.1, bt198.2))) else (some (65533, false)))
end
def charref_Number.f (k : Nat) (a0 : ByteArray) (a1 : Bool) : Option (Int × Bool) := if a1 = true then (charref_Number.j0 k a0 16) else (charref_Number.j0 k a0 10)
theorem charref_Number.mono_l : ∀ k, (∀ y0 y1, LeO (charref_Number.j0 k y0 y1) (charref_Number.j0 (k + 1) y0 y1)) ∧ (∀ y0 y1 y2 y3 y4 y5, LeO (charref_Number.l0 k y0 y1 y2 y3 y4 y5) (charref_Number.l0 (k + 1) y0 y1 y2 y3 y4 y5))
  | 0 => ⟨fun _ _ r h => by simp [charref_Number.j0] at h, fun _ _ _ _ _ _ r h => by simp [charref_Number.l0] at h⟩
  | k + 1 => by
    obtain ⟨ih0, ih1⟩ := charref_Number.mono_l k
    refine ⟨?_, ?_⟩
    · intro y0 y1
      unfold charref_Number.j0
      repeat' first
      | (with_reducible exact ih0 _ _)
      | (with_reducible exact ih1 _ _ _ _ _ _)
      | (with_reducible exact names_Value.mono _ _)
      | (with_reducible exact LeO.refl _)
      | (with_reducible exact LeO.none _)
      | (with_reducible refine LeO.ite ?_ ?_)
      | (with_reducible refine LeO.bind ?_ (fun _ => ?_))
      | exact ih0 _ _
      | exact ih1 _ _ _ _ _ _
      | exact names_Value.mono _ _
      | exact LeO.none _
      | refine LeO.ite ?_ ?_
      | refine LeO.bind ?_ (fun _ => ?_)
    · intro y0 y1 y2 y3 y4 y5
      unfold charref_Number.l0
      repeat' first
      | (with_reducible exact ih0 _ _)
      | (with_reducible exact ih1 _ _ _ _ _ _)
      | (with_reducible exact names_Value.mono _ _)
      | (with_reducible exact LeO.refl _)
      | (with_reducible exact LeO.none _)
      | (with_reducible refine LeO.ite ?_ ?_)
      | (with_reducible refine LeO.bind ?_ (fun _ => ?_))
      | exact ih0 _ _
      | exact ih1 _ _ _ _ _ _
      | exact names_Value.mono _ _
      | exact LeO.none _
      | refine LeO.ite ?_ ?_
      | refine LeO.bind ?_ (fun _ => ?_)
theorem charref_Number.mono : ∀ a0 a1 k, LeO (charref_Number.f k a0 a1) (charref_Number.f (k + 1) a0 a1) := by
  intro a0 a1 k
  obtain ⟨ih0, ih1⟩ := charref_Number.mono_l k
  unfold charref_Number.f
  repeat' first
      | (with_reducible exact ih0 _ _)
      | (with_reducible exact ih1 _ _ _ _ _ _)
      | (with_reducible exact names_Value.mono _ _)
      | (with_reducible exact LeO.refl _)
      | (with_reducible exact LeO.none _)
      | (with_reducible refine LeO.ite ?_ ?_)
      | (with_reducible refine LeO.bind ?_ (fun _ => ?_))
      | exact ih0 _ _
      | exact ih1 _ _ _ _ _ _
      | exact names_Value.mono _ _
      | exact LeO.none _
      | refine LeO.ite ?_ ?_
      | refine LeO.bind ?_ (fun _ => ?_)
set_option maxHeartbeats 8000000 in
set_option maxRecDepth 100000 in
theorem charref_Number.calls (k : Nat) (a0 : ByteArray) (a1 : Bool) (r1 : Int) (r2 : Bool) (w : World) (h : charref_Number.f k a0 a1 = some (r1, r2)) :
    Calls Try.prog 61 #[.string a0, .bool a1] w fun e w' => e = .returned (.tuple #[.int .i32 r1, .bool r2]) ∧ Below w.heap.size w w' := by
  have HB := Aside0.mk (Below.refl w.heap.size w)
  have H : (if a1 = true then (charref_Number.j0 k a0 16) else (charref_Number.j0 k a0 10)) = some (r1, r2) := h
  clear h
  have HC3 := Aside0.mk H
  clear H
  go_enter Try.func61, Try.ntmps61
  go_upto_if 11 with (fail)
  go_cut [6] (fun v6 wc => ∃ (kq : Nat) (x6_2 : Int), v6 = .int .i64 x6_2 ∧ Aside0 (charref_Number.j0 kq a0 x6_2 = some (r1, r2)) ∧ Aside0 (kq ≤ k) ∧ Aside0 (Below w.heap.size w wc))
  case first =>
    have H := HC3.out
    clear HC3
    by_cases c4 : a1 = true
    · subst c4
      have H1 : (charref_Number.j0 k a0 16) = some (r1, r2) := by rw [if_pos rfl] at H; exact H
      clear H
      have H := H1
      clear H1
      have H' := Aside0.mk H
      clear H
      go_wp2
      go_meet
      case rel => exact ⟨_, (16), (by first | rfl | (simp; done) | (simp [*]; done) | (unfold bt; split <;> first | rfl | (exfalso; simp_all; done) | (exfalso; simp_all; omega))), H', ⟨by first | omega | exact Nat.le_refl _⟩, ⟨by repeat (first | (with_reducible first | exact HB.out | apply below_alloc | apply pw_below_drewN | apply below_drew1) | exact HB.out)⟩⟩
    · replace c4 := Bool.eq_false_iff.mpr c4
      subst c4
      have H1 : (charref_Number.j0 k a0 10) = some (r1, r2) := by rw [if_neg (show ¬ (false = true) by decide)] at H; exact H
      clear H
      have H := H1
      clear H1
      have H' := Aside0.mk H
      clear H
      go_wp2
      go_meet
      case rel => exact ⟨_, (10), (by first | rfl | (simp; done) | (simp [*]; done) | (unfold bt; split <;> first | rfl | (exfalso; simp_all; done) | (exfalso; simp_all; omega))), H', ⟨by first | omega | exact Nat.le_refl _⟩, ⟨by repeat (first | (with_reducible first | exact HB.out | apply below_alloc | apply pw_below_drewN | apply below_drew1) | exact HB.out)⟩⟩
  case rest =>
    clear HC3
    try clear p2
    try clear c4
    obtain ⟨kq, x6_2, rfl, HA, HJ2, HB⟩ := hcut
    cases kq with
    | zero => exact absurd HA.out (by simp [charref_Number.j0])
    | succ kj2 =>
      have H := HA.out
      clear HA
      simp only [charref_Number.j0] at H
      have H' := Aside0.mk H
      clear H
      go_wp2
      go_loopg [7, 16] kj2 (fun kq v7 v16 w' => ∃ (x7_2 : Int) (x16_2 : Int), v7 = .int .i64 x7_2 ∧ v16 = .int .i64 x16_2 ∧ Aside0 (charref_Number.l0 kq a0 x6_2 x7_2 (a0.toList != ([] : List UInt8)) (a0.size : Int) x16_2 = some (r1, r2)) ∧ Aside0 (kq ≤ kj2) ∧ Aside0 (Below w.heap.size w w'))
      case atStart => exact ⟨(0), (0), (by first | rfl | (simp; done) | (simp [*]; done) | (unfold bt; split <;> first | rfl | (exfalso; simp_all; done) | (exfalso; simp_all; omega))), (by first | rfl | (simp; done) | (simp [*]; done) | (unfold bt; split <;> first | rfl | (exfalso; simp_all; done) | (exfalso; simp_all; omega))), H', ⟨Nat.le_refl _⟩, ⟨by repeat (first | (with_reducible first | exact HB.out | apply below_alloc | apply pw_below_drewN | apply below_drew1) | exact HB.out)⟩⟩
      case round =>
        clear H'
        try clear p2
        try clear c4
        try clear p2
        obtain ⟨x7_2, x16_2, rfl, rfl, HA, HK2, HB⟩ := hrel
        cases gk with
        | zero => exact absurd HA.out (by simp [charref_Number.l0])
        | succ k2 =>
          have H := HA.out
          clear HA
          simp only [charref_Number.l0] at H
          by_cases c5 : x16_2 < (a0.size : Int)
          · rw [if_pos c5] at H
            have c5b0 : decide (x16_2 < (a0.size : Int)) = true := decide_eq_true c5
            clear c5
            by_cases c6 : 0 ≤ x16_2
            · rw [if_pos c6] at H
              have c6b0 : decide (0 ≤ x16_2) = true := decide_eq_true c6
              clear c6
              by_cases c7 : x16_2 < (a0.size : Int)
              · rw [if_pos c7] at H
                have c7b0 : decide (x16_2 < (a0.size : Int)) = true := decide_eq_true c7
                clear c7
                replace H := Option.bind_eq_some_iff.mp H
                obtain ⟨t197, A90, H⟩ := H
                replace H : (if t197 < 0 then (some (65533, false)) else (if t197 ≥ x6_2 then (some (65533, false)) else (charref_Number.l0 k2 a0 x6_2 (mn (wrap64 ((wrap64 (x7_2 * x6_2)) + t197)) 1114112) (a0.toList != ([] : List UInt8)) (a0.size : Int) (wrap64 (x16_2 + 1))))) = some (r1, r2) := H
                have A9 := Aside0.mk A90
                clear A90
                by_cases c10 : t197 < 0
                · rw [if_pos c10] at H
                  have c10b0 : decide (t197 < 0) = true := decide_eq_true c10
                  clear c10
                  simp only [Option.some.injEq, Prod.mk.injEq] at H
                  obtain ⟨rfl, rfl⟩ := H
                  have p8 : 0 ≤ (x16_2 : Int) := of_decide_eq_true (by first | (with_reducible assumption) | assumption)
                  have q8 : x16_2 < (a0.size : Int) := of_decide_eq_true (by first | (with_reducible assumption) | assumption)
                  have hx8 := bt_at a0 x16_2
                  replace p8 := eq_true p8
                  replace q8 := eq_true q8
                  go_wp2_with (first | ((with_reducible refine gate_callee (f := 60) rfl ?_); refine goesL_ (some 23) rfl rfl Try.func60 (by kernel_rfl) rfl #[.int .i32 (wrap32 (bt a0 x16_2))] rfl (by (try simp only [List.map_toArray, List.map_cons, List.map_nil]); first | done | rfl | (simp only [List.length_drop, List.length_take]; rfl) | (simp [*] <;> rfl)) ?_; (with_reducible refine (names_Value.calls k2 (wrap32 (bt a0 x16_2)) t197 _ A9.out).mono ?_); rintro e w' ⟨rfl, ⟨nd, rfl⟩⟩; refine ⟨_, rfl, ?_⟩))
                  go_ret2
                  exact ⟨by first | rfl | (simp [errW_none, errW_some] <;> rfl) | (simp [*, errW_none, errW_some] <;> rfl), by repeat (first | (with_reducible first | exact HB.out | apply below_alloc | apply pw_below_drewN | apply below_drew1) | exact HB.out)⟩
                · rw [if_neg c10] at H
                  have c10b0 : decide (t197 < 0) = false := decide_eq_false c10
                  clear c10
                  by_cases c11 : t197 ≥ x6_2
                  · rw [if_pos c11] at H
                    have c11b0 : decide (x6_2 ≤ t197) = true := decide_eq_true c11
                    clear c11
                    simp only [Option.some.injEq, Prod.mk.injEq] at H
                    obtain ⟨rfl, rfl⟩ := H
                    have p8 : 0 ≤ (x16_2 : Int) := of_decide_eq_true (by first | (with_reducible assumption) | assumption)
                    have q8 : x16_2 < (a0.size : Int) := of_decide_eq_true (by first | (with_reducible assumption) | assumption)
                    have hx8 := bt_at a0 x16_2
                    replace p8 := eq_true p8
                    replace q8 := eq_true q8
                    go_wp2_with (first | ((with_reducible refine gate_callee (f := 60) rfl ?_); refine goesL_ (some 23) rfl rfl Try.func60 (by kernel_rfl) rfl #[.int .i32 (wrap32 (bt a0 x16_2))] rfl (by (try simp only [List.map_toArray, List.map_cons, List.map_nil]); first | done | rfl | (simp only [List.length_drop, List.length_take]; rfl) | (simp [*] <;> rfl)) ?_; (with_reducible refine (names_Value.calls k2 (wrap32 (bt a0 x16_2)) t197 _ A9.out).mono ?_); rintro e w' ⟨rfl, ⟨nd, rfl⟩⟩; refine ⟨_, rfl, ?_⟩))
                    go_ret2
                    exact ⟨by first | rfl | (simp [errW_none, errW_some] <;> rfl) | (simp [*, errW_none, errW_some] <;> rfl), by repeat (first | (with_reducible first | exact HB.out | apply below_alloc | apply pw_below_drewN | apply below_drew1) | exact HB.out)⟩
                  · rw [if_neg c11] at H
                    have c11b0 : decide (x6_2 ≤ t197) = false := decide_eq_false c11
                    clear c11
                    obtain ⟨ji12, hji12⟩ : ∃ j_ : Int, (mn (wrap64 ((wrap64 (x7_2 * x6_2)) + t197)) 1114112) = j_ := ⟨_, rfl⟩
                    replace H : (charref_Number.l0 k2 a0 x6_2 ji12 (a0.toList != ([] : List UInt8)) (a0.size : Int) (wrap64 (x16_2 + 1))) = some (r1, r2) := by first | (rw [hji12] at H; exact H) | (simp only [hji12] at H ⊢; exact H)
                    (try rw [hji12] at A9)
                    have hji12_ : (if 1114112 < (wrap64 ((wrap64 (x7_2 * x6_2)) + t197)) then 1114112 else (wrap64 ((wrap64 (x7_2 * x6_2)) + t197))) = ji12 := hji12
                    have H' := Aside0.mk H
                    clear H
                    have p8 : 0 ≤ (x16_2 : Int) := of_decide_eq_true (by first | (with_reducible assumption) | assumption)
                    have q8 : x16_2 < (a0.size : Int) := of_decide_eq_true (by first | (with_reducible assumption) | assumption)
                    have hx8 := bt_at a0 x16_2
                    replace p8 := eq_true p8
                    replace q8 := eq_true q8
                    go_wp2_with (first | ((with_reducible refine gate_callee (f := 60) rfl ?_); refine goesL_ (some 23) rfl rfl Try.func60 (by kernel_rfl) rfl #[.int .i32 (wrap32 (bt a0 x16_2))] rfl (by (try simp only [List.map_toArray, List.map_cons, List.map_nil]); first | done | rfl | (simp only [List.length_drop, List.length_take]; rfl) | (simp [*] <;> rfl)) ?_; (with_reducible refine (names_Value.calls k2 (wrap32 (bt a0 x16_2)) t197 _ A9.out).mono ?_); rintro e w' ⟨rfl, ⟨nd, rfl⟩⟩; refine ⟨_, rfl, ?_⟩))
                    go_roundg k2
                    case measure => have := HJ2.out; have := HK2.out; omega
                    case rel => exact ⟨(ji12), (wrap64 (x16_2 + 1)), (by first | rfl | (simp; done) | (simp only [← hji12] <;> (first | rfl | simp)) | (simp [*]; done)), (by first | rfl | (simp; done) | (simp [*]; done) | (unfold bt; split <;> first | rfl | (exfalso; simp_all; done) | (exfalso; simp_all; omega))), H', ⟨by have := HJ2.out; have := HK2.out; omega⟩, ⟨by repeat (first | (with_reducible first | exact HB.out | apply below_alloc | apply pw_below_drewN | apply below_drew1) | exact HB.out)⟩⟩
              · rw [if_neg c7] at H
                exact absurd H (by simp)
            · rw [if_neg c6] at H
              exact absurd H (by simp)
          · rw [if_neg c5] at H
            have c5b0 : decide (x16_2 < (a0.size : Int)) = false := decide_eq_false c5
            clear c5
            by_cases c13 : (a0.toList != ([] : List UInt8)) = true
            · rw [if_pos c13] at H
              have c13b0 : (a0.toList != ([] : List UInt8)) = true := c13
              (try (have c13b1 : decide (a0.toList = ([] : List UInt8)) = false := by simpa using c13))
              (try (have c13b8 : (a0.toList).isEmpty = false := by simpa using c13))
              (try (have c13b2 : (a0.toList == ([] : List UInt8)) = false := by simpa using c13))
              (try (have c13b3 : ¬ (a0.toList = ([] : List UInt8)) := by simpa using c13))
              clear c13
              replace H := Option.bind_eq_some_iff.mp H
              obtain ⟨⟨t198, t199⟩, A140, H⟩ := H
              replace H : (some (t198, t199)) = some (r1, r2) := H
              have A14 := Aside0.mk A140
              clear A140
              simp only [Option.some.injEq, Prod.mk.injEq] at H
              obtain ⟨rfl, rfl⟩ := H
              go_wp2_with (first | ((with_reducible refine gate_callee (f := 78) rfl ?_); refine goesL_ (some 41) rfl rfl Try.func78 (by kernel_rfl) rfl #[.int .i64 x7_2] rfl (by (try simp only [List.map_toArray, List.map_cons, List.map_nil]); first | done | rfl | (simp only [List.length_drop, List.length_take]; rfl) | (simp [*] <;> rfl)) ?_; (with_reducible refine (charref_says.calls x7_2 t198 t199 _ A14.out).mono ?_); rintro e w15 ⟨rfl, hb⟩; refine ⟨_, rfl, ?_⟩; have n0_ := Aside0.mk (below_step (by repeat (first | (with_reducible first | exact HB.out | apply below_alloc | apply pw_below_drewN | apply below_drew1) | exact HB.out)) hb); clear HB; have HB := n0_; clear n0_; (try clear hb); (try clear hb2); (try clear hk); (try clear hi)))
              go_ret2
              exact ⟨by first | rfl | (simp [errW_none, errW_some] <;> rfl) | (simp [*, errW_none, errW_some] <;> rfl), by repeat (first | (with_reducible first | exact HB.out | apply below_alloc | apply pw_below_drewN | apply below_drew1) | exact HB.out)⟩
            · rw [if_neg c13] at H
              have c13b0 : (a0.toList != ([] : List UInt8)) = false := by simpa using c13
              (try (have c13b1 : decide (a0.toList = ([] : List UInt8)) = true := by simpa using c13))
              (try (have c13b8 : (a0.toList).isEmpty = true := by simpa using c13))
              (try (have c13b2 : (a0.toList == ([] : List UInt8)) = true := by simpa using c13))
              clear c13
              simp only [Option.some.injEq, Prod.mk.injEq] at H
              obtain ⟨rfl, rfl⟩ := H
              go_wp2
              go_ret2
              exact ⟨by first | rfl | (simp [errW_none, errW_some] <;> rfl) | (simp [*, errW_none, errW_some] <;> rfl), by repeat (first | (with_reducible first | exact HB.out | apply below_alloc | apply pw_below_drewN | apply below_drew1) | exact HB.out)⟩

/-! ### entity_Begins: function 62 -/
def entity_Begins.l0 : Nat → ByteArray → List (S98) → Int → Int → Option (Bool)
  | 0, _, _, _, _ => none
  | k + 1, x0, x5, x6, x7 => if x7 < x6 then (if 0 ≤ x7 then (if x7 < (x5.length : Int) then (if (x0.size : Int) ≤ (((rd_T98 x5 x7).f0).size : Int) then ((strings_HasPrefix.f ((rd_T98 x5 x7).f0) x0).bind fun t205 => (if t205 = true then (some true) else (entity_Begins.l0 k x0 x5 x6 (wrap64 (x7 + 1))))) else (entity_Begins.l0 k x0 x5 x6 (wrap64 (x7 + 1)))) else (none)) else (none)) else (some false)
def entity_Begins.f (k : Nat) (a0 : ByteArray) : Option (Bool) := (api_Entities.f).bind fun t200 => (entity_Begins.l0 k a0 t200 (t200.length : Int) 0)
theorem entity_Begins.mono_l : ∀ k, (∀ y0 y1 y2 y3, LeO (entity_Begins.l0 k y0 y1 y2 y3) (entity_Begins.l0 (k + 1) y0 y1 y2 y3))
  | 0 => fun _ _ _ _ r h => by simp [entity_Begins.l0] at h
  | k + 1 => by
    have ih0 := entity_Begins.mono_l k
    · intro y0 y1 y2 y3
      unfold entity_Begins.l0
      repeat' first
      | (with_reducible exact ih0 _ _ _ _)
      | (with_reducible exact LeO.refl _)
      | (with_reducible exact LeO.none _)
      | (with_reducible refine LeO.ite ?_ ?_)
      | (with_reducible refine LeO.bind ?_ (fun _ => ?_))
      | exact ih0 _ _ _ _
      | exact LeO.none _
      | refine LeO.ite ?_ ?_
      | refine LeO.bind ?_ (fun _ => ?_)
theorem entity_Begins.mono : ∀ a0 k, LeO (entity_Begins.f k a0) (entity_Begins.f (k + 1) a0) := by
  intro a0 k
  have ih0 := entity_Begins.mono_l k
  unfold entity_Begins.f
  repeat' first
      | (with_reducible exact ih0 _ _ _ _)
      | (with_reducible exact LeO.refl _)
      | (with_reducible exact LeO.none _)
      | (with_reducible refine LeO.ite ?_ ?_)
      | (with_reducible refine LeO.bind ?_ (fun _ => ?_))
      | exact ih0 _ _ _ _
      | exact LeO.none _
      | refine LeO.ite ?_ ?_
      | refine LeO.bind ?_ (fun _ => ?_)
set_option maxHeartbeats 8000000 in
set_option maxRecDepth 100000 in
theorem entity_Begins.calls (k : Nat) (a0 : ByteArray) (r : Bool) (w : World) (h : entity_Begins.f k a0 = some r) :
    Calls Try.prog 62 #[.string a0] w fun e w' => e = .returned (.bool r) ∧ Below w.heap.size w w' := by
  have hu98 := Try.underlying98
  have HB := Aside0.mk (Below.refl w.heap.size w)
  have H : ((api_Entities.f).bind fun t200 => (entity_Begins.l0 k a0 t200 (t200.length : Int) 0)) = some r := h
  clear h
  replace H := Option.bind_eq_some_iff.mp H
  obtain ⟨t200, A20, H⟩ := H
  replace H : (entity_Begins.l0 k a0 t200 (t200.length : Int) 0) = some r := H
  have A2 := Aside0.mk A20
  clear A20
  have H' := Aside0.mk H
  clear H
  go_enter Try.func62, Try.ntmps62
  go_wp2_with (first | ((with_reducible refine gate_callee (f := 66) rfl ?_); refine goesL_ (some 5) rfl rfl Try.func66 (by kernel_rfl) rfl #[] rfl (by (try simp only [List.map_toArray, List.map_cons, List.map_nil]); first | done | rfl | (simp only [List.length_drop, List.length_take]; rfl) | (simp [*] <;> rfl)) ?_; (with_reducible refine (api_Entities.calls  t200 _ A2.out).mono ?_); rintro e w3 ⟨v201, rfl, ho0, hb⟩; refine ⟨_, rfl, ?_⟩; have n0_ := Aside0.mk (Kd.R_lower ho0 (below_size (by repeat (first | (with_reducible first | exact HB.out | apply below_alloc | apply pw_below_drewN | apply below_drew1) | exact HB.out)))); have n1_ := Aside0.mk (below_step (by repeat (first | (with_reducible first | exact HB.out | apply below_alloc | apply pw_below_drewN | apply below_drew1) | exact HB.out)) hb); clear HB; have HO202 := n0_; have HB := n1_; clear n0_ n1_; (try clear hb); (try clear hb2); (try clear hk); (try clear hi); (try clear ho0); obtain ⟨Ao4, co4, eo4⟩ := Kd.R_slice HO202.out; subst eo4))
  go_loopg [7] k (fun kq v7 w' => ∃ (x7_1 : Int), v7 = .int .i64 x7_1 ∧ Aside0 (entity_Begins.l0 kq a0 t200 (t200.length : Int) x7_1 = some r) ∧ Aside0 (kq ≤ k) ∧ Aside0 (Kd.R k98 98 w' w.heap.size (fun _ => True) (.slice Ao4 t200.length co4) t200) ∧ Aside0 (Below w.heap.size w w'))
  case atStart => exact ⟨(0), (by first | rfl | (simp; done) | (simp [*]; done) | (unfold bt; split <;> first | rfl | (exfalso; simp_all; done) | (exfalso; simp_all; omega))), H', ⟨Nat.le_refl _⟩, ⟨by (with_reducible repeat (first | apply Kd.R_alloc | apply Kd.R_drewN | apply Kd.R_drew)); exact HO202.out⟩, ⟨by repeat (first | (with_reducible first | exact HB.out | apply below_alloc | apply pw_below_drewN | apply below_drew1) | exact HB.out)⟩⟩
  case round =>
    clear H'
    try clear p2
    obtain ⟨x7_1, rfl, HA, HK1, HO_5, HB⟩ := hrel
    cases gk with
    | zero => exact absurd HA.out (by simp [entity_Begins.l0])
    | succ k1 =>
      have H := HA.out
      clear HA
      simp only [entity_Begins.l0] at H
      by_cases c5 : x7_1 < (t200.length : Int)
      · rw [if_pos c5] at H
        have c5b0 : decide (x7_1 < (t200.length : Int)) = true := decide_eq_true c5
        clear c5
        by_cases c6 : 0 ≤ x7_1
        · rw [if_pos c6] at H
          have c6b0 : decide (0 ≤ x7_1) = true := decide_eq_true c6
          clear c6
          by_cases c7 : x7_1 < (t200.length : Int)
          · rw [if_pos c7] at H
            have c7b0 : decide (x7_1 < (t200.length : Int)) = true := decide_eq_true c7
            clear c7
            by_cases c8 : (a0.size : Int) ≤ (((rd_T98 t200 x7_1).f0).size : Int)
            · rw [if_pos c8] at H
              have c8b0 : decide ((a0.size : Int) ≤ (((rd_T98 t200 x7_1).f0).size : Int)) = true := decide_eq_true c8
              have c8b1 : decide (a0.size ≤ ((rd_T98 t200 x7_1).f0).size) = true := decide_eq_true (Int.ofNat_le.mp c8)
              clear c8
              replace H := Option.bind_eq_some_iff.mp H
              obtain ⟨t205, A90, H⟩ := H
              replace H : (if t205 = true then (some true) else (entity_Begins.l0 k1 a0 t200 (t200.length : Int) (wrap64 (x7_1 + 1)))) = some r := H
              have A9 := Aside0.mk A90
              clear A90
              by_cases c10 : t205 = true
              · subst c10
                have H1 : (some true) = some r := by rw [if_pos rfl] at H; exact H
                clear H
                have H := H1
                clear H1
                obtain rfl := Option.some.inj H
                have p203 : 0 ≤ (x7_1 : Int) := of_decide_eq_true (by first | (with_reducible assumption) | assumption)
                have q203 : x7_1 < (t200.length : Int) := of_decide_eq_true (by first | (with_reducible assumption) | assumption)
                obtain ⟨ad203, e203, hx203_0, hx203_1, hx203_2, hx203_3⟩ := at_T98 (Kd.R_reads' HO_5.out).2.2 x7_1 p203 q203
                cases e203
                replace p203 := eq_true p203
                replace q203 := eq_true q203
                go_wp2_with (first | ((with_reducible refine gate_dst (N := 4) rfl ?_); refine box_event ?hg (N := 4) ?hd (cs := #[.string (⟨#[]⟩ : ByteArray), .int .i32 0, .int .i32 0, .bool false]) (t := 98) ?hr ?_; (case hd => rfl); (case hg => rfl); (case hr => first | (go_simp; done) | (go_simp; rfl)); intro gb204 hg w11 hbox hb; have n0_ := Aside0.mk (Kd.R_below (Kd.R_elderB (by (with_reducible repeat (first | apply Kd.R_alloc | apply Kd.R_drewN | apply Kd.R_drew)); exact HO_5.out) gb204 (Nat.le_of_eq hg.symm)) hb); have n1_ := Aside0.mk (below_step (by repeat (first | (with_reducible first | exact HB.out | apply below_alloc | apply pw_below_drewN | apply below_drew1) | exact HB.out)) hb); have n2_ := Aside0.mk (hbox); have n3_ := Aside0.mk ((by rw [hg]; exact (below_size (by repeat (first | (with_reducible first | exact HB.out | apply below_alloc | apply pw_below_drewN | apply below_drew1) | exact HB.out))) : w.heap.size ≤ gb204)); have n4_ := Aside0.mk ((by rw [hg]; exact (below_size (by repeat (first | (with_reducible first | exact HB.out | apply below_alloc | apply pw_below_drewN | apply below_drew1) | exact HB.out))) : w.heap.size ≤ gb204)); clear HO_5; clear HB; have HO_5 := n0_; have HB := n1_; have BK204 := n2_; have GW204 := n3_; have GE204 := n4_; clear n0_ n1_ n2_ n3_ n4_; clear hb hbox hg; have hcz12_0 : w11.cell? ⟨gb204, 0, none⟩ = some (.string (⟨#[]⟩ : ByteArray)) := (blk_cell BK204.out 0).trans rfl; have hcz12_1 : w11.cell? ⟨gb204, 1, none⟩ = some (.int .i32 0) := (blk_cell BK204.out 1).trans rfl; have hcz12_2 : w11.cell? ⟨gb204, 2, none⟩ = some (.int .i32 0) := (blk_cell BK204.out 2).trans rfl; have hcz12_3 : w11.cell? ⟨gb204, 3, none⟩ = some (.bool false) := (blk_cell BK204.out 3).trans rfl; have hfz12_0 := blk_frozen BK204.out 0; have hfz12_1 := blk_frozen BK204.out 1; have hfz12_2 := blk_frozen BK204.out 2; have hfz12_3 := blk_frozen BK204.out 3) | (go_at_call 79; (with_reducible refine (strings_HasPrefix.calls ((rd_T98 t200 x7_1).f0) a0 true _ A9.out).mono ?_); rintro e w' ⟨rfl, ⟨nd, rfl⟩⟩))
                go_ret
                exact ⟨by first | rfl | (simp [errW_none, errW_some] <;> rfl) | (simp [*, errW_none, errW_some] <;> rfl), by repeat (first | (with_reducible first | exact HB.out | apply below_alloc | apply pw_below_drewN | apply below_drew1 | refine below_set ?_ GE204.out) | exact HB.out)⟩
              · replace c10 := Bool.eq_false_iff.mpr c10
                subst c10
                have H1 : (entity_Begins.l0 k1 a0 t200 (t200.length : Int) (wrap64 (x7_1 + 1))) = some r := by rw [if_neg (show ¬ (false = true) by decide)] at H; exact H
                clear H
                have H := H1
                clear H1
                have H' := Aside0.mk H
                clear H
                have p203 : 0 ≤ (x7_1 : Int) := of_decide_eq_true (by first | (with_reducible assumption) | assumption)
                have q203 : x7_1 < (t200.length : Int) := of_decide_eq_true (by first | (with_reducible assumption) | assumption)
                obtain ⟨ad203, e203, hx203_0, hx203_1, hx203_2, hx203_3⟩ := at_T98 (Kd.R_reads' HO_5.out).2.2 x7_1 p203 q203
                cases e203
                replace p203 := eq_true p203
                replace q203 := eq_true q203
                go_wp2_with (first | ((with_reducible refine gate_dst (N := 4) rfl ?_); refine box_event ?hg (N := 4) ?hd (cs := #[.string (⟨#[]⟩ : ByteArray), .int .i32 0, .int .i32 0, .bool false]) (t := 98) ?hr ?_; (case hd => rfl); (case hg => rfl); (case hr => first | (go_simp; done) | (go_simp; rfl)); intro gb204 hg w13 hbox hb; have n0_ := Aside0.mk (Kd.R_below (Kd.R_elderB (by (with_reducible repeat (first | apply Kd.R_alloc | apply Kd.R_drewN | apply Kd.R_drew)); exact HO_5.out) gb204 (Nat.le_of_eq hg.symm)) hb); have n1_ := Aside0.mk (below_step (by repeat (first | (with_reducible first | exact HB.out | apply below_alloc | apply pw_below_drewN | apply below_drew1) | exact HB.out)) hb); have n2_ := Aside0.mk (hbox); have n3_ := Aside0.mk ((by rw [hg]; exact (below_size (by repeat (first | (with_reducible first | exact HB.out | apply below_alloc | apply pw_below_drewN | apply below_drew1) | exact HB.out))) : w.heap.size ≤ gb204)); have n4_ := Aside0.mk ((by rw [hg]; exact (below_size (by repeat (first | (with_reducible first | exact HB.out | apply below_alloc | apply pw_below_drewN | apply below_drew1) | exact HB.out))) : w.heap.size ≤ gb204)); clear HO_5; clear HB; have HO_5 := n0_; have HB := n1_; have BK204 := n2_; have GW204 := n3_; have GE204 := n4_; clear n0_ n1_ n2_ n3_ n4_; clear hb hbox hg; have hcz14_0 : w13.cell? ⟨gb204, 0, none⟩ = some (.string (⟨#[]⟩ : ByteArray)) := (blk_cell BK204.out 0).trans rfl; have hcz14_1 : w13.cell? ⟨gb204, 1, none⟩ = some (.int .i32 0) := (blk_cell BK204.out 1).trans rfl; have hcz14_2 : w13.cell? ⟨gb204, 2, none⟩ = some (.int .i32 0) := (blk_cell BK204.out 2).trans rfl; have hcz14_3 : w13.cell? ⟨gb204, 3, none⟩ = some (.bool false) := (blk_cell BK204.out 3).trans rfl; have hfz14_0 := blk_frozen BK204.out 0; have hfz14_1 := blk_frozen BK204.out 1; have hfz14_2 := blk_frozen BK204.out 2; have hfz14_3 := blk_frozen BK204.out 3) | (go_at_call 79; (with_reducible refine (strings_HasPrefix.calls ((rd_T98 t200 x7_1).f0) a0 false _ A9.out).mono ?_); rintro e w' ⟨rfl, ⟨nd, rfl⟩⟩))
                go_roundg k1
                case measure => have := HK1.out; omega
                case rel => exact ⟨(wrap64 (x7_1 + 1)), (by first | rfl | (simp; done) | (simp [*]; done) | (unfold bt; split <;> first | rfl | (exfalso; simp_all; done) | (exfalso; simp_all; omega))), H', ⟨by have := HK1.out; omega⟩, ⟨by (with_reducible repeat (first | apply Kd.R_alloc | apply Kd.R_drewN | apply Kd.R_drew)); exact Kd.R_mono (Kd.R_far (p := ⟨gb204, 3, none⟩) (Kd.R_far (p := ⟨gb204, 2, none⟩) (Kd.R_far (p := ⟨gb204, 1, none⟩) (Kd.R_far (p := ⟨gb204, 0, none⟩) (Kd.R_mono HO_5.out (fun k_ hk => (⟨hk, hk.2⟩ : _ ∧ k_ ≠ gb204))) (fun _ hk => hk.2) (.string ((rd_T98 t200 x7_1).f0))) (fun _ hk => hk.2) (.int .i32 ((rd_T98 t200 x7_1).f1))) (fun _ hk => hk.2) (.int .i32 ((rd_T98 t200 x7_1).f2))) (fun _ hk => hk.2) (.bool ((rd_T98 t200 x7_1).f3))) (fun _ hk => trivial)⟩, ⟨by repeat (first | (with_reducible first | exact HB.out | apply below_alloc | apply pw_below_drewN | apply below_drew1 | refine below_set ?_ GE204.out) | exact HB.out)⟩⟩
            · rw [if_neg c8] at H
              have c8b0 : decide ((a0.size : Int) ≤ (((rd_T98 t200 x7_1).f0).size : Int)) = false := decide_eq_false c8
              have c8b1 : decide (a0.size ≤ ((rd_T98 t200 x7_1).f0).size) = false := decide_eq_false (fun h => c8 (Int.ofNat_le.mpr h))
              clear c8
              have H' := Aside0.mk H
              clear H
              have p203 : 0 ≤ (x7_1 : Int) := of_decide_eq_true (by first | (with_reducible assumption) | assumption)
              have q203 : x7_1 < (t200.length : Int) := of_decide_eq_true (by first | (with_reducible assumption) | assumption)
              obtain ⟨ad203, e203, hx203_0, hx203_1, hx203_2, hx203_3⟩ := at_T98 (Kd.R_reads' HO_5.out).2.2 x7_1 p203 q203
              cases e203
              replace p203 := eq_true p203
              replace q203 := eq_true q203
              go_wp2_with (first | ((with_reducible refine gate_dst (N := 4) rfl ?_); refine box_event ?hg (N := 4) ?hd (cs := #[.string (⟨#[]⟩ : ByteArray), .int .i32 0, .int .i32 0, .bool false]) (t := 98) ?hr ?_; (case hd => rfl); (case hg => rfl); (case hr => first | (go_simp; done) | (go_simp; rfl)); intro gb204 hg w15 hbox hb; have n0_ := Aside0.mk (Kd.R_below (Kd.R_elderB (by (with_reducible repeat (first | apply Kd.R_alloc | apply Kd.R_drewN | apply Kd.R_drew)); exact HO_5.out) gb204 (Nat.le_of_eq hg.symm)) hb); have n1_ := Aside0.mk (below_step (by repeat (first | (with_reducible first | exact HB.out | apply below_alloc | apply pw_below_drewN | apply below_drew1) | exact HB.out)) hb); have n2_ := Aside0.mk (hbox); have n3_ := Aside0.mk ((by rw [hg]; exact (below_size (by repeat (first | (with_reducible first | exact HB.out | apply below_alloc | apply pw_below_drewN | apply below_drew1) | exact HB.out))) : w.heap.size ≤ gb204)); have n4_ := Aside0.mk ((by rw [hg]; exact (below_size (by repeat (first | (with_reducible first | exact HB.out | apply below_alloc | apply pw_below_drewN | apply below_drew1) | exact HB.out))) : w.heap.size ≤ gb204)); clear HO_5; clear HB; have HO_5 := n0_; have HB := n1_; have BK204 := n2_; have GW204 := n3_; have GE204 := n4_; clear n0_ n1_ n2_ n3_ n4_; clear hb hbox hg; have hcz16_0 : w15.cell? ⟨gb204, 0, none⟩ = some (.string (⟨#[]⟩ : ByteArray)) := (blk_cell BK204.out 0).trans rfl; have hcz16_1 : w15.cell? ⟨gb204, 1, none⟩ = some (.int .i32 0) := (blk_cell BK204.out 1).trans rfl; have hcz16_2 : w15.cell? ⟨gb204, 2, none⟩ = some (.int .i32 0) := (blk_cell BK204.out 2).trans rfl; have hcz16_3 : w15.cell? ⟨gb204, 3, none⟩ = some (.bool false) := (blk_cell BK204.out 3).trans rfl; have hfz16_0 := blk_frozen BK204.out 0; have hfz16_1 := blk_frozen BK204.out 1; have hfz16_2 := blk_frozen BK204.out 2; have hfz16_3 := blk_frozen BK204.out 3))
              go_roundg k1
              case measure => have := HK1.out; omega
              case rel => exact ⟨(wrap64 (x7_1 + 1)), (by first | rfl | (simp; done) | (simp [*]; done) | (unfold bt; split <;> first | rfl | (exfalso; simp_all; done) | (exfalso; simp_all; omega))), H', ⟨by have := HK1.out; omega⟩, ⟨by (with_reducible repeat (first | apply Kd.R_alloc | apply Kd.R_drewN | apply Kd.R_drew)); exact Kd.R_mono (Kd.R_far (p := ⟨gb204, 3, none⟩) (Kd.R_far (p := ⟨gb204, 2, none⟩) (Kd.R_far (p := ⟨gb204, 1, none⟩) (Kd.R_far (p := ⟨gb204, 0, none⟩) (Kd.R_mono HO_5.out (fun k_ hk => (⟨hk, hk.2⟩ : _ ∧ k_ ≠ gb204))) (fun _ hk => hk.2) (.string ((rd_T98 t200 x7_1).f0))) (fun _ hk => hk.2) (.int .i32 ((rd_T98 t200 x7_1).f1))) (fun _ hk => hk.2) (.int .i32 ((rd_T98 t200 x7_1).f2))) (fun _ hk => hk.2) (.bool ((rd_T98 t200 x7_1).f3))) (fun _ hk => trivial)⟩, ⟨by repeat (first | (with_reducible first | exact HB.out | apply below_alloc | apply pw_below_drewN | apply below_drew1 | refine below_set ?_ GE204.out) | exact HB.out)⟩⟩
          · rw [if_neg c7] at H
            exact absurd H (by simp)
        · rw [if_neg c6] at H
          exact absurd H (by simp)
      · rw [if_neg c5] at H
        have c5b0 : decide (x7_1 < (t200.length : Int)) = false := decide_eq_false c5
        clear c5
        obtain rfl := Option.some.inj H
        go_wp2
        go_ret
        exact ⟨by first | rfl | (simp [errW_none, errW_some] <;> rfl) | (simp [*, errW_none, errW_some] <;> rfl), by repeat (first | (with_reducible first | exact HB.out | apply below_alloc | apply pw_below_drewN | apply below_drew1) | exact HB.out)⟩

/-! ### entity_Longest: function 63 -/
mutual
def entity_Longest.l0 : Nat → ByteArray → Int → List Int → List (S98) → Int → Int → Option (Int × List Int)
  | 0, _, _, _, _, _, _ => none
  | k + 1, x0, x4, x5, x9, x10, x11 => if x11 < x10 then (if 0 ≤ x11 then (if x11 < (x9.length : Int) then ((strings_HasPrefix.f x0 ((rd_T98 x9 x11).f0)).bind fun t211 => (if t211 = true then (if (((rd_T98 x9 x11).f0).size : Int) < (x0.size : Int) then (if 0 ≤ (((rd_T98 x9 x11).f0).size : Int) then (entity_Longest.j1 k x0 x4 x5 (((rd_T98 x9 x11).f0).size : Int) x9 x10 x11 ((bt x0 (((rd_T98 x9 x11).f0).size : Int)) == 59) ((rd_T98 x9 x11).f0) ((rd_T98 x9 x11).f1) ((rd_T98 x9 x11).f2) ((rd_T98 x9 x11).f3)) else (none)) else (entity_Longest.j1 k x0 x4 x5 (((rd_T98 x9 x11).f0).size : Int) x9 x10 x11 false ((rd_T98 x9 x11).f0) ((rd_T98 x9 x11).f1) ((rd_T98 x9 x11).f2) ((rd_T98 x9 x11).f3))) else (entity_Longest.l0 k x0 x4 x5 x9 x10 (wrap64 (x11 + 1))))) else (none)) else (none)) else (some (x4, x5))
def entity_Longest.j1 : Nat → ByteArray → Int → List Int → Int → List (S98) → Int → Int → Bool → ByteArray → Int → Int → Bool → Option (Int × List Int)
  | 0, _, _, _, _, _, _, _, _, _, _, _, _ => none
  | k + 1, x0, x4, x5, x8, x9, x10, x11, x32, x211000, x211001, x211002, x211003 => if x32 = true then (if (wrap64 (x8 + 1)) > x4 then ((entity_says.f x211000 x211001 x211002 x211003).bind fun t212 => (entity_Longest.l0 k x0 (wrap64 (x8 + 1)) t212 x9 x10 (wrap64 (x11 + 1)))) else (entity_Longest.l0 k x0 x4 x5 x9 x10 (wrap64 (x11 + 1)))) else (if x211003 = true then (if x8 > x4 then ((entity_says.f x211000 x211001 x211002 x211003).bind fun t215 => (entity_Longest.l0 k x0 x8 t215 x9 x10 (wrap64 (x11 + 1)))) else (entity_Longest.l0 k x0 x4 x5 x9 x10 (wrap64 (x11 + 1)))) else (entity_Longest.l0 k x0 x4 x5 x9 x10 (wrap64 (x11 + 1))))
end
def entity_Longest.f (k : Nat) (a0 : ByteArray) : Option (Int × List Int) := (api_Entities.f).bind fun t206 => (entity_Longest.l0 k a0 0 ([] : List Int) t206 (t206.length : Int) 0)
theorem entity_Longest.mono_l : ∀ k, (∀ y0 y1 y2 y3 y4 y5, LeO (entity_Longest.l0 k y0 y1 y2 y3 y4 y5) (entity_Longest.l0 (k + 1) y0 y1 y2 y3 y4 y5)) ∧ (∀ y0 y1 y2 y3 y4 y5 y6 y7 y8 y9 y10 y11, LeO (entity_Longest.j1 k y0 y1 y2 y3 y4 y5 y6 y7 y8 y9 y10 y11) (entity_Longest.j1 (k + 1) y0 y1 y2 y3 y4 y5 y6 y7 y8 y9 y10 y11))
  | 0 => ⟨fun _ _ _ _ _ _ r h => by simp [entity_Longest.l0] at h, fun _ _ _ _ _ _ _ _ _ _ _ _ r h => by simp [entity_Longest.j1] at h⟩
  | k + 1 => by
    obtain ⟨ih0, ih1⟩ := entity_Longest.mono_l k
    refine ⟨?_, ?_⟩
    · intro y0 y1 y2 y3 y4 y5
      unfold entity_Longest.l0
      repeat' first
      | (with_reducible exact ih0 _ _ _ _ _ _)
      | (with_reducible exact ih1 _ _ _ _ _ _ _ _ _ _ _ _)
      | (with_reducible exact LeO.refl _)
      | (with_reducible exact LeO.none _)
      | (with_reducible refine LeO.ite ?_ ?_)
      | (with_reducible refine LeO.bind ?_ (fun _ => ?_))
      | exact ih0 _ _ _ _ _ _
      | exact ih1 _ _ _ _ _ _ _ _ _ _ _ _
      | exact LeO.none _
      | refine LeO.ite ?_ ?_
      | refine LeO.bind ?_ (fun _ => ?_)
    · intro y0 y1 y2 y3 y4 y5 y6 y7 y8 y9 y10 y11
      unfold entity_Longest.j1
      repeat' first
      | (with_reducible exact ih0 _ _ _ _ _ _)
      | (with_reducible exact ih1 _ _ _ _ _ _ _ _ _ _ _ _)
      | (with_reducible exact LeO.refl _)
      | (with_reducible exact LeO.none _)
      | (with_reducible refine LeO.ite ?_ ?_)
      | (with_reducible refine LeO.bind ?_ (fun _ => ?_))
      | exact ih0 _ _ _ _ _ _
      | exact ih1 _ _ _ _ _ _ _ _ _ _ _ _
      | exact LeO.none _
      | refine LeO.ite ?_ ?_
      | refine LeO.bind ?_ (fun _ => ?_)
theorem entity_Longest.mono : ∀ a0 k, LeO (entity_Longest.f k a0) (entity_Longest.f (k + 1) a0) := by
  intro a0 k
  obtain ⟨ih0, ih1⟩ := entity_Longest.mono_l k
  unfold entity_Longest.f
  repeat' first
      | (with_reducible exact ih0 _ _ _ _ _ _)
      | (with_reducible exact ih1 _ _ _ _ _ _ _ _ _ _ _ _)
      | (with_reducible exact LeO.refl _)
      | (with_reducible exact LeO.none _)
      | (with_reducible refine LeO.ite ?_ ?_)
      | (with_reducible refine LeO.bind ?_ (fun _ => ?_))
      | exact ih0 _ _ _ _ _ _
      | exact ih1 _ _ _ _ _ _ _ _ _ _ _ _
      | exact LeO.none _
      | refine LeO.ite ?_ ?_
      | refine LeO.bind ?_ (fun _ => ?_)
set_option maxHeartbeats 8000000 in
set_option maxRecDepth 100000 in
theorem entity_Longest.calls (k : Nat) (a0 : ByteArray) (r1 : Int) (r2 : List Int) (w : World) (h : entity_Longest.f k a0 = some (r1, r2)) :
    Calls Try.prog 63 #[.string a0] w fun e w' => ∃ v1_ : Value, e = .returned (.tuple #[.int .i64 r1, v1_]) ∧ Kd.R (Kd.int .i32) 21 w' w.heap.size (fun _ => True) v1_ r2 ∧ Below w.heap.size w w' := by
  have hu98 := Try.underlying98
  have HB := Aside0.mk (Below.refl w.heap.size w)
  have H : ((api_Entities.f).bind fun t206 => (entity_Longest.l0 k a0 0 ([] : List Int) t206 (t206.length : Int) 0)) = some (r1, r2) := h
  clear h
  replace H := Option.bind_eq_some_iff.mp H
  obtain ⟨t206, A20, H⟩ := H
  replace H : (entity_Longest.l0 k a0 0 ([] : List Int) t206 (t206.length : Int) 0) = some (r1, r2) := H
  have A2 := Aside0.mk A20
  clear A20
  have H' := Aside0.mk H
  clear H
  go_enter Try.func63, Try.ntmps63
  go_wp2_with (first | ((with_reducible refine gate_callee (f := 66) rfl ?_); refine goesL_ (some 9) rfl rfl Try.func66 (by kernel_rfl) rfl #[] rfl (by (try simp only [List.map_toArray, List.map_cons, List.map_nil]); first | done | rfl | (simp only [List.length_drop, List.length_take]; rfl) | (simp [*] <;> rfl)) ?_; (with_reducible refine (api_Entities.calls  t206 _ A2.out).mono ?_); rintro e w3 ⟨v207, rfl, ho0, hb⟩; refine ⟨_, rfl, ?_⟩; have n0_ := Aside0.mk (Kd.R_lower ho0 (below_size (by repeat (first | (with_reducible first | exact HB.out | apply below_alloc | apply pw_below_drewN | apply below_drew1) | exact HB.out)))); have n1_ := Aside0.mk (below_step (by repeat (first | (with_reducible first | exact HB.out | apply below_alloc | apply pw_below_drewN | apply below_drew1) | exact HB.out)) hb); clear HB; have HO208 := n0_; have HB := n1_; clear n0_ n1_; (try clear hb); (try clear hb2); (try clear hk); (try clear hi); (try clear ho0); obtain ⟨Ao4, co4, eo4⟩ := Kd.R_slice HO208.out; subst eo4))
  go_loopg [4, 5, 11] k (fun kq v4 v5 v11 w' => ∃ (x4_1 : Int) (x5_1 : List Int) (x11_1 : Int), v4 = .int .i64 x4_1 ∧ v11 = .int .i64 x11_1 ∧ Aside0 (entity_Longest.l0 kq a0 x4_1 x5_1 t206 (t206.length : Int) x11_1 = some (r1, r2)) ∧ Aside0 (kq ≤ k) ∧ Aside0 (Kd.R (Kd.int .i32) 21 w' w.heap.size (fun _ => True) v5 x5_1) ∧ Aside0 (Kd.R k98 98 w' w.heap.size (fun _ => True) (.slice Ao4 t206.length co4) t206) ∧ Aside0 (Below w.heap.size w w'))
  case atStart => exact ⟨(0), (([] : List Int)), (0), (by first | rfl | (simp; done) | (simp [*]; done) | (unfold bt; split <;> first | rfl | (exfalso; simp_all; done) | (exfalso; simp_all; omega))), (by first | rfl | (simp; done) | (simp [*]; done) | (unfold bt; split <;> first | rfl | (exfalso; simp_all; done) | (exfalso; simp_all; omega))), H', ⟨Nat.le_refl _⟩, ⟨by first | exact Kd.R_nil _ _ _ _ _ | exact Kd.N_nil _ _ _ _ _ | exact Kd.V_nil _ _ _ _ _ | exact Kd.Q_nil _ _ _ _ _ | exact Kd.S_nil _ _ _ _ _⟩, ⟨by (with_reducible repeat (first | apply Kd.R_alloc | apply Kd.R_drewN | apply Kd.R_drew)); exact HO208.out⟩, ⟨by repeat (first | (with_reducible first | exact HB.out | apply below_alloc | apply pw_below_drewN | apply below_drew1) | exact HB.out)⟩⟩
  case round =>
    clear H'
    try clear p2
    obtain ⟨x4_1, x5_1, x11_1, rfl, rfl, HA, HK1, HO_5, HO_9, HB⟩ := hrel
    cases gk with
    | zero => exact absurd HA.out (by simp [entity_Longest.l0])
    | succ k1 =>
      have H := HA.out
      clear HA
      simp only [entity_Longest.l0] at H
      by_cases c5 : x11_1 < (t206.length : Int)
      · rw [if_pos c5] at H
        have c5b0 : decide (x11_1 < (t206.length : Int)) = true := decide_eq_true c5
        clear c5
        by_cases c6 : 0 ≤ x11_1
        · rw [if_pos c6] at H
          have c6b0 : decide (0 ≤ x11_1) = true := decide_eq_true c6
          clear c6
          by_cases c7 : x11_1 < (t206.length : Int)
          · rw [if_pos c7] at H
            have c7b0 : decide (x11_1 < (t206.length : Int)) = true := decide_eq_true c7
            clear c7
            replace H := Option.bind_eq_some_iff.mp H
            obtain ⟨t211, A80, H⟩ := H
            replace H : (if t211 = true then (if (((rd_T98 t206 x11_1).f0).size : Int) < (a0.size : Int) then (if 0 ≤ (((rd_T98 t206 x11_1).f0).size : Int) then (entity_Longest.j1 k1 a0 x4_1 x5_1 (((rd_T98 t206 x11_1).f0).size : Int) t206 (t206.length : Int) x11_1 ((bt a0 (((rd_T98 t206 x11_1).f0).size : Int)) == 59) ((rd_T98 t206 x11_1).f0) ((rd_T98 t206 x11_1).f1) ((rd_T98 t206 x11_1).f2) ((rd_T98 t206 x11_1).f3)) else (none)) else (entity_Longest.j1 k1 a0 x4_1 x5_1 (((rd_T98 t206 x11_1).f0).size : Int) t206 (t206.length : Int) x11_1 false ((rd_T98 t206 x11_1).f0) ((rd_T98 t206 x11_1).f1) ((rd_T98 t206 x11_1).f2) ((rd_T98 t206 x11_1).f3))) else (entity_Longest.l0 k1 a0 x4_1 x5_1 t206 (t206.length : Int) (wrap64 (x11_1 + 1)))) = some (r1, r2) := H
            have A8 := Aside0.mk A80
            clear A80
            by_cases c9 : t211 = true
            · subst c9
              have H1 : (if (((rd_T98 t206 x11_1).f0).size : Int) < (a0.size : Int) then (if 0 ≤ (((rd_T98 t206 x11_1).f0).size : Int) then (entity_Longest.j1 k1 a0 x4_1 x5_1 (((rd_T98 t206 x11_1).f0).size : Int) t206 (t206.length : Int) x11_1 ((bt a0 (((rd_T98 t206 x11_1).f0).size : Int)) == 59) ((rd_T98 t206 x11_1).f0) ((rd_T98 t206 x11_1).f1) ((rd_T98 t206 x11_1).f2) ((rd_T98 t206 x11_1).f3)) else (none)) else (entity_Longest.j1 k1 a0 x4_1 x5_1 (((rd_T98 t206 x11_1).f0).size : Int) t206 (t206.length : Int) x11_1 false ((rd_T98 t206 x11_1).f0) ((rd_T98 t206 x11_1).f1) ((rd_T98 t206 x11_1).f2) ((rd_T98 t206 x11_1).f3))) = some (r1, r2) := by rw [if_pos rfl] at H; exact H
              clear H
              have H := H1
              clear H1
              have HC10 := Aside0.mk H
              clear H
              have p209 : 0 ≤ (x11_1 : Int) := of_decide_eq_true (by first | (with_reducible assumption) | assumption)
              have q209 : x11_1 < (t206.length : Int) := of_decide_eq_true (by first | (with_reducible assumption) | assumption)
              obtain ⟨ad209, e209, hx209_0, hx209_1, hx209_2, hx209_3⟩ := at_T98 (Kd.R_reads' HO_9.out).2.2 x11_1 p209 q209
              cases e209
              replace p209 := eq_true p209
              replace q209 := eq_true q209
              go_upto_region 8 with (first | ((with_reducible refine gate_dst (N := 7) rfl ?_); refine box_event ?hg (N := 7) ?hd (cs := #[.string (⟨#[]⟩ : ByteArray), .int .i32 0, .int .i32 0, .bool false]) (t := 98) ?hr ?_; (case hd => rfl); (case hg => rfl); (case hr => first | (go_simp; done) | (go_simp; rfl)); intro gb210 hg w11 hbox hb; have n0_ := Aside0.mk (Kd.R_below (by (with_reducible repeat (first | apply Kd.R_alloc | apply Kd.R_drewN | apply Kd.R_drew)); exact HO_5.out) hb); have n1_ := Aside0.mk (Kd.R_below (Kd.R_elderB (by (with_reducible repeat (first | apply Kd.R_alloc | apply Kd.R_drewN | apply Kd.R_drew)); exact HO_9.out) gb210 (Nat.le_of_eq hg.symm)) hb); have n2_ := Aside0.mk (below_step (by repeat (first | (with_reducible first | exact HB.out | apply below_alloc | apply pw_below_drewN | apply below_drew1) | exact HB.out)) hb); have n3_ := Aside0.mk (hbox); have n4_ := Aside0.mk ((by rw [hg]; exact (below_size (by repeat (first | (with_reducible first | exact HB.out | apply below_alloc | apply pw_below_drewN | apply below_drew1) | exact HB.out))) : w.heap.size ≤ gb210)); have n5_ := Aside0.mk ((by rw [hg]; exact (below_size (by repeat (first | (with_reducible first | exact HB.out | apply below_alloc | apply pw_below_drewN | apply below_drew1) | exact HB.out))) : w.heap.size ≤ gb210)); clear HO_5; clear HO_9; clear HB; have HO_5 := n0_; have HO_9 := n1_; have HB := n2_; have BK210 := n3_; have GW210 := n4_; have GE210 := n5_; clear n0_ n1_ n2_ n3_ n4_ n5_; clear hb hbox hg; have hcz12_0 : w11.cell? ⟨gb210, 0, none⟩ = some (.string (⟨#[]⟩ : ByteArray)) := (blk_cell BK210.out 0).trans rfl; have hcz12_1 : w11.cell? ⟨gb210, 1, none⟩ = some (.int .i32 0) := (blk_cell BK210.out 1).trans rfl; have hcz12_2 : w11.cell? ⟨gb210, 2, none⟩ = some (.int .i32 0) := (blk_cell BK210.out 2).trans rfl; have hcz12_3 : w11.cell? ⟨gb210, 3, none⟩ = some (.bool false) := (blk_cell BK210.out 3).trans rfl; have hfz12_0 := blk_frozen BK210.out 0; have hfz12_1 := blk_frozen BK210.out 1; have hfz12_2 := blk_frozen BK210.out 2; have hfz12_3 := blk_frozen BK210.out 3) | ((with_reducible refine gate_callee (f := 79) rfl ?_); refine goesL_ (some 18) rfl rfl Try.func79 (by kernel_rfl) rfl #[.string a0, .string ((rd_T98 t206 x11_1).f0)] rfl (by (try simp only [List.map_toArray, List.map_cons, List.map_nil]); first | done | rfl | (simp only [List.length_drop, List.length_take]; rfl) | (simp [*] <;> rfl)) ?_; (with_reducible refine (strings_HasPrefix.calls a0 ((rd_T98 t206 x11_1).f0) true _ A8.out).mono ?_); rintro e w' ⟨rfl, ⟨nd, rfl⟩⟩; refine ⟨_, rfl, ?_⟩))
              (try simp only [Act.put, List.setIfInBounds_toArray, List.set_cons_zero, List.set_cons_succ])
              go_cut [32] (fun v32 wc => ∃ (kq : Nat) (x32_9 : Bool), v32 = .bool x32_9 ∧ Aside0 (entity_Longest.j1 kq a0 x4_1 x5_1 (((rd_T98 t206 x11_1).f0).size : Int) t206 (t206.length : Int) x11_1 x32_9 ((rd_T98 t206 x11_1).f0) ((rd_T98 t206 x11_1).f1) ((rd_T98 t206 x11_1).f2) ((rd_T98 t206 x11_1).f3) = some (r1, r2)) ∧ Aside0 (kq ≤ k1) ∧ Aside0 (Kd.R (Kd.int .i32) 21 wc w.heap.size (fun _ => True) u5 x5_1) ∧ Aside0 (Kd.R k98 98 wc w.heap.size (fun k_ => k_ ≠ gb210) (.slice (some ad209) t206.length co4) t206) ∧ Aside0 (wc.heap[gb210]? = some (.cells #[.string ((rd_T98 t206 x11_1).f0), .int .i32 ((rd_T98 t206 x11_1).f1), .int .i32 ((rd_T98 t206 x11_1).f2), .bool ((rd_T98 t206 x11_1).f3)] 98 (0, 0))) ∧ Aside0 (Below w.heap.size w wc))
              case first =>
                have H := HC10.out
                clear HC10
                by_cases c13 : (((rd_T98 t206 x11_1).f0).size : Int) < (a0.size : Int)
                · rw [if_pos c13] at H
                  have c13b0 : decide ((((rd_T98 t206 x11_1).f0).size : Int) < (a0.size : Int)) = true := decide_eq_true c13
                  have c13b1 : decide (((rd_T98 t206 x11_1).f0).size < a0.size) = true := decide_eq_true (Int.ofNat_lt.mp c13)
                  clear c13
                  (first | rw [c13b0] | (simp only [i64_w, i32_w]; rw [c13b0]) | skip)
                  by_cases c14 : 0 ≤ (((rd_T98 t206 x11_1).f0).size : Int)
                  · rw [if_pos c14] at H
                    have c14b0 : decide (0 ≤ (((rd_T98 t206 x11_1).f0).size : Int)) = true := decide_eq_true c14
                    have c14b1 : decide (0 ≤ ((rd_T98 t206 x11_1).f0).size) = true := decide_eq_true (by omega)
                    clear c14
                    have H' := Aside0.mk H
                    clear H
                    have p15 : 0 ≤ ((((rd_T98 t206 x11_1).f0).size : Int) : Int) := of_decide_eq_true (by first | (with_reducible assumption) | assumption)
                    have q15 : (((rd_T98 t206 x11_1).f0).size : Int) < (a0.size : Int) := of_decide_eq_true (by first | (with_reducible assumption) | assumption)
                    have hx15 := bt_at a0 (((rd_T98 t206 x11_1).f0).size : Int)
                    replace p15 := eq_true p15
                    replace q15 := eq_true q15
                    go_wp2
                    go_meet
                    case rel => exact ⟨_, (((bt a0 (((rd_T98 t206 x11_1).f0).size : Int)) == 59)), (by first | rfl | (simp; done) | (simp [*]; done) | (unfold bt; split <;> first | rfl | (exfalso; simp_all; done) | (exfalso; simp_all; omega))), H', ⟨by have := HK1.out; first | omega | exact Nat.le_refl _⟩, ⟨by (with_reducible repeat (first | apply Kd.R_alloc | apply Kd.R_drewN | apply Kd.R_drew)); exact Kd.R_mono (Kd.R_far (p := ⟨gb210, 3, none⟩) (Kd.R_far (p := ⟨gb210, 2, none⟩) (Kd.R_far (p := ⟨gb210, 1, none⟩) (Kd.R_far (p := ⟨gb210, 0, none⟩) (Kd.R_types HO_5.out BK210.out (by decide)) (fun _ hk => hk.2) (.string ((rd_T98 t206 x11_1).f0))) (fun _ hk => hk.2) (.int .i32 ((rd_T98 t206 x11_1).f1))) (fun _ hk => hk.2) (.int .i32 ((rd_T98 t206 x11_1).f2))) (fun _ hk => hk.2) (.bool ((rd_T98 t206 x11_1).f3))) (fun _ hk => trivial)⟩, ⟨by (with_reducible repeat (first | apply Kd.R_alloc | apply Kd.R_drewN | apply Kd.R_drew)); exact Kd.R_mono (Kd.R_far (p := ⟨gb210, 3, none⟩) (Kd.R_far (p := ⟨gb210, 2, none⟩) (Kd.R_far (p := ⟨gb210, 1, none⟩) (Kd.R_far (p := ⟨gb210, 0, none⟩) (Kd.R_mono HO_9.out (fun k_ hk => (⟨hk, hk.2⟩ : _ ∧ k_ ≠ gb210))) (fun _ hk => hk.2) (.string ((rd_T98 t206 x11_1).f0))) (fun _ hk => hk.2) (.int .i32 ((rd_T98 t206 x11_1).f1))) (fun _ hk => hk.2) (.int .i32 ((rd_T98 t206 x11_1).f2))) (fun _ hk => hk.2) (.bool ((rd_T98 t206 x11_1).f3))) (fun _ hk => hk.1.2)⟩, ⟨by (with_reducible repeat (first | refine blk_drewN ?_ _ | refine blk_drew ?_ | refine blk_alloc ?_ _)); refine blk_put (cs := #[.string ((rd_T98 t206 x11_1).f0), .int .i32 ((rd_T98 t206 x11_1).f1), .int .i32 ((rd_T98 t206 x11_1).f2), .bool false]) ?_ 3 _ rfl; (with_reducible repeat (first | refine blk_drewN ?_ _ | refine blk_drew ?_ | refine blk_alloc ?_ _)); refine blk_put (cs := #[.string ((rd_T98 t206 x11_1).f0), .int .i32 ((rd_T98 t206 x11_1).f1), .int .i32 0, .bool false]) ?_ 2 _ rfl; (with_reducible repeat (first | refine blk_drewN ?_ _ | refine blk_drew ?_ | refine blk_alloc ?_ _)); refine blk_put (cs := #[.string ((rd_T98 t206 x11_1).f0), .int .i32 0, .int .i32 0, .bool false]) ?_ 1 _ rfl; (with_reducible repeat (first | refine blk_drewN ?_ _ | refine blk_drew ?_ | refine blk_alloc ?_ _)); refine blk_put (cs := #[.string (⟨#[]⟩ : ByteArray), .int .i32 0, .int .i32 0, .bool false]) ?_ 0 _ rfl; (with_reducible repeat (first | refine blk_drewN ?_ _ | refine blk_drew ?_ | refine blk_alloc ?_ _)); exact BK210.out⟩, ⟨by repeat (first | (with_reducible first | exact HB.out | apply below_alloc | apply pw_below_drewN | apply below_drew1 | refine below_set ?_ GE210.out) | exact HB.out)⟩⟩
                  · rw [if_neg c14] at H
                    exact absurd H (by simp)
                · rw [if_neg c13] at H
                  have c13b0 : decide ((((rd_T98 t206 x11_1).f0).size : Int) < (a0.size : Int)) = false := decide_eq_false c13
                  have c13b1 : decide (((rd_T98 t206 x11_1).f0).size < a0.size) = false := decide_eq_false (fun h => c13 (Int.ofNat_lt.mpr h))
                  clear c13
                  (first | rw [c13b0] | (simp only [i64_w, i32_w]; rw [c13b0]) | skip)
                  have H' := Aside0.mk H
                  clear H
                  go_wp2
                  go_meet
                  case rel => exact ⟨_, (false), (by first | rfl | (simp; done) | (simp [*]; done) | (unfold bt; split <;> first | rfl | (exfalso; simp_all; done) | (exfalso; simp_all; omega))), H', ⟨by have := HK1.out; first | omega | exact Nat.le_refl _⟩, ⟨by (with_reducible repeat (first | apply Kd.R_alloc | apply Kd.R_drewN | apply Kd.R_drew)); exact Kd.R_mono (Kd.R_far (p := ⟨gb210, 3, none⟩) (Kd.R_far (p := ⟨gb210, 2, none⟩) (Kd.R_far (p := ⟨gb210, 1, none⟩) (Kd.R_far (p := ⟨gb210, 0, none⟩) (Kd.R_types HO_5.out BK210.out (by decide)) (fun _ hk => hk.2) (.string ((rd_T98 t206 x11_1).f0))) (fun _ hk => hk.2) (.int .i32 ((rd_T98 t206 x11_1).f1))) (fun _ hk => hk.2) (.int .i32 ((rd_T98 t206 x11_1).f2))) (fun _ hk => hk.2) (.bool ((rd_T98 t206 x11_1).f3))) (fun _ hk => trivial)⟩, ⟨by (with_reducible repeat (first | apply Kd.R_alloc | apply Kd.R_drewN | apply Kd.R_drew)); exact Kd.R_mono (Kd.R_far (p := ⟨gb210, 3, none⟩) (Kd.R_far (p := ⟨gb210, 2, none⟩) (Kd.R_far (p := ⟨gb210, 1, none⟩) (Kd.R_far (p := ⟨gb210, 0, none⟩) (Kd.R_mono HO_9.out (fun k_ hk => (⟨hk, hk.2⟩ : _ ∧ k_ ≠ gb210))) (fun _ hk => hk.2) (.string ((rd_T98 t206 x11_1).f0))) (fun _ hk => hk.2) (.int .i32 ((rd_T98 t206 x11_1).f1))) (fun _ hk => hk.2) (.int .i32 ((rd_T98 t206 x11_1).f2))) (fun _ hk => hk.2) (.bool ((rd_T98 t206 x11_1).f3))) (fun _ hk => hk.1.2)⟩, ⟨by (with_reducible repeat (first | refine blk_drewN ?_ _ | refine blk_drew ?_ | refine blk_alloc ?_ _)); refine blk_put (cs := #[.string ((rd_T98 t206 x11_1).f0), .int .i32 ((rd_T98 t206 x11_1).f1), .int .i32 ((rd_T98 t206 x11_1).f2), .bool false]) ?_ 3 _ rfl; (with_reducible repeat (first | refine blk_drewN ?_ _ | refine blk_drew ?_ | refine blk_alloc ?_ _)); refine blk_put (cs := #[.string ((rd_T98 t206 x11_1).f0), .int .i32 ((rd_T98 t206 x11_1).f1), .int .i32 0, .bool false]) ?_ 2 _ rfl; (with_reducible repeat (first | refine blk_drewN ?_ _ | refine blk_drew ?_ | refine blk_alloc ?_ _)); refine blk_put (cs := #[.string ((rd_T98 t206 x11_1).f0), .int .i32 0, .int .i32 0, .bool false]) ?_ 1 _ rfl; (with_reducible repeat (first | refine blk_drewN ?_ _ | refine blk_drew ?_ | refine blk_alloc ?_ _)); refine blk_put (cs := #[.string (⟨#[]⟩ : ByteArray), .int .i32 0, .int .i32 0, .bool false]) ?_ 0 _ rfl; (with_reducible repeat (first | refine blk_drewN ?_ _ | refine blk_drew ?_ | refine blk_alloc ?_ _)); exact BK210.out⟩, ⟨by repeat (first | (with_reducible first | exact HB.out | apply below_alloc | apply pw_below_drewN | apply below_drew1 | refine below_set ?_ GE210.out) | exact HB.out)⟩⟩
              case rest =>
                clear HC10
                try clear c1
                try clear p1
                try clear q1
                try clear hx1
                try clear p2
                try clear q2
                try clear hx2
                try clear c5
                try clear c5b0
                try clear c6
                try clear c6b0
                try clear p6
                try clear c7
                try clear c7b0
                try clear c9
                try clear c13
                try clear c13b0
                try clear c13b1
                try clear c14
                try clear c14b0
                try clear c14b1
                try clear p15
                try clear q15
                try clear hx15
                try clear hcz12_0
                try clear hcz12_1
                try clear hcz12_2
                try clear hcz12_3
                try clear hfz12_0
                try clear hfz12_1
                try clear hfz12_2
                try clear hfz12_3
                try clear hx209_0
                try clear hx209_1
                try clear hx209_2
                try clear hx209_3
                try clear p15
                try clear p2
                try clear p209
                try clear q15
                try clear q209
                obtain ⟨kq, x32_9, rfl, HA, HJ9, HO_5, HO_9, BK210, HB⟩ := hcut
                cases kq with
                | zero => exact absurd HA.out (by simp [entity_Longest.j1])
                | succ kj9 =>
                  have H := HA.out
                  clear HA
                  simp only [entity_Longest.j1] at H
                  by_cases c16 : x32_9 = true
                  · subst c16
                    have H1 : (if (wrap64 ((((rd_T98 t206 x11_1).f0).size : Int) + 1)) > x4_1 then ((entity_says.f ((rd_T98 t206 x11_1).f0) ((rd_T98 t206 x11_1).f1) ((rd_T98 t206 x11_1).f2) ((rd_T98 t206 x11_1).f3)).bind fun t212 => (entity_Longest.l0 kj9 a0 (wrap64 ((((rd_T98 t206 x11_1).f0).size : Int) + 1)) t212 t206 (t206.length : Int) (wrap64 (x11_1 + 1)))) else (entity_Longest.l0 kj9 a0 x4_1 x5_1 t206 (t206.length : Int) (wrap64 (x11_1 + 1)))) = some (r1, r2) := by rw [if_pos rfl] at H; exact H
                    clear H
                    have H := H1
                    clear H1
                    by_cases c17 : (wrap64 ((((rd_T98 t206 x11_1).f0).size : Int) + 1)) > x4_1
                    · rw [if_pos c17] at H
                      have c17b0 : decide (x4_1 < (wrap64 ((((rd_T98 t206 x11_1).f0).size : Int) + 1))) = true := decide_eq_true c17
                      clear c17
                      replace H := Option.bind_eq_some_iff.mp H
                      obtain ⟨t212, A180, H⟩ := H
                      replace H : (entity_Longest.l0 kj9 a0 (wrap64 ((((rd_T98 t206 x11_1).f0).size : Int) + 1)) t212 t206 (t206.length : Int) (wrap64 (x11_1 + 1))) = some (r1, r2) := H
                      have A18 := Aside0.mk A180
                      clear A180
                      have H' := Aside0.mk H
                      clear H
                      have hcz19_0 : wc.cell? ⟨gb210, 0, none⟩ = some (.string ((rd_T98 t206 x11_1).f0)) := (blk_cell BK210.out 0).trans rfl
                      have hcz19_1 : wc.cell? ⟨gb210, 1, none⟩ = some (.int .i32 ((rd_T98 t206 x11_1).f1)) := (blk_cell BK210.out 1).trans rfl
                      have hcz19_2 : wc.cell? ⟨gb210, 2, none⟩ = some (.int .i32 ((rd_T98 t206 x11_1).f2)) := (blk_cell BK210.out 2).trans rfl
                      have hcz19_3 : wc.cell? ⟨gb210, 3, none⟩ = some (.bool ((rd_T98 t206 x11_1).f3)) := (blk_cell BK210.out 3).trans rfl
                      have hfz19_0 := blk_frozen BK210.out 0
                      have hfz19_1 := blk_frozen BK210.out 1
                      have hfz19_2 := blk_frozen BK210.out 2
                      have hfz19_3 := blk_frozen BK210.out 3
                      go_wp2_with (first | ((with_reducible refine gate_callee (f := 80) rfl ?_); refine goesL_ (some 43) rfl rfl Try.func80 (by kernel_rfl) rfl #[.agg #[.string ((rd_T98 t206 x11_1).f0), .int .i32 ((rd_T98 t206 x11_1).f1), .int .i32 ((rd_T98 t206 x11_1).f2), .bool ((rd_T98 t206 x11_1).f3)]] rfl (by (try simp only [List.map_toArray, List.map_cons, List.map_nil]); first | done | rfl | (simp only [List.length_drop, List.length_take]; rfl) | (simp [*] <;> rfl)) ?_; (with_reducible refine (entity_says.calls ((rd_T98 t206 x11_1).f0) ((rd_T98 t206 x11_1).f1) ((rd_T98 t206 x11_1).f2) ((rd_T98 t206 x11_1).f3) t212 _ A18.out).mono ?_); rintro e w20 ⟨v213, rfl, ho0, hb⟩; refine ⟨_, rfl, ?_⟩; have n0_ := Aside0.mk (Kd.R_elder' (by (with_reducible repeat (first | apply Kd.R_alloc | apply Kd.R_drewN | apply Kd.R_drew)); exact HO_5.out) (Kd.R_base ho0) hb); have n1_ := Aside0.mk (Kd.R_below (by (with_reducible repeat (first | apply Kd.R_alloc | apply Kd.R_drewN | apply Kd.R_drew)); exact HO_9.out) hb); have n2_ := Aside0.mk (Kd.R_lower (Kd.R_new' ho0 (Kd.R_lt (by (with_reducible repeat (first | apply Kd.R_alloc | apply Kd.R_drewN | apply Kd.R_drew)); exact HO_5.out))) (below_size (by repeat (first | (with_reducible first | exact HB.out | apply below_alloc | apply pw_below_drewN | apply below_drew1 | refine below_set ?_ GE210.out) | exact HB.out)))); have n3_ := Aside0.mk (blk_below (g := gb210) (o := .cells #[.string ((rd_T98 t206 x11_1).f0), .int .i32 ((rd_T98 t206 x11_1).f1), .int .i32 ((rd_T98 t206 x11_1).f2), .bool ((rd_T98 t206 x11_1).f3)] 98 (0, 0)) (by (with_reducible repeat (first | refine blk_drewN ?_ _ | refine blk_drew ?_ | refine blk_alloc ?_ _)); exact BK210.out) hb); have n4_ := Aside0.mk (below_step (by repeat (first | (with_reducible first | exact HB.out | apply below_alloc | apply pw_below_drewN | apply below_drew1 | refine below_set ?_ GE210.out) | exact HB.out)) hb); clear HO_5; clear HO_9; clear BK210; clear HB; have HO_5 := n0_; have HO_9 := n1_; have HO214 := n2_; have BK210 := n3_; have HB := n4_; clear n0_ n1_ n2_ n3_ n4_; (try clear hb); (try clear hb2); (try clear hk); (try clear hi); (try clear ho0)))
                      go_roundg kj9
                      case measure => have := HK1.out; have := HJ9.out; omega
                      case rel => exact ⟨(wrap64 ((((rd_T98 t206 x11_1).f0).size : Int) + 1)), (t212), (wrap64 (x11_1 + 1)), (by first | rfl | (simp; done) | (simp [*]; done) | (unfold bt; split <;> first | rfl | (exfalso; simp_all; done) | (exfalso; simp_all; omega))), (by first | rfl | (simp; done) | (simp [*]; done) | (unfold bt; split <;> first | rfl | (exfalso; simp_all; done) | (exfalso; simp_all; omega))), H', ⟨by have := HK1.out; have := HJ9.out; omega⟩, ⟨by (with_reducible repeat (first | apply Kd.R_alloc | apply Kd.R_drewN | apply Kd.R_drew)); exact Kd.R_mono HO214.out (fun _ hk => trivial)⟩, ⟨by (with_reducible repeat (first | apply Kd.R_alloc | apply Kd.R_drewN | apply Kd.R_drew)); exact Kd.R_mono HO_9.out (fun _ hk => trivial)⟩, ⟨by repeat (first | (with_reducible first | exact HB.out | apply below_alloc | apply pw_below_drewN | apply below_drew1 | refine below_set ?_ GE210.out) | exact HB.out)⟩⟩
                    · rw [if_neg c17] at H
                      have c17b0 : decide (x4_1 < (wrap64 ((((rd_T98 t206 x11_1).f0).size : Int) + 1))) = false := decide_eq_false c17
                      clear c17
                      have H' := Aside0.mk H
                      clear H
                      go_wp2
                      go_roundg kj9
                      case measure => have := HK1.out; have := HJ9.out; omega
                      case rel => exact ⟨(x4_1), (x5_1), (wrap64 (x11_1 + 1)), (by first | rfl | (simp; done) | (simp [*]; done) | (unfold bt; split <;> first | rfl | (exfalso; simp_all; done) | (exfalso; simp_all; omega))), (by first | rfl | (simp; done) | (simp [*]; done) | (unfold bt; split <;> first | rfl | (exfalso; simp_all; done) | (exfalso; simp_all; omega))), H', ⟨by have := HK1.out; have := HJ9.out; omega⟩, ⟨by (with_reducible repeat (first | apply Kd.R_alloc | apply Kd.R_drewN | apply Kd.R_drew)); exact HO_5.out⟩, ⟨by (with_reducible repeat (first | apply Kd.R_alloc | apply Kd.R_drewN | apply Kd.R_drew)); exact Kd.R_mono HO_9.out (fun _ hk => trivial)⟩, ⟨by repeat (first | (with_reducible first | exact HB.out | apply below_alloc | apply pw_below_drewN | apply below_drew1 | refine below_set ?_ GE210.out) | exact HB.out)⟩⟩
                  · replace c16 := Bool.eq_false_iff.mpr c16
                    subst c16
                    have H1 : (if ((rd_T98 t206 x11_1).f3) = true then (if (((rd_T98 t206 x11_1).f0).size : Int) > x4_1 then ((entity_says.f ((rd_T98 t206 x11_1).f0) ((rd_T98 t206 x11_1).f1) ((rd_T98 t206 x11_1).f2) ((rd_T98 t206 x11_1).f3)).bind fun t215 => (entity_Longest.l0 kj9 a0 (((rd_T98 t206 x11_1).f0).size : Int) t215 t206 (t206.length : Int) (wrap64 (x11_1 + 1)))) else (entity_Longest.l0 kj9 a0 x4_1 x5_1 t206 (t206.length : Int) (wrap64 (x11_1 + 1)))) else (entity_Longest.l0 kj9 a0 x4_1 x5_1 t206 (t206.length : Int) (wrap64 (x11_1 + 1)))) = some (r1, r2) := by rw [if_neg (show ¬ (false = true) by decide)] at H; exact H
                    clear H
                    have H := H1
                    clear H1
                    by_cases c21 : ((rd_T98 t206 x11_1).f3) = true
                    · rw [if_pos c21] at H
                      have c21b0 : ((rd_T98 t206 x11_1).f3) = true := c21
                      clear c21
                      by_cases c22 : (((rd_T98 t206 x11_1).f0).size : Int) > x4_1
                      · rw [if_pos c22] at H
                        have c22b0 : decide (x4_1 < (((rd_T98 t206 x11_1).f0).size : Int)) = true := decide_eq_true c22
                        clear c22
                        replace H := Option.bind_eq_some_iff.mp H
                        obtain ⟨t215, A230, H⟩ := H
                        replace H : (entity_Longest.l0 kj9 a0 (((rd_T98 t206 x11_1).f0).size : Int) t215 t206 (t206.length : Int) (wrap64 (x11_1 + 1))) = some (r1, r2) := H
                        have A23 := Aside0.mk A230
                        clear A230
                        have H' := Aside0.mk H
                        clear H
                        have hcz24_0 : wc.cell? ⟨gb210, 0, none⟩ = some (.string ((rd_T98 t206 x11_1).f0)) := (blk_cell BK210.out 0).trans rfl
                        have hcz24_1 : wc.cell? ⟨gb210, 1, none⟩ = some (.int .i32 ((rd_T98 t206 x11_1).f1)) := (blk_cell BK210.out 1).trans rfl
                        have hcz24_2 : wc.cell? ⟨gb210, 2, none⟩ = some (.int .i32 ((rd_T98 t206 x11_1).f2)) := (blk_cell BK210.out 2).trans rfl
                        have hcz24_3 : wc.cell? ⟨gb210, 3, none⟩ = some (.bool ((rd_T98 t206 x11_1).f3)) := (blk_cell BK210.out 3).trans rfl
                        have hfz24_0 := blk_frozen BK210.out 0
                        have hfz24_1 := blk_frozen BK210.out 1
                        have hfz24_2 := blk_frozen BK210.out 2
                        have hfz24_3 := blk_frozen BK210.out 3
                        go_wp2_with (first | ((with_reducible refine gate_callee (f := 80) rfl ?_); refine goesL_ (some 43) rfl rfl Try.func80 (by kernel_rfl) rfl #[.agg #[.string ((rd_T98 t206 x11_1).f0), .int .i32 ((rd_T98 t206 x11_1).f1), .int .i32 ((rd_T98 t206 x11_1).f2), .bool ((rd_T98 t206 x11_1).f3)]] rfl (by (try simp only [List.map_toArray, List.map_cons, List.map_nil]); first | done | rfl | (simp only [List.length_drop, List.length_take]; rfl) | (simp [*] <;> rfl)) ?_; (with_reducible refine (entity_says.calls ((rd_T98 t206 x11_1).f0) ((rd_T98 t206 x11_1).f1) ((rd_T98 t206 x11_1).f2) ((rd_T98 t206 x11_1).f3) t215 _ A23.out).mono ?_); rintro e w25 ⟨v216, rfl, ho0, hb⟩; refine ⟨_, rfl, ?_⟩; have n0_ := Aside0.mk (Kd.R_elder' (by (with_reducible repeat (first | apply Kd.R_alloc | apply Kd.R_drewN | apply Kd.R_drew)); exact HO_5.out) (Kd.R_base ho0) hb); have n1_ := Aside0.mk (Kd.R_below (by (with_reducible repeat (first | apply Kd.R_alloc | apply Kd.R_drewN | apply Kd.R_drew)); exact HO_9.out) hb); have n2_ := Aside0.mk (Kd.R_lower (Kd.R_new' ho0 (Kd.R_lt (by (with_reducible repeat (first | apply Kd.R_alloc | apply Kd.R_drewN | apply Kd.R_drew)); exact HO_5.out))) (below_size (by repeat (first | (with_reducible first | exact HB.out | apply below_alloc | apply pw_below_drewN | apply below_drew1 | refine below_set ?_ GE210.out) | exact HB.out)))); have n3_ := Aside0.mk (blk_below (g := gb210) (o := .cells #[.string ((rd_T98 t206 x11_1).f0), .int .i32 ((rd_T98 t206 x11_1).f1), .int .i32 ((rd_T98 t206 x11_1).f2), .bool ((rd_T98 t206 x11_1).f3)] 98 (0, 0)) (by (with_reducible repeat (first | refine blk_drewN ?_ _ | refine blk_drew ?_ | refine blk_alloc ?_ _)); exact BK210.out) hb); have n4_ := Aside0.mk (below_step (by repeat (first | (with_reducible first | exact HB.out | apply below_alloc | apply pw_below_drewN | apply below_drew1 | refine below_set ?_ GE210.out) | exact HB.out)) hb); clear HO_5; clear HO_9; clear BK210; clear HB; have HO_5 := n0_; have HO_9 := n1_; have HO217 := n2_; have BK210 := n3_; have HB := n4_; clear n0_ n1_ n2_ n3_ n4_; (try clear hb); (try clear hb2); (try clear hk); (try clear hi); (try clear ho0)))
                        go_roundg kj9
                        case measure => have := HK1.out; have := HJ9.out; omega
                        case rel => exact ⟨((((rd_T98 t206 x11_1).f0).size : Int)), (t215), (wrap64 (x11_1 + 1)), (by first | rfl | (simp; done) | (simp [*]; done) | (unfold bt; split <;> first | rfl | (exfalso; simp_all; done) | (exfalso; simp_all; omega))), (by first | rfl | (simp; done) | (simp [*]; done) | (unfold bt; split <;> first | rfl | (exfalso; simp_all; done) | (exfalso; simp_all; omega))), H', ⟨by have := HK1.out; have := HJ9.out; omega⟩, ⟨by (with_reducible repeat (first | apply Kd.R_alloc | apply Kd.R_drewN | apply Kd.R_drew)); exact Kd.R_mono HO217.out (fun _ hk => trivial)⟩, ⟨by (with_reducible repeat (first | apply Kd.R_alloc | apply Kd.R_drewN | apply Kd.R_drew)); exact Kd.R_mono HO_9.out (fun _ hk => trivial)⟩, ⟨by repeat (first | (with_reducible first | exact HB.out | apply below_alloc | apply pw_below_drewN | apply below_drew1 | refine below_set ?_ GE210.out) | exact HB.out)⟩⟩
                      · rw [if_neg c22] at H
                        have c22b0 : decide (x4_1 < (((rd_T98 t206 x11_1).f0).size : Int)) = false := decide_eq_false c22
                        clear c22
                        have H' := Aside0.mk H
                        clear H
                        have hcz26_0 : wc.cell? ⟨gb210, 0, none⟩ = some (.string ((rd_T98 t206 x11_1).f0)) := (blk_cell BK210.out 0).trans rfl
                        have hcz26_1 : wc.cell? ⟨gb210, 1, none⟩ = some (.int .i32 ((rd_T98 t206 x11_1).f1)) := (blk_cell BK210.out 1).trans rfl
                        have hcz26_2 : wc.cell? ⟨gb210, 2, none⟩ = some (.int .i32 ((rd_T98 t206 x11_1).f2)) := (blk_cell BK210.out 2).trans rfl
                        have hcz26_3 : wc.cell? ⟨gb210, 3, none⟩ = some (.bool ((rd_T98 t206 x11_1).f3)) := (blk_cell BK210.out 3).trans rfl
                        have hfz26_0 := blk_frozen BK210.out 0
                        have hfz26_1 := blk_frozen BK210.out 1
                        have hfz26_2 := blk_frozen BK210.out 2
                        have hfz26_3 := blk_frozen BK210.out 3
                        go_wp2
                        go_roundg kj9
                        case measure => have := HK1.out; have := HJ9.out; omega
                        case rel => exact ⟨(x4_1), (x5_1), (wrap64 (x11_1 + 1)), (by first | rfl | (simp; done) | (simp [*]; done) | (unfold bt; split <;> first | rfl | (exfalso; simp_all; done) | (exfalso; simp_all; omega))), (by first | rfl | (simp; done) | (simp [*]; done) | (unfold bt; split <;> first | rfl | (exfalso; simp_all; done) | (exfalso; simp_all; omega))), H', ⟨by have := HK1.out; have := HJ9.out; omega⟩, ⟨by (with_reducible repeat (first | apply Kd.R_alloc | apply Kd.R_drewN | apply Kd.R_drew)); exact HO_5.out⟩, ⟨by (with_reducible repeat (first | apply Kd.R_alloc | apply Kd.R_drewN | apply Kd.R_drew)); exact Kd.R_mono HO_9.out (fun _ hk => trivial)⟩, ⟨by repeat (first | (with_reducible first | exact HB.out | apply below_alloc | apply pw_below_drewN | apply below_drew1 | refine below_set ?_ GE210.out) | exact HB.out)⟩⟩
                    · rw [if_neg c21] at H
                      have c21b0 : ((rd_T98 t206 x11_1).f3) = false := by simpa using c21
                      clear c21
                      have H' := Aside0.mk H
                      clear H
                      have hcz27_0 : wc.cell? ⟨gb210, 0, none⟩ = some (.string ((rd_T98 t206 x11_1).f0)) := (blk_cell BK210.out 0).trans rfl
                      have hcz27_1 : wc.cell? ⟨gb210, 1, none⟩ = some (.int .i32 ((rd_T98 t206 x11_1).f1)) := (blk_cell BK210.out 1).trans rfl
                      have hcz27_2 : wc.cell? ⟨gb210, 2, none⟩ = some (.int .i32 ((rd_T98 t206 x11_1).f2)) := (blk_cell BK210.out 2).trans rfl
                      have hcz27_3 : wc.cell? ⟨gb210, 3, none⟩ = some (.bool ((rd_T98 t206 x11_1).f3)) := (blk_cell BK210.out 3).trans rfl
                      have hfz27_0 := blk_frozen BK210.out 0
                      have hfz27_1 := blk_frozen BK210.out 1
                      have hfz27_2 := blk_frozen BK210.out 2
                      have hfz27_3 := blk_frozen BK210.out 3
                      go_wp2
                      go_roundg kj9
                      case measure => have := HK1.out; have := HJ9.out; omega
                      case rel => exact ⟨(x4_1), (x5_1), (wrap64 (x11_1 + 1)), (by first | rfl | (simp; done) | (simp [*]; done) | (unfold bt; split <;> first | rfl | (exfalso; simp_all; done) | (exfalso; simp_all; omega))), (by first | rfl | (simp; done) | (simp [*]; done) | (unfold bt; split <;> first | rfl | (exfalso; simp_all; done) | (exfalso; simp_all; omega))), H', ⟨by have := HK1.out; have := HJ9.out; omega⟩, ⟨by (with_reducible repeat (first | apply Kd.R_alloc | apply Kd.R_drewN | apply Kd.R_drew)); exact HO_5.out⟩, ⟨by (with_reducible repeat (first | apply Kd.R_alloc | apply Kd.R_drewN | apply Kd.R_drew)); exact Kd.R_mono HO_9.out (fun _ hk => trivial)⟩, ⟨by repeat (first | (with_reducible first | exact HB.out | apply below_alloc | apply pw_below_drewN | apply below_drew1 | refine below_set ?_ GE210.out) | exact HB.out)⟩⟩
            · replace c9 := Bool.eq_false_iff.mpr c9
              subst c9
              have H1 : (entity_Longest.l0 k1 a0 x4_1 x5_1 t206 (t206.length : Int) (wrap64 (x11_1 + 1))) = some (r1, r2) := by rw [if_neg (show ¬ (false = true) by decide)] at H; exact H
              clear H
              have H := H1
              clear H1
              have H' := Aside0.mk H
              clear H
              have p209 : 0 ≤ (x11_1 : Int) := of_decide_eq_true (by first | (with_reducible assumption) | assumption)
              have q209 : x11_1 < (t206.length : Int) := of_decide_eq_true (by first | (with_reducible assumption) | assumption)
              obtain ⟨ad209, e209, hx209_0, hx209_1, hx209_2, hx209_3⟩ := at_T98 (Kd.R_reads' HO_9.out).2.2 x11_1 p209 q209
              cases e209
              replace p209 := eq_true p209
              replace q209 := eq_true q209
              go_wp2_with (first | ((with_reducible refine gate_dst (N := 7) rfl ?_); refine box_event ?hg (N := 7) ?hd (cs := #[.string (⟨#[]⟩ : ByteArray), .int .i32 0, .int .i32 0, .bool false]) (t := 98) ?hr ?_; (case hd => rfl); (case hg => rfl); (case hr => first | (go_simp; done) | (go_simp; rfl)); intro gb210 hg w28 hbox hb; have n0_ := Aside0.mk (Kd.R_below (by (with_reducible repeat (first | apply Kd.R_alloc | apply Kd.R_drewN | apply Kd.R_drew)); exact HO_5.out) hb); have n1_ := Aside0.mk (Kd.R_below (Kd.R_elderB (by (with_reducible repeat (first | apply Kd.R_alloc | apply Kd.R_drewN | apply Kd.R_drew)); exact HO_9.out) gb210 (Nat.le_of_eq hg.symm)) hb); have n2_ := Aside0.mk (below_step (by repeat (first | (with_reducible first | exact HB.out | apply below_alloc | apply pw_below_drewN | apply below_drew1) | exact HB.out)) hb); have n3_ := Aside0.mk (hbox); have n4_ := Aside0.mk ((by rw [hg]; exact (below_size (by repeat (first | (with_reducible first | exact HB.out | apply below_alloc | apply pw_below_drewN | apply below_drew1) | exact HB.out))) : w.heap.size ≤ gb210)); have n5_ := Aside0.mk ((by rw [hg]; exact (below_size (by repeat (first | (with_reducible first | exact HB.out | apply below_alloc | apply pw_below_drewN | apply below_drew1) | exact HB.out))) : w.heap.size ≤ gb210)); clear HO_5; clear HO_9; clear HB; have HO_5 := n0_; have HO_9 := n1_; have HB := n2_; have BK210 := n3_; have GW210 := n4_; have GE210 := n5_; clear n0_ n1_ n2_ n3_ n4_ n5_; clear hb hbox hg; have hcz29_0 : w28.cell? ⟨gb210, 0, none⟩ = some (.string (⟨#[]⟩ : ByteArray)) := (blk_cell BK210.out 0).trans rfl; have hcz29_1 : w28.cell? ⟨gb210, 1, none⟩ = some (.int .i32 0) := (blk_cell BK210.out 1).trans rfl; have hcz29_2 : w28.cell? ⟨gb210, 2, none⟩ = some (.int .i32 0) := (blk_cell BK210.out 2).trans rfl; have hcz29_3 : w28.cell? ⟨gb210, 3, none⟩ = some (.bool false) := (blk_cell BK210.out 3).trans rfl; have hfz29_0 := blk_frozen BK210.out 0; have hfz29_1 := blk_frozen BK210.out 1; have hfz29_2 := blk_frozen BK210.out 2; have hfz29_3 := blk_frozen BK210.out 3) | ((with_reducible refine gate_callee (f := 79) rfl ?_); refine goesL_ (some 18) rfl rfl Try.func79 (by kernel_rfl) rfl #[.string a0, .string ((rd_T98 t206 x11_1).f0)] rfl (by (try simp only [List.map_toArray, List.map_cons, List.map_nil]); first | done | rfl | (simp only [List.length_drop, List.length_take]; rfl) | (simp [*] <;> rfl)) ?_; (with_reducible refine (strings_HasPrefix.calls a0 ((rd_T98 t206 x11_1).f0) false _ A8.out).mono ?_); rintro e w' ⟨rfl, ⟨nd, rfl⟩⟩; refine ⟨_, rfl, ?_⟩))
              go_roundg k1
              case measure => have := HK1.out; omega
              case rel => exact ⟨(x4_1), (x5_1), (wrap64 (x11_1 + 1)), (by first | rfl | (simp; done) | (simp [*]; done) | (unfold bt; split <;> first | rfl | (exfalso; simp_all; done) | (exfalso; simp_all; omega))), (by first | rfl | (simp; done) | (simp [*]; done) | (unfold bt; split <;> first | rfl | (exfalso; simp_all; done) | (exfalso; simp_all; omega))), H', ⟨by have := HK1.out; omega⟩, ⟨by (with_reducible repeat (first | apply Kd.R_alloc | apply Kd.R_drewN | apply Kd.R_drew)); exact Kd.R_mono (Kd.R_far (p := ⟨gb210, 3, none⟩) (Kd.R_far (p := ⟨gb210, 2, none⟩) (Kd.R_far (p := ⟨gb210, 1, none⟩) (Kd.R_far (p := ⟨gb210, 0, none⟩) (Kd.R_types HO_5.out BK210.out (by decide)) (fun _ hk => hk.2) (.string ((rd_T98 t206 x11_1).f0))) (fun _ hk => hk.2) (.int .i32 ((rd_T98 t206 x11_1).f1))) (fun _ hk => hk.2) (.int .i32 ((rd_T98 t206 x11_1).f2))) (fun _ hk => hk.2) (.bool ((rd_T98 t206 x11_1).f3))) (fun _ hk => trivial)⟩, ⟨by (with_reducible repeat (first | apply Kd.R_alloc | apply Kd.R_drewN | apply Kd.R_drew)); exact Kd.R_mono (Kd.R_far (p := ⟨gb210, 3, none⟩) (Kd.R_far (p := ⟨gb210, 2, none⟩) (Kd.R_far (p := ⟨gb210, 1, none⟩) (Kd.R_far (p := ⟨gb210, 0, none⟩) (Kd.R_mono HO_9.out (fun k_ hk => (⟨hk, hk.2⟩ : _ ∧ k_ ≠ gb210))) (fun _ hk => hk.2) (.string ((rd_T98 t206 x11_1).f0))) (fun _ hk => hk.2) (.int .i32 ((rd_T98 t206 x11_1).f1))) (fun _ hk => hk.2) (.int .i32 ((rd_T98 t206 x11_1).f2))) (fun _ hk => hk.2) (.bool ((rd_T98 t206 x11_1).f3))) (fun _ hk => trivial)⟩, ⟨by repeat (first | (with_reducible first | exact HB.out | apply below_alloc | apply pw_below_drewN | apply below_drew1 | refine below_set ?_ GE210.out) | exact HB.out)⟩⟩
          · rw [if_neg c7] at H
            exact absurd H (by simp)
        · rw [if_neg c6] at H
          exact absurd H (by simp)
      · rw [if_neg c5] at H
        have c5b0 : decide (x11_1 < (t206.length : Int)) = false := decide_eq_false c5
        clear c5
        simp only [Option.some.injEq, Prod.mk.injEq] at H
        obtain ⟨rfl, rfl⟩ := H
        go_wp2
        go_ret2
        exact ⟨_, by first | rfl | (simp [errW_none, errW_some] <;> rfl) | (simp [*, errW_none, errW_some] <;> rfl), by (with_reducible repeat (first | apply Kd.R_alloc | apply Kd.R_drewN | apply Kd.R_drew)); exact HO_5.out, by repeat (first | (with_reducible first | exact HB.out | apply below_alloc | apply pw_below_drewN | apply below_drew1) | exact HB.out)⟩

/-! ### charref_named: function 44 -/
mutual
def charref_named.j0 : Nat → ByteArray → Bool → Bool → Bool → Option (ByteArray × Int × Bool)
  | 0, _, _, _, _ => none
  | k + 1, x0, x1, x2, x14 => if x14 = true then (some ((⟨#[]⟩ : ByteArray), 0, false)) else ((entity_Longest.f k x0).bind fun bt220 => (if bt220.1 = 0 then (some ((⟨#[]⟩ : ByteArray), 0, true)) else (if x1 = true then (if 0 ≤ (wrap64 (bt220.1 - 1)) then (if (wrap64 (bt220.1 - 1)) < (x0.size : Int) then (charref_named.j1 k x0 x2 bt220.1 bt220.2 ((bt x0 (wrap64 (bt220.1 - 1))) != 59)) else (none)) else (none)) else (charref_named.j1 k x0 x2 bt220.1 bt220.2 false))))
def charref_named.j1 : Nat → ByteArray → Bool → Int → List Int → Bool → Option (ByteArray × Int × Bool)
  | 0, _, _, _, _, _ => none
  | k + 1, x0, x2, x7, x8, x31 => if x31 = true then (if x7 = (x0.size : Int) then (if x2 = true then (some (Hc_text x8, x7, true)) else (some ((⟨#[]⟩ : ByteArray), 0, false))) else (if 0 ≤ x7 then (if x7 < (x0.size : Int) then ((charref_word.f (bt x0 x7)).bind fun t224 => (if t224 = true then (some ((⟨#[]⟩ : ByteArray), 0, true)) else (if (bt x0 x7) = 61 then (some ((⟨#[]⟩ : ByteArray), 0, true)) else (some (Hc_text x8, x7, true))))) else (none)) else (none))) else (some (Hc_text x8, x7, true))
end
def charref_named.f (k : Nat) (a0 : ByteArray) (a1 : Bool) (a2 : Bool) : Option (ByteArray × Int × Bool) := if a2 = true then (charref_named.j0 k a0 a1 a2 false) else ((entity_Begins.f k a0).bind fun t219 => (charref_named.j0 k a0 a1 a2 t219))
theorem charref_named.mono_l : ∀ k, (∀ y0 y1 y2 y3, LeO (charref_named.j0 k y0 y1 y2 y3) (charref_named.j0 (k + 1) y0 y1 y2 y3)) ∧ (∀ y0 y1 y2 y3 y4, LeO (charref_named.j1 k y0 y1 y2 y3 y4) (charref_named.j1 (k + 1) y0 y1 y2 y3 y4))
  | 0 => ⟨fun _ _ _ _ r h => by simp [charref_named.j0] at h, fun _ _ _ _ _ r h => by simp [charref_named.j1] at h⟩
  | k + 1 => by
    obtain ⟨ih0, ih1⟩ := charref_named.mono_l k
    refine ⟨?_, ?_⟩
    · intro y0 y1 y2 y3
      unfold charref_named.j0
      repeat' first
      | (with_reducible exact ih0 _ _ _ _)
      | (with_reducible exact ih1 _ _ _ _ _)
      | (with_reducible exact entity_Begins.mono _ _)
      | (with_reducible exact entity_Longest.mono _ _)
      | (with_reducible exact LeO.refl _)
      | (with_reducible exact LeO.none _)
      | (with_reducible refine LeO.ite ?_ ?_)
      | (with_reducible refine LeO.bind ?_ (fun _ => ?_))
      | exact ih0 _ _ _ _
      | exact ih1 _ _ _ _ _
      | exact entity_Begins.mono _ _
      | exact entity_Longest.mono _ _
      | exact LeO.none _
      | refine LeO.ite ?_ ?_
      | refine LeO.bind ?_ (fun _ => ?_)
    · intro y0 y1 y2 y3 y4
      unfold charref_named.j1
      repeat' first
      | (with_reducible exact ih0 _ _ _ _)
      | (with_reducible exact ih1 _ _ _ _ _)
      | (with_reducible exact entity_Begins.mono _ _)
      | (with_reducible exact entity_Longest.mono _ _)
      | (with_reducible exact LeO.refl _)
      | (with_reducible exact LeO.none _)
      | (with_reducible refine LeO.ite ?_ ?_)
      | (with_reducible refine LeO.bind ?_ (fun _ => ?_))
      | exact ih0 _ _ _ _
      | exact ih1 _ _ _ _ _
      | exact entity_Begins.mono _ _
      | exact entity_Longest.mono _ _
      | exact LeO.none _
      | refine LeO.ite ?_ ?_
      | refine LeO.bind ?_ (fun _ => ?_)
theorem charref_named.mono : ∀ a0 a1 a2 k, LeO (charref_named.f k a0 a1 a2) (charref_named.f (k + 1) a0 a1 a2) := by
  intro a0 a1 a2 k
  obtain ⟨ih0, ih1⟩ := charref_named.mono_l k
  unfold charref_named.f
  repeat' first
      | (with_reducible exact ih0 _ _ _ _)
      | (with_reducible exact ih1 _ _ _ _ _)
      | (with_reducible exact entity_Begins.mono _ _)
      | (with_reducible exact entity_Longest.mono _ _)
      | (with_reducible exact LeO.refl _)
      | (with_reducible exact LeO.none _)
      | (with_reducible refine LeO.ite ?_ ?_)
      | (with_reducible refine LeO.bind ?_ (fun _ => ?_))
      | exact ih0 _ _ _ _
      | exact ih1 _ _ _ _ _
      | exact entity_Begins.mono _ _
      | exact entity_Longest.mono _ _
      | exact LeO.none _
      | refine LeO.ite ?_ ?_
      | refine LeO.bind ?_ (fun _ => ?_)
set_option maxHeartbeats 8000000 in
set_option maxRecDepth 100000 in
theorem charref_named.calls (k : Nat) (a0 : ByteArray) (a1 : Bool) (a2 : Bool) (r1 : ByteArray) (r2 : Int) (r3 : Bool) (w : World) (h : charref_named.f k a0 a1 a2 = some (r1, r2, r3)) :
    Calls Try.prog 44 #[.string a0, .bool a1, .bool a2] w fun e w' => e = .returned (.agg #[.string r1, .int .i64 r2, .bool r3]) ∧ Below w.heap.size w w' := by
  have hu60 := Try.underlying60
  have HB := Aside0.mk (Below.refl w.heap.size w)
  have H : (if a2 = true then (charref_named.j0 k a0 a1 a2 false) else ((entity_Begins.f k a0).bind fun t219 => (charref_named.j0 k a0 a1 a2 t219))) = some (r1, r2, r3) := h
  clear h
  have HC4 := Aside0.mk H
  clear H
  go_enter Try.func44, Try.ntmps44
  go_upto_region 1 with (first | ((with_reducible refine gate_dst (N := 6) rfl ?_); refine box_event ?hg (N := 6) ?hd (cs := #[.string (⟨#[]⟩ : ByteArray), .int .i64 0, .bool false]) (t := 60) ?hr ?_; (case hd => rfl); (case hg => rfl); (case hr => first | (go_simp; done) | (go_simp; rfl)); intro gb218 hg w5 hbox hb; have n0_ := Aside0.mk (below_step (by repeat (first | (with_reducible first | exact HB.out | apply below_alloc | apply pw_below_drewN | apply below_drew1) | exact HB.out)) hb); have n1_ := Aside0.mk (hbox); have n2_ := Aside0.mk ((by rw [hg]; exact (below_size (by repeat (first | (with_reducible first | exact HB.out | apply below_alloc | apply pw_below_drewN | apply below_drew1) | exact HB.out))) : w.heap.size ≤ gb218)); have n3_ := Aside0.mk ((by rw [hg]; exact (below_size (by repeat (first | (with_reducible first | exact HB.out | apply below_alloc | apply pw_below_drewN | apply below_drew1) | exact HB.out))) : w.heap.size ≤ gb218)); clear HB; have HB := n0_; have BK218 := n1_; have GW218 := n2_; have GE218 := n3_; clear n0_ n1_ n2_ n3_; clear hb hbox hg))
  (try simp only [Act.put, List.setIfInBounds_toArray, List.set_cons_zero, List.set_cons_succ])
  go_cut [14] (fun v14 wc => ∃ (kq : Nat) (x14_3 : Bool), v14 = .bool x14_3 ∧ Aside0 (charref_named.j0 kq a0 a1 a2 x14_3 = some (r1, r2, r3)) ∧ Aside0 (kq ≤ k) ∧ Aside0 (wc.heap[gb218]? = some (.cells #[.string (⟨#[]⟩ : ByteArray), .int .i64 0, .bool false] 60 (0, 0))) ∧ Aside0 (Below w.heap.size w wc))
  case first =>
    have H := HC4.out
    clear HC4
    by_cases c6 : a2 = true
    · subst c6
      have H1 : (charref_named.j0 k a0 a1 true false) = some (r1, r2, r3) := by rw [if_pos rfl] at H; exact H
      clear H
      have H := H1
      clear H1
      have H' := Aside0.mk H
      clear H
      go_wp2
      go_meet
      case rel => exact ⟨_, (false), (by first | rfl | (simp; done) | (simp [*]; done) | (unfold bt; split <;> first | rfl | (exfalso; simp_all; done) | (exfalso; simp_all; omega))), H', ⟨by first | omega | exact Nat.le_refl _⟩, ⟨by (with_reducible repeat (first | refine blk_drewN ?_ _ | refine blk_drew ?_ | refine blk_alloc ?_ _)); exact BK218.out⟩, ⟨by repeat (first | (with_reducible first | exact HB.out | apply below_alloc | apply pw_below_drewN | apply below_drew1 | refine below_set ?_ GE218.out) | exact HB.out)⟩⟩
    · replace c6 := Bool.eq_false_iff.mpr c6
      subst c6
      have H1 : ((entity_Begins.f k a0).bind fun t219 => (charref_named.j0 k a0 a1 false t219)) = some (r1, r2, r3) := by rw [if_neg (show ¬ (false = true) by decide)] at H; exact H
      clear H
      have H := H1
      clear H1
      replace H := Option.bind_eq_some_iff.mp H
      obtain ⟨t219, A70, H⟩ := H
      replace H : (charref_named.j0 k a0 a1 false t219) = some (r1, r2, r3) := H
      have A7 := Aside0.mk A70
      clear A70
      have H' := Aside0.mk H
      clear H
      go_wp2_with (first | (go_at_call 62; (with_reducible refine (entity_Begins.calls k a0 t219 _ A7.out).mono ?_); rintro e w8 ⟨rfl, hb⟩; have n0_ := Aside0.mk (blk_below (g := gb218) (o := .cells #[.string (⟨#[]⟩ : ByteArray), .int .i64 0, .bool false] 60 (0, 0)) (by (with_reducible repeat (first | refine blk_drewN ?_ _ | refine blk_drew ?_ | refine blk_alloc ?_ _)); exact BK218.out) hb); have n1_ := Aside0.mk (below_step (by repeat (first | (with_reducible first | exact HB.out | apply below_alloc | apply pw_below_drewN | apply below_drew1 | refine below_set ?_ GE218.out) | exact HB.out)) hb); clear BK218; clear HB; have BK218 := n0_; have HB := n1_; clear n0_ n1_; (try clear hb); (try clear hb2); (try clear hk); (try clear hi)))
      go_meet
      case rel => exact ⟨_, (t219), (by first | rfl | (simp; done) | (simp [*]; done) | (unfold bt; split <;> first | rfl | (exfalso; simp_all; done) | (exfalso; simp_all; omega))), H', ⟨by first | omega | exact Nat.le_refl _⟩, ⟨by (with_reducible repeat (first | refine blk_drewN ?_ _ | refine blk_drew ?_ | refine blk_alloc ?_ _)); exact BK218.out⟩, ⟨by repeat (first | (with_reducible first | exact HB.out | apply below_alloc | apply pw_below_drewN | apply below_drew1 | refine below_set ?_ GE218.out) | exact HB.out)⟩⟩
  case rest =>
    clear HC4
    try clear p2
    try clear c4
    try clear c6
    obtain ⟨kq, x14_3, rfl, HA, HJ3, BK218, HB⟩ := hcut
    cases kq with
    | zero => exact absurd HA.out (by simp [charref_named.j0])
    | succ kj3 =>
      have H := HA.out
      clear HA
      simp only [charref_named.j0] at H
      by_cases c9 : x14_3 = true
      · subst c9
        have H1 : (some ((⟨#[]⟩ : ByteArray), 0, false)) = some (r1, r2, r3) := by rw [if_pos rfl] at H; exact H
        clear H
        have H := H1
        clear H1
        simp only [Option.some.injEq, Prod.mk.injEq] at H
        obtain ⟨rfl, rfl, rfl⟩ := H
        have hcz10_0 : wc.cell? ⟨gb218, 0, none⟩ = some (.string (⟨#[]⟩ : ByteArray)) := (blk_cell BK218.out 0).trans rfl
        have hcz10_1 : wc.cell? ⟨gb218, 1, none⟩ = some (.int .i64 0) := (blk_cell BK218.out 1).trans rfl
        have hcz10_2 : wc.cell? ⟨gb218, 2, none⟩ = some (.bool false) := (blk_cell BK218.out 2).trans rfl
        have hfz10_0 := blk_frozen BK218.out 0
        have hfz10_1 := blk_frozen BK218.out 1
        have hfz10_2 := blk_frozen BK218.out 2
        go_wp2
        refine bodyPost_ret (results_cell_row rfl _ _ gb218 60 #[.string (⟨#[]⟩ : ByteArray), .int .i64 0, .bool false] (0, 0) _ rfl (by (with_reducible repeat (first | refine blk_drewN ?_ _ | refine blk_drew ?_ | refine blk_alloc ?_ _)); refine blk_put (cs := #[.string (⟨#[]⟩ : ByteArray), .int .i64 0, .bool false]) ?_ 2 _ rfl; (with_reducible repeat (first | refine blk_drewN ?_ _ | refine blk_drew ?_ | refine blk_alloc ?_ _)); refine blk_put (cs := #[.string (⟨#[]⟩ : ByteArray), .int .i64 0, .bool false]) ?_ 1 _ rfl; (with_reducible repeat (first | refine blk_drewN ?_ _ | refine blk_drew ?_ | refine blk_alloc ?_ _)); refine blk_put (cs := #[.string (⟨#[]⟩ : ByteArray), .int .i64 0, .bool false]) ?_ 0 _ rfl; (with_reducible repeat (first | refine blk_drewN ?_ _ | refine blk_drew ?_ | refine blk_alloc ?_ _)); exact BK218.out) Try.underlying60 rfl (by kernel_rfl)) rfl ?_
        exact ⟨by first | rfl | (simp [errW_none, errW_some] <;> rfl) | (simp [*, errW_none, errW_some] <;> rfl), by repeat (first | (with_reducible first | exact HB.out | apply below_alloc | apply pw_below_drewN | apply below_drew1 | refine below_set ?_ GE218.out) | exact HB.out)⟩
      · replace c9 := Bool.eq_false_iff.mpr c9
        subst c9
        have H1 : ((entity_Longest.f kj3 a0).bind fun bt220 => (if bt220.1 = 0 then (some ((⟨#[]⟩ : ByteArray), 0, true)) else (if a1 = true then (if 0 ≤ (wrap64 (bt220.1 - 1)) then (if (wrap64 (bt220.1 - 1)) < (a0.size : Int) then (charref_named.j1 kj3 a0 a2 bt220.1 bt220.2 ((bt a0 (wrap64 (bt220.1 - 1))) != 59)) else (none)) else (none)) else (charref_named.j1 kj3 a0 a2 bt220.1 bt220.2 false)))) = some (r1, r2, r3) := by rw [if_neg (show ¬ (false = true) by decide)] at H; exact H
        clear H
        have H := H1
        clear H1
        replace H := Option.bind_eq_some_iff.mp H
        obtain ⟨⟨t220, t221⟩, A110, H⟩ := H
        replace H : (if t220 = 0 then (some ((⟨#[]⟩ : ByteArray), 0, true)) else (if a1 = true then (if 0 ≤ (wrap64 (t220 - 1)) then (if (wrap64 (t220 - 1)) < (a0.size : Int) then (charref_named.j1 kj3 a0 a2 t220 t221 ((bt a0 (wrap64 (t220 - 1))) != 59)) else (none)) else (none)) else (charref_named.j1 kj3 a0 a2 t220 t221 false))) = some (r1, r2, r3) := H
        have A11 := Aside0.mk A110
        clear A110
        by_cases c12 : t220 = 0
        · rw [if_pos c12] at H
          have c12b0 : (t220 == 0) = true := beq_iff_eq.mpr c12
          have c12b1 : (t220 != 0) = false := bne_eq_false_iff_eq.mpr c12
          clear c12
          simp only [Option.some.injEq, Prod.mk.injEq] at H
          obtain ⟨rfl, rfl, rfl⟩ := H
          go_wp2_with (first | ((with_reducible refine gate_callee (f := 63) rfl ?_); refine goesL_ (some 18) rfl rfl Try.func63 (by kernel_rfl) rfl #[.string a0] rfl (by (try simp only [List.map_toArray, List.map_cons, List.map_nil]); first | done | rfl | (simp only [List.length_drop, List.length_take]; rfl) | (simp [*] <;> rfl)) ?_; (with_reducible refine (entity_Longest.calls kj3 a0 t220 t221 _ A11.out).mono ?_); rintro e w13 ⟨v222, rfl, ho0, hb⟩; refine ⟨_, rfl, ?_⟩; have n0_ := Aside0.mk (Kd.R_lower ho0 (below_size (by repeat (first | (with_reducible first | exact HB.out | apply below_alloc | apply pw_below_drewN | apply below_drew1 | refine below_set ?_ GE218.out) | exact HB.out)))); have n1_ := Aside0.mk (blk_below (g := gb218) (o := .cells #[.string (⟨#[]⟩ : ByteArray), .int .i64 0, .bool false] 60 (0, 0)) (by (with_reducible repeat (first | refine blk_drewN ?_ _ | refine blk_drew ?_ | refine blk_alloc ?_ _)); exact BK218.out) hb); have n2_ := Aside0.mk (below_step (by repeat (first | (with_reducible first | exact HB.out | apply below_alloc | apply pw_below_drewN | apply below_drew1 | refine below_set ?_ GE218.out) | exact HB.out)) hb); clear BK218; clear HB; have HO223 := n0_; have BK218 := n1_; have HB := n2_; clear n0_ n1_ n2_; (try clear hb); (try clear hb2); (try clear hk); (try clear hi); (try clear ho0); have hcz14_0 : w13.cell? ⟨gb218, 0, none⟩ = some (.string (⟨#[]⟩ : ByteArray)) := (blk_cell BK218.out 0).trans rfl; have hcz14_1 : w13.cell? ⟨gb218, 1, none⟩ = some (.int .i64 0) := (blk_cell BK218.out 1).trans rfl; have hcz14_2 : w13.cell? ⟨gb218, 2, none⟩ = some (.bool false) := (blk_cell BK218.out 2).trans rfl; have hfz14_0 := blk_frozen BK218.out 0; have hfz14_1 := blk_frozen BK218.out 1; have hfz14_2 := blk_frozen BK218.out 2))
          refine bodyPost_ret (results_cell_row rfl _ _ gb218 60 #[.string (⟨#[]⟩ : ByteArray), .int .i64 0, .bool true] (0, 0) _ rfl (by (with_reducible repeat (first | refine blk_drewN ?_ _ | refine blk_drew ?_ | refine blk_alloc ?_ _)); refine blk_put (cs := #[.string (⟨#[]⟩ : ByteArray), .int .i64 0, .bool false]) ?_ 2 _ rfl; (with_reducible repeat (first | refine blk_drewN ?_ _ | refine blk_drew ?_ | refine blk_alloc ?_ _)); refine blk_put (cs := #[.string (⟨#[]⟩ : ByteArray), .int .i64 0, .bool false]) ?_ 1 _ rfl; (with_reducible repeat (first | refine blk_drewN ?_ _ | refine blk_drew ?_ | refine blk_alloc ?_ _)); refine blk_put (cs := #[.string (⟨#[]⟩ : ByteArray), .int .i64 0, .bool false]) ?_ 0 _ rfl; (with_reducible repeat (first | refine blk_drewN ?_ _ | refine blk_drew ?_ | refine blk_alloc ?_ _)); exact BK218.out) Try.underlying60 rfl (by kernel_rfl)) rfl ?_
          exact ⟨by first | rfl | (simp [errW_none, errW_some] <;> rfl) | (simp [*, errW_none, errW_some] <;> rfl), by repeat (first | (with_reducible first | exact HB.out | apply below_alloc | apply pw_below_drewN | apply below_drew1 | refine below_set ?_ GE218.out) | exact HB.out)⟩
        · rw [if_neg c12] at H
          have c12b0 : (t220 == 0) = false := beq_eq_false_iff_ne.mpr c12
          have c12b1 : (t220 != 0) = true := bne_iff_ne.mpr c12
          have HC15 := Aside0.mk H
          clear H
          go_upto_region 6 with (first | ((with_reducible refine gate_callee (f := 63) rfl ?_); refine goesL_ (some 18) rfl rfl Try.func63 (by kernel_rfl) rfl #[.string a0] rfl (by (try simp only [List.map_toArray, List.map_cons, List.map_nil]); first | done | rfl | (simp only [List.length_drop, List.length_take]; rfl) | (simp [*] <;> rfl)) ?_; (with_reducible refine (entity_Longest.calls kj3 a0 t220 t221 _ A11.out).mono ?_); rintro e w16 ⟨v222, rfl, ho0, hb⟩; refine ⟨_, rfl, ?_⟩; have n0_ := Aside0.mk (Kd.R_lower ho0 (below_size (by repeat (first | (with_reducible first | exact HB.out | apply below_alloc | apply pw_below_drewN | apply below_drew1 | refine below_set ?_ GE218.out) | exact HB.out)))); have n1_ := Aside0.mk (blk_below (g := gb218) (o := .cells #[.string (⟨#[]⟩ : ByteArray), .int .i64 0, .bool false] 60 (0, 0)) (by (with_reducible repeat (first | refine blk_drewN ?_ _ | refine blk_drew ?_ | refine blk_alloc ?_ _)); exact BK218.out) hb); have n2_ := Aside0.mk (below_step (by repeat (first | (with_reducible first | exact HB.out | apply below_alloc | apply pw_below_drewN | apply below_drew1 | refine below_set ?_ GE218.out) | exact HB.out)) hb); clear BK218; clear HB; have HO223 := n0_; have BK218 := n1_; have HB := n2_; clear n0_ n1_ n2_; (try clear hb); (try clear hb2); (try clear hk); (try clear hi); (try clear ho0)))
          (try simp only [Act.put, List.setIfInBounds_toArray, List.set_cons_zero, List.set_cons_succ])
          go_cut [31] (fun v31 wc => ∃ (kq : Nat) (x31_14 : Bool), v31 = .bool x31_14 ∧ Aside0 (charref_named.j1 kq a0 a2 t220 t221 x31_14 = some (r1, r2, r3)) ∧ Aside0 (kq ≤ kj3) ∧ Aside0 (Kd.R (Kd.int .i32) 21 wc w.heap.size (fun _ => True) v222 t221) ∧ Aside0 (wc.heap[gb218]? = some (.cells #[.string (⟨#[]⟩ : ByteArray), .int .i64 0, .bool false] 60 (0, 0))) ∧ Aside0 (Below w.heap.size w wc))
          case first =>
            have H := HC15.out
            clear HC15
            by_cases c17 : a1 = true
            · subst c17
              have H1 : (if 0 ≤ (wrap64 (t220 - 1)) then (if (wrap64 (t220 - 1)) < (a0.size : Int) then (charref_named.j1 kj3 a0 a2 t220 t221 ((bt a0 (wrap64 (t220 - 1))) != 59)) else (none)) else (none)) = some (r1, r2, r3) := by rw [if_pos rfl] at H; exact H
              clear H
              have H := H1
              clear H1
              obtain ⟨ji18, hji18⟩ : ∃ j_ : Int, (wrap64 (t220 - 1)) = j_ := ⟨_, rfl⟩
              replace H : (if 0 ≤ (ji18) then (if (ji18) < (a0.size : Int) then (charref_named.j1 kj3 a0 a2 t220 t221 ((bt a0 (ji18)) != 59)) else (none)) else (none)) = some (r1, r2, r3) := by first | (rw [hji18] at H; exact H) | (simp only [hji18] at H ⊢; exact H)
              have hji18w : (IntKind.i64.wrap (t220 - 1)) = ji18 := (i64_w _).trans hji18
              by_cases c19 : 0 ≤ (ji18)
              · rw [if_pos c19] at H
                have c19b0 : decide (0 ≤ (ji18)) = true := decide_eq_true c19
                clear c19
                (first | rw [c19b0] | (simp only [i64_w, i32_w]; rw [c19b0]) | skip)
                by_cases c20 : (ji18) < (a0.size : Int)
                · rw [if_pos c20] at H
                  have c20b0 : decide ((ji18) < (a0.size : Int)) = true := decide_eq_true c20
                  clear c20
                  have H' := Aside0.mk H
                  clear H
                  have p21 : 0 ≤ ((ji18) : Int) := of_decide_eq_true (by first | (with_reducible assumption) | assumption)
                  have q21 : (ji18) < (a0.size : Int) := of_decide_eq_true (by first | (with_reducible assumption) | assumption)
                  have hx21 := bt_at a0 (ji18)
                  replace p21 := eq_true p21
                  replace q21 := eq_true q21
                  go_wp2
                  go_meet
                  case rel => exact ⟨_, (((bt a0 (ji18)) != 59)), (by first | rfl | (simp; done) | (simp only [← hji18] <;> (first | rfl | simp)) | (simp [*]; done)), H', ⟨by have := HJ3.out; first | omega | exact Nat.le_refl _⟩, ⟨by (with_reducible repeat (first | apply Kd.R_alloc | apply Kd.R_drewN | apply Kd.R_drew)); exact HO223.out⟩, ⟨by (with_reducible repeat (first | refine blk_drewN ?_ _ | refine blk_drew ?_ | refine blk_alloc ?_ _)); exact BK218.out⟩, ⟨by repeat (first | (with_reducible first | exact HB.out | apply below_alloc | apply pw_below_drewN | apply below_drew1 | refine below_set ?_ GE218.out) | exact HB.out)⟩⟩
                · rw [if_neg c20] at H
                  exact absurd H (by simp)
              · rw [if_neg c19] at H
                exact absurd H (by simp)
            · replace c17 := Bool.eq_false_iff.mpr c17
              subst c17
              have H1 : (charref_named.j1 kj3 a0 a2 t220 t221 false) = some (r1, r2, r3) := by rw [if_neg (show ¬ (false = true) by decide)] at H; exact H
              clear H
              have H := H1
              clear H1
              have H' := Aside0.mk H
              clear H
              go_wp2
              go_meet
              case rel => exact ⟨_, (false), (by first | rfl | (simp; done) | (simp [*]; done) | (unfold bt; split <;> first | rfl | (exfalso; simp_all; done) | (exfalso; simp_all; omega))), H', ⟨by have := HJ3.out; first | omega | exact Nat.le_refl _⟩, ⟨by (with_reducible repeat (first | apply Kd.R_alloc | apply Kd.R_drewN | apply Kd.R_drew)); exact HO223.out⟩, ⟨by (with_reducible repeat (first | refine blk_drewN ?_ _ | refine blk_drew ?_ | refine blk_alloc ?_ _)); exact BK218.out⟩, ⟨by repeat (first | (with_reducible first | exact HB.out | apply below_alloc | apply pw_below_drewN | apply below_drew1 | refine below_set ?_ GE218.out) | exact HB.out)⟩⟩
          case rest =>
            clear HC15
            try clear c1
            try clear c2
            try clear p2
            try clear q2
            try clear hx2
            try clear c4
            try clear c6
            try clear p6
            try clear c9
            try clear c12
            try clear c12b0
            try clear c12b1
            try clear c17
            try clear c19
            try clear c19b0
            try clear c20
            try clear c20b0
            try clear p21
            try clear q21
            try clear hx21
            try clear hcz10_0
            try clear hcz10_1
            try clear hcz10_2
            try clear hcz14_0
            try clear hcz14_1
            try clear hcz14_2
            try clear hfz10_0
            try clear hfz10_1
            try clear hfz10_2
            try clear hfz14_0
            try clear hfz14_1
            try clear hfz14_2
            try clear p2
            try clear p21
            try clear q21
            obtain ⟨kq, x31_14, rfl, HA, HJ14, HO_8, BK218, HB⟩ := hcut
            cases kq with
            | zero => exact absurd HA.out (by simp [charref_named.j1])
            | succ kj14 =>
              have H := HA.out
              clear HA
              simp only [charref_named.j1] at H
              by_cases c22 : x31_14 = true
              · subst c22
                have H1 : (if t220 = (a0.size : Int) then (if a2 = true then (some (Hc_text t221, t220, true)) else (some ((⟨#[]⟩ : ByteArray), 0, false))) else (if 0 ≤ t220 then (if t220 < (a0.size : Int) then ((charref_word.f (bt a0 t220)).bind fun t224 => (if t224 = true then (some ((⟨#[]⟩ : ByteArray), 0, true)) else (if (bt a0 t220) = 61 then (some ((⟨#[]⟩ : ByteArray), 0, true)) else (some (Hc_text t221, t220, true))))) else (none)) else (none))) = some (r1, r2, r3) := by rw [if_pos rfl] at H; exact H
                clear H
                have H := H1
                clear H1
                by_cases c23 : t220 = (a0.size : Int)
                · rw [if_pos c23] at H
                  have c23b0 : (t220 == (a0.size : Int)) = true := beq_iff_eq.mpr c23
                  have c23b1 : (t220 != (a0.size : Int)) = false := bne_eq_false_iff_eq.mpr c23
                  clear c23
                  by_cases c24 : a2 = true
                  · subst c24
                    have H1 : (some (Hc_text t221, t220, true)) = some (r1, r2, r3) := by rw [if_pos rfl] at H; exact H
                    clear H
                    have H := H1
                    clear H1
                    simp only [Option.some.injEq, Prod.mk.injEq] at H
                    obtain ⟨rfl, rfl, rfl⟩ := H
                    have hcv25 := Hc_own_runes (P := Try.prog) Try.underlying29 Try.underlying21 Try.underlying9 (Kd.own_of_R HO_8.out)
                    have hcz26_0 : wc.cell? ⟨gb218, 0, none⟩ = some (.string (⟨#[]⟩ : ByteArray)) := (blk_cell BK218.out 0).trans rfl
                    have hcz26_1 : wc.cell? ⟨gb218, 1, none⟩ = some (.int .i64 0) := (blk_cell BK218.out 1).trans rfl
                    have hcz26_2 : wc.cell? ⟨gb218, 2, none⟩ = some (.bool false) := (blk_cell BK218.out 2).trans rfl
                    have hfz26_0 := blk_frozen BK218.out 0
                    have hfz26_1 := blk_frozen BK218.out 1
                    have hfz26_2 := blk_frozen BK218.out 2
                    go_wp2
                    refine bodyPost_ret (results_cell_row rfl _ _ gb218 60 #[.string (Hc_text t221), .int .i64 t220, .bool true] (0, 0) _ rfl (by (with_reducible repeat (first | refine blk_drewN ?_ _ | refine blk_drew ?_ | refine blk_alloc ?_ _)); refine blk_put (cs := #[.string (Hc_text t221), .int .i64 t220, .bool false]) ?_ 2 _ rfl; (with_reducible repeat (first | refine blk_drewN ?_ _ | refine blk_drew ?_ | refine blk_alloc ?_ _)); refine blk_put (cs := #[.string (Hc_text t221), .int .i64 0, .bool false]) ?_ 1 _ rfl; (with_reducible repeat (first | refine blk_drewN ?_ _ | refine blk_drew ?_ | refine blk_alloc ?_ _)); refine blk_put (cs := #[.string (⟨#[]⟩ : ByteArray), .int .i64 0, .bool false]) ?_ 0 _ rfl; (with_reducible repeat (first | refine blk_drewN ?_ _ | refine blk_drew ?_ | refine blk_alloc ?_ _)); exact BK218.out) Try.underlying60 rfl (by kernel_rfl)) rfl ?_
                    exact ⟨by first | rfl | (simp [errW_none, errW_some] <;> rfl) | (simp [*, errW_none, errW_some] <;> rfl), by repeat (first | (with_reducible first | exact HB.out | apply below_alloc | apply pw_below_drewN | apply below_drew1 | refine below_set ?_ GE218.out) | exact HB.out)⟩
                  · replace c24 := Bool.eq_false_iff.mpr c24
                    subst c24
                    have H1 : (some ((⟨#[]⟩ : ByteArray), 0, false)) = some (r1, r2, r3) := by rw [if_neg (show ¬ (false = true) by decide)] at H; exact H
                    clear H
                    have H := H1
                    clear H1
                    simp only [Option.some.injEq, Prod.mk.injEq] at H
                    obtain ⟨rfl, rfl, rfl⟩ := H
                    have hcz27_0 : wc.cell? ⟨gb218, 0, none⟩ = some (.string (⟨#[]⟩ : ByteArray)) := (blk_cell BK218.out 0).trans rfl
                    have hcz27_1 : wc.cell? ⟨gb218, 1, none⟩ = some (.int .i64 0) := (blk_cell BK218.out 1).trans rfl
                    have hcz27_2 : wc.cell? ⟨gb218, 2, none⟩ = some (.bool false) := (blk_cell BK218.out 2).trans rfl
                    have hfz27_0 := blk_frozen BK218.out 0
                    have hfz27_1 := blk_frozen BK218.out 1
                    have hfz27_2 := blk_frozen BK218.out 2
                    go_wp2
                    refine bodyPost_ret (results_cell_row rfl _ _ gb218 60 #[.string (⟨#[]⟩ : ByteArray), .int .i64 0, .bool false] (0, 0) _ rfl (by (with_reducible repeat (first | refine blk_drewN ?_ _ | refine blk_drew ?_ | refine blk_alloc ?_ _)); refine blk_put (cs := #[.string (⟨#[]⟩ : ByteArray), .int .i64 0, .bool false]) ?_ 2 _ rfl; (with_reducible repeat (first | refine blk_drewN ?_ _ | refine blk_drew ?_ | refine blk_alloc ?_ _)); refine blk_put (cs := #[.string (⟨#[]⟩ : ByteArray), .int .i64 0, .bool false]) ?_ 1 _ rfl; (with_reducible repeat (first | refine blk_drewN ?_ _ | refine blk_drew ?_ | refine blk_alloc ?_ _)); refine blk_put (cs := #[.string (⟨#[]⟩ : ByteArray), .int .i64 0, .bool false]) ?_ 0 _ rfl; (with_reducible repeat (first | refine blk_drewN ?_ _ | refine blk_drew ?_ | refine blk_alloc ?_ _)); exact BK218.out) Try.underlying60 rfl (by kernel_rfl)) rfl ?_
                    exact ⟨by first | rfl | (simp [errW_none, errW_some] <;> rfl) | (simp [*, errW_none, errW_some] <;> rfl), by repeat (first | (with_reducible first | exact HB.out | apply below_alloc | apply pw_below_drewN | apply below_drew1 | refine below_set ?_ GE218.out) | exact HB.out)⟩
                · rw [if_neg c23] at H
                  have c23b0 : (t220 == (a0.size : Int)) = false := beq_eq_false_iff_ne.mpr c23
                  have c23b1 : (t220 != (a0.size : Int)) = true := bne_iff_ne.mpr c23
                  by_cases c28 : 0 ≤ t220
                  · rw [if_pos c28] at H
                    have c28b0 : decide (0 ≤ t220) = true := decide_eq_true c28
                    clear c28
                    by_cases c29 : t220 < (a0.size : Int)
                    · rw [if_pos c29] at H
                      have c29b0 : decide (t220 < (a0.size : Int)) = true := decide_eq_true c29
                      clear c29
                      replace H := Option.bind_eq_some_iff.mp H
                      obtain ⟨t224, A310, H⟩ := H
                      replace H : (if t224 = true then (some ((⟨#[]⟩ : ByteArray), 0, true)) else (if (bt a0 t220) = 61 then (some ((⟨#[]⟩ : ByteArray), 0, true)) else (some (Hc_text t221, t220, true)))) = some (r1, r2, r3) := H
                      have A31 := Aside0.mk A310
                      clear A310
                      by_cases c32 : t224 = true
                      · subst c32
                        have H1 : (some ((⟨#[]⟩ : ByteArray), 0, true)) = some (r1, r2, r3) := by rw [if_pos rfl] at H; exact H
                        clear H
                        have H := H1
                        clear H1
                        simp only [Option.some.injEq, Prod.mk.injEq] at H
                        obtain ⟨rfl, rfl, rfl⟩ := H
                        have p30 : 0 ≤ (t220 : Int) := of_decide_eq_true (by first | (with_reducible assumption) | assumption)
                        have q30 : t220 < (a0.size : Int) := of_decide_eq_true (by first | (with_reducible assumption) | assumption)
                        have hx30 := bt_at a0 t220
                        replace p30 := eq_true p30
                        replace q30 := eq_true q30
                        go_wp2_with (first | ((with_reducible refine gate_callee (f := 64) rfl ?_); refine goesL_ (some 42) rfl rfl Try.func64 (by kernel_rfl) rfl #[.int .u8 (bt a0 t220)] rfl (by (try simp only [List.map_toArray, List.map_cons, List.map_nil]); first | done | rfl | (simp only [List.length_drop, List.length_take]; rfl) | (simp [*] <;> rfl)) ?_; (with_reducible refine (charref_word.calls (bt a0 t220) true _ A31.out).mono ?_); rintro e w' ⟨rfl, ⟨nd, rfl⟩⟩; refine ⟨_, rfl, ?_⟩; (try (rw [drewN_self wc]; generalize hq_ : World.drewN wc _ = wc; have n0_ : Aside0 (Kd.R (Kd.int .i32) 21 wc w.heap.size (fun _ => True) v222 t221) := ⟨by rw [← hq_]; exact (by (with_reducible repeat (first | apply Kd.R_alloc | apply Kd.R_drewN | apply Kd.R_drew)); exact HO_8.out)⟩; have n1_ : Aside0 (wc.heap[gb218]? = some (.cells #[.string (⟨#[]⟩ : ByteArray), .int .i64 0, .bool false] 60 (0, 0))) := ⟨by rw [← hq_]; exact (by (with_reducible repeat (first | refine blk_drewN ?_ _ | refine blk_drew ?_ | refine blk_alloc ?_ _)); exact BK218.out)⟩; have n2_ : Aside0 (Below w.heap.size w wc) := ⟨by rw [← hq_]; exact (by repeat (first | (with_reducible first | exact HB.out | apply below_alloc | apply pw_below_drewN | apply below_drew1 | refine below_set ?_ GE218.out) | exact HB.out))⟩; clear HO_8 BK218 HB hq_; have HO_8 := n0_; have BK218 := n1_; have HB := n2_; clear n0_ n1_ n2_)); have hcz33_0 : wc.cell? ⟨gb218, 0, none⟩ = some (.string (⟨#[]⟩ : ByteArray)) := (blk_cell BK218.out 0).trans rfl; have hcz33_1 : wc.cell? ⟨gb218, 1, none⟩ = some (.int .i64 0) := (blk_cell BK218.out 1).trans rfl; have hcz33_2 : wc.cell? ⟨gb218, 2, none⟩ = some (.bool false) := (blk_cell BK218.out 2).trans rfl; have hfz33_0 := blk_frozen BK218.out 0; have hfz33_1 := blk_frozen BK218.out 1; have hfz33_2 := blk_frozen BK218.out 2))
                        refine bodyPost_ret (results_cell_row rfl _ _ gb218 60 #[.string (⟨#[]⟩ : ByteArray), .int .i64 0, .bool true] (0, 0) _ rfl (by (with_reducible repeat (first | refine blk_drewN ?_ _ | refine blk_drew ?_ | refine blk_alloc ?_ _)); refine blk_put (cs := #[.string (⟨#[]⟩ : ByteArray), .int .i64 0, .bool false]) ?_ 2 _ rfl; (with_reducible repeat (first | refine blk_drewN ?_ _ | refine blk_drew ?_ | refine blk_alloc ?_ _)); refine blk_put (cs := #[.string (⟨#[]⟩ : ByteArray), .int .i64 0, .bool false]) ?_ 1 _ rfl; (with_reducible repeat (first | refine blk_drewN ?_ _ | refine blk_drew ?_ | refine blk_alloc ?_ _)); refine blk_put (cs := #[.string (⟨#[]⟩ : ByteArray), .int .i64 0, .bool false]) ?_ 0 _ rfl; (with_reducible repeat (first | refine blk_drewN ?_ _ | refine blk_drew ?_ | refine blk_alloc ?_ _)); exact BK218.out) Try.underlying60 rfl (by kernel_rfl)) rfl ?_
                        exact ⟨by first | rfl | (simp [errW_none, errW_some] <;> rfl) | (simp [*, errW_none, errW_some] <;> rfl), by repeat (first | (with_reducible first | exact HB.out | apply below_alloc | apply pw_below_drewN | apply below_drew1 | refine below_set ?_ GE218.out) | exact HB.out)⟩
                      · replace c32 := Bool.eq_false_iff.mpr c32
                        subst c32
                        have H1 : (if (bt a0 t220) = 61 then (some ((⟨#[]⟩ : ByteArray), 0, true)) else (some (Hc_text t221, t220, true))) = some (r1, r2, r3) := by rw [if_neg (show ¬ (false = true) by decide)] at H; exact H
                        clear H
                        have H := H1
                        clear H1
                        by_cases c35 : (bt a0 t220) = 61
                        · rw [if_pos c35] at H
                          have c35b0 : ((bt a0 t220) == 61) = true := beq_iff_eq.mpr c35
                          have c35b1 : ((bt a0 t220) != 61) = false := bne_eq_false_iff_eq.mpr c35
                          clear c35
                          simp only [Option.some.injEq, Prod.mk.injEq] at H
                          obtain ⟨rfl, rfl, rfl⟩ := H
                          have p30 : 0 ≤ (t220 : Int) := of_decide_eq_true (by first | (with_reducible assumption) | assumption)
                          have q30 : t220 < (a0.size : Int) := of_decide_eq_true (by first | (with_reducible assumption) | assumption)
                          have hx30 := bt_at a0 t220
                          replace p30 := eq_true p30
                          replace q30 := eq_true q30
                          go_wp2_with (first | ((with_reducible refine gate_callee (f := 64) rfl ?_); refine goesL_ (some 42) rfl rfl Try.func64 (by kernel_rfl) rfl #[.int .u8 (bt a0 t220)] rfl (by (try simp only [List.map_toArray, List.map_cons, List.map_nil]); first | done | rfl | (simp only [List.length_drop, List.length_take]; rfl) | (simp [*] <;> rfl)) ?_; (with_reducible refine (charref_word.calls (bt a0 t220) false _ A31.out).mono ?_); rintro e w' ⟨rfl, ⟨nd, rfl⟩⟩; refine ⟨_, rfl, ?_⟩; (try (rw [drewN_self wc]; generalize hq_ : World.drewN wc _ = wc; have n0_ : Aside0 (Kd.R (Kd.int .i32) 21 wc w.heap.size (fun _ => True) v222 t221) := ⟨by rw [← hq_]; exact (by (with_reducible repeat (first | apply Kd.R_alloc | apply Kd.R_drewN | apply Kd.R_drew)); exact HO_8.out)⟩; have n1_ : Aside0 (wc.heap[gb218]? = some (.cells #[.string (⟨#[]⟩ : ByteArray), .int .i64 0, .bool false] 60 (0, 0))) := ⟨by rw [← hq_]; exact (by (with_reducible repeat (first | refine blk_drewN ?_ _ | refine blk_drew ?_ | refine blk_alloc ?_ _)); exact BK218.out)⟩; have n2_ : Aside0 (Below w.heap.size w wc) := ⟨by rw [← hq_]; exact (by repeat (first | (with_reducible first | exact HB.out | apply below_alloc | apply pw_below_drewN | apply below_drew1 | refine below_set ?_ GE218.out) | exact HB.out))⟩; clear HO_8 BK218 HB hq_; have HO_8 := n0_; have BK218 := n1_; have HB := n2_; clear n0_ n1_ n2_)); have p34 : 0 ≤ (t220 : Int) := of_decide_eq_true (by first | (with_reducible assumption) | assumption); have q34 : t220 < (a0.size : Int) := of_decide_eq_true (by first | (with_reducible assumption) | assumption); have hx34 := bt_at a0 t220; replace p34 := eq_true p34; replace q34 := eq_true q34; have hcz36_0 : wc.cell? ⟨gb218, 0, none⟩ = some (.string (⟨#[]⟩ : ByteArray)) := (blk_cell BK218.out 0).trans rfl; have hcz36_1 : wc.cell? ⟨gb218, 1, none⟩ = some (.int .i64 0) := (blk_cell BK218.out 1).trans rfl; have hcz36_2 : wc.cell? ⟨gb218, 2, none⟩ = some (.bool false) := (blk_cell BK218.out 2).trans rfl; have hfz36_0 := blk_frozen BK218.out 0; have hfz36_1 := blk_frozen BK218.out 1; have hfz36_2 := blk_frozen BK218.out 2))
                          refine bodyPost_ret (results_cell_row rfl _ _ gb218 60 #[.string (⟨#[]⟩ : ByteArray), .int .i64 0, .bool true] (0, 0) _ rfl (by (with_reducible repeat (first | refine blk_drewN ?_ _ | refine blk_drew ?_ | refine blk_alloc ?_ _)); refine blk_put (cs := #[.string (⟨#[]⟩ : ByteArray), .int .i64 0, .bool false]) ?_ 2 _ rfl; (with_reducible repeat (first | refine blk_drewN ?_ _ | refine blk_drew ?_ | refine blk_alloc ?_ _)); refine blk_put (cs := #[.string (⟨#[]⟩ : ByteArray), .int .i64 0, .bool false]) ?_ 1 _ rfl; (with_reducible repeat (first | refine blk_drewN ?_ _ | refine blk_drew ?_ | refine blk_alloc ?_ _)); refine blk_put (cs := #[.string (⟨#[]⟩ : ByteArray), .int .i64 0, .bool false]) ?_ 0 _ rfl; (with_reducible repeat (first | refine blk_drewN ?_ _ | refine blk_drew ?_ | refine blk_alloc ?_ _)); exact BK218.out) Try.underlying60 rfl (by kernel_rfl)) rfl ?_
                          exact ⟨by first | rfl | (simp [errW_none, errW_some] <;> rfl) | (simp [*, errW_none, errW_some] <;> rfl), by repeat (first | (with_reducible first | exact HB.out | apply below_alloc | apply pw_below_drewN | apply below_drew1 | refine below_set ?_ GE218.out) | exact HB.out)⟩
                        · rw [if_neg c35] at H
                          have c35b0 : ((bt a0 t220) == 61) = false := beq_eq_false_iff_ne.mpr c35
                          have c35b1 : ((bt a0 t220) != 61) = true := bne_iff_ne.mpr c35
                          simp only [Option.some.injEq, Prod.mk.injEq] at H
                          obtain ⟨rfl, rfl, rfl⟩ := H
                          have p30 : 0 ≤ (t220 : Int) := of_decide_eq_true (by first | (with_reducible assumption) | assumption)
                          have q30 : t220 < (a0.size : Int) := of_decide_eq_true (by first | (with_reducible assumption) | assumption)
                          have hx30 := bt_at a0 t220
                          replace p30 := eq_true p30
                          replace q30 := eq_true q30
                          go_wp2_with (first | ((with_reducible refine gate_callee (f := 64) rfl ?_); refine goesL_ (some 42) rfl rfl Try.func64 (by kernel_rfl) rfl #[.int .u8 (bt a0 t220)] rfl (by (try simp only [List.map_toArray, List.map_cons, List.map_nil]); first | done | rfl | (simp only [List.length_drop, List.length_take]; rfl) | (simp [*] <;> rfl)) ?_; (with_reducible refine (charref_word.calls (bt a0 t220) false _ A31.out).mono ?_); rintro e w' ⟨rfl, ⟨nd, rfl⟩⟩; refine ⟨_, rfl, ?_⟩; (try (rw [drewN_self wc]; generalize hq_ : World.drewN wc _ = wc; have n0_ : Aside0 (Kd.R (Kd.int .i32) 21 wc w.heap.size (fun _ => True) v222 t221) := ⟨by rw [← hq_]; exact (by (with_reducible repeat (first | apply Kd.R_alloc | apply Kd.R_drewN | apply Kd.R_drew)); exact HO_8.out)⟩; have n1_ : Aside0 (wc.heap[gb218]? = some (.cells #[.string (⟨#[]⟩ : ByteArray), .int .i64 0, .bool false] 60 (0, 0))) := ⟨by rw [← hq_]; exact (by (with_reducible repeat (first | refine blk_drewN ?_ _ | refine blk_drew ?_ | refine blk_alloc ?_ _)); exact BK218.out)⟩; have n2_ : Aside0 (Below w.heap.size w wc) := ⟨by rw [← hq_]; exact (by repeat (first | (with_reducible first | exact HB.out | apply below_alloc | apply pw_below_drewN | apply below_drew1 | refine below_set ?_ GE218.out) | exact HB.out))⟩; clear HO_8 BK218 HB hq_; have HO_8 := n0_; have BK218 := n1_; have HB := n2_; clear n0_ n1_ n2_)); have p34 : 0 ≤ (t220 : Int) := of_decide_eq_true (by first | (with_reducible assumption) | assumption); have q34 : t220 < (a0.size : Int) := of_decide_eq_true (by first | (with_reducible assumption) | assumption); have hx34 := bt_at a0 t220; replace p34 := eq_true p34; replace q34 := eq_true q34; have hcv37 := Hc_own_runes (P := Try.prog) Try.underlying29 Try.underlying21 Try.underlying9 (Kd.own_of_R HO_8.out); have hcz38_0 : wc.cell? ⟨gb218, 0, none⟩ = some (.string (⟨#[]⟩ : ByteArray)) := (blk_cell BK218.out 0).trans rfl; have hcz38_1 : wc.cell? ⟨gb218, 1, none⟩ = some (.int .i64 0) := (blk_cell BK218.out 1).trans rfl; have hcz38_2 : wc.cell? ⟨gb218, 2, none⟩ = some (.bool false) := (blk_cell BK218.out 2).trans rfl; have hfz38_0 := blk_frozen BK218.out 0; have hfz38_1 := blk_frozen BK218.out 1; have hfz38_2 := blk_frozen BK218.out 2))
                          refine bodyPost_ret (results_cell_row rfl _ _ gb218 60 #[.string (Hc_text t221), .int .i64 t220, .bool true] (0, 0) _ rfl (by (with_reducible repeat (first | refine blk_drewN ?_ _ | refine blk_drew ?_ | refine blk_alloc ?_ _)); refine blk_put (cs := #[.string (Hc_text t221), .int .i64 t220, .bool false]) ?_ 2 _ rfl; (with_reducible repeat (first | refine blk_drewN ?_ _ | refine blk_drew ?_ | refine blk_alloc ?_ _)); refine blk_put (cs := #[.string (Hc_text t221), .int .i64 0, .bool false]) ?_ 1 _ rfl; (with_reducible repeat (first | refine blk_drewN ?_ _ | refine blk_drew ?_ | refine blk_alloc ?_ _)); refine blk_put (cs := #[.string (⟨#[]⟩ : ByteArray), .int .i64 0, .bool false]) ?_ 0 _ rfl; (with_reducible repeat (first | refine blk_drewN ?_ _ | refine blk_drew ?_ | refine blk_alloc ?_ _)); exact BK218.out) Try.underlying60 rfl (by kernel_rfl)) rfl ?_
                          exact ⟨by first | rfl | (simp [errW_none, errW_some] <;> rfl) | (simp [*, errW_none, errW_some] <;> rfl), by repeat (first | (with_reducible first | exact HB.out | apply below_alloc | apply pw_below_drewN | apply below_drew1 | refine below_set ?_ GE218.out) | exact HB.out)⟩
                    · rw [if_neg c29] at H
                      exact absurd H (by simp)
                  · rw [if_neg c28] at H
                    exact absurd H (by simp)
              · replace c22 := Bool.eq_false_iff.mpr c22
                subst c22
                have H1 : (some (Hc_text t221, t220, true)) = some (r1, r2, r3) := by rw [if_neg (show ¬ (false = true) by decide)] at H; exact H
                clear H
                have H := H1
                clear H1
                simp only [Option.some.injEq, Prod.mk.injEq] at H
                obtain ⟨rfl, rfl, rfl⟩ := H
                have hcv39 := Hc_own_runes (P := Try.prog) Try.underlying29 Try.underlying21 Try.underlying9 (Kd.own_of_R HO_8.out)
                have hcz40_0 : wc.cell? ⟨gb218, 0, none⟩ = some (.string (⟨#[]⟩ : ByteArray)) := (blk_cell BK218.out 0).trans rfl
                have hcz40_1 : wc.cell? ⟨gb218, 1, none⟩ = some (.int .i64 0) := (blk_cell BK218.out 1).trans rfl
                have hcz40_2 : wc.cell? ⟨gb218, 2, none⟩ = some (.bool false) := (blk_cell BK218.out 2).trans rfl
                have hfz40_0 := blk_frozen BK218.out 0
                have hfz40_1 := blk_frozen BK218.out 1
                have hfz40_2 := blk_frozen BK218.out 2
                go_wp2
                refine bodyPost_ret (results_cell_row rfl _ _ gb218 60 #[.string (Hc_text t221), .int .i64 t220, .bool true] (0, 0) _ rfl (by (with_reducible repeat (first | refine blk_drewN ?_ _ | refine blk_drew ?_ | refine blk_alloc ?_ _)); refine blk_put (cs := #[.string (Hc_text t221), .int .i64 t220, .bool false]) ?_ 2 _ rfl; (with_reducible repeat (first | refine blk_drewN ?_ _ | refine blk_drew ?_ | refine blk_alloc ?_ _)); refine blk_put (cs := #[.string (Hc_text t221), .int .i64 0, .bool false]) ?_ 1 _ rfl; (with_reducible repeat (first | refine blk_drewN ?_ _ | refine blk_drew ?_ | refine blk_alloc ?_ _)); refine blk_put (cs := #[.string (⟨#[]⟩ : ByteArray), .int .i64 0, .bool false]) ?_ 0 _ rfl; (with_reducible repeat (first | refine blk_drewN ?_ _ | refine blk_drew ?_ | refine blk_alloc ?_ _)); exact BK218.out) Try.underlying60 rfl (by kernel_rfl)) rfl ?_
                exact ⟨by first | rfl | (simp [errW_none, errW_some] <;> rfl) | (simp [*, errW_none, errW_some] <;> rfl), by repeat (first | (with_reducible first | exact HB.out | apply below_alloc | apply pw_below_drewN | apply below_drew1 | refine below_set ?_ GE218.out) | exact HB.out)⟩

end Go.Proofs.Ytilpbfbnnmclhaa.P
