/-
  Part 3 of 6 of the proof's texts, joined: PA5, Hnum, PA7, Heach, Hrep0, Lent, Lnamed, Lnum, Lnext, Utf, Lmend, Lagr, Lnx, Lsure, Lvalid, HrepD, HwholeD.
  (Where a joined text began as one that the kit's print.sh printed, it is trimmed here to what this claim uses, by this session's pack.py.)
-/
import Derived.Test.YthmbbkbmlnaghaaDoorQCharrefBack0
import Derived.Test.YthmbbkbmlnaghaaDoorQCharrefBack1
import Derived.ScopeJumps
import Derived.Lib.Strings
import Derived.Lib.ValidLaws
import Derived.Lib.RuneBytes
import Derived.Laws.Cover4
import Derived.Laws.EntriesVeiled
import Derived.Deep.RegionWith
section
namespace Go.Proofs.YthmbbkbmlnaghaaDoor.P
open Go.RowKit Go.Proofs.YthmbbkbmlnaghaaDoorW.PrintWords Go.Proofs.YthmbbkbmlnaghaaDoorW.PrintLast Go.Proofs.YthmbbkbmlnaghaaDoorW.PrintMore
attribute [local go_sem] max2_int min2_int max_two min_two max_three min_three max_four min_four   -- for this text's walks alone
set_option linter.unusedVariables false
set_option linter.unusedSimpArgs false

/-! ### charref_Number: function 7 -/
mutual
def charref_Number.j0 : Nat → ByteArray → Int → Option (Int × Bool)
 | 0, _, _ => none
 | k + 1, x0, x6 => charref_Number.l0 k x0 x6 0 (x0.toList != ([] : List UInt8)) (x0.size : Int) 0
def charref_Number.l0 : Nat → ByteArray → Int → Int → Bool → Int → Int → Option (Int × Bool)
 | 0, _, _, _, _, _, _ => none
 | k + 1, x0, x6, x7, x8, x15, x16 => if x16 < x15 then (if 0 ≤ x16 then (if x16 < (x0.size : Int) then ((names_Value.f k (wrap32 (bt x0 x16))).bind fun t209 => (if t209 < 0 then (some (65533, false)) else (if t209 ≥ x6 then (some (65533, false)) else (charref_Number.l0 k x0 x6 (mn (wrap64 ((wrap64 (x7 * x6)) + t209)) 1114112) x8 x15 (wrap64 (x16 + 1)))))) else (none)) else (none)) else (if x8 = true then ((charref_says.f x7).bind fun bt210 => (some (bt210.1, bt210.2))) else (some (65533, false)))
end
def charref_Number.f (k : Nat) (a0 : ByteArray) (a1 : Bool) : Option (Int × Bool) := if a1 = true then (charref_Number.j0 k a0 16) else (charref_Number.j0 k a0 10)
theorem charref_Number.mono_l : ∀ k, (∀ y0 y1, LeO (charref_Number.j0 k y0 y1) (charref_Number.j0 (k + 1) y0 y1)) ∧ (∀ y0 y1 y2 y3 y4 y5, LeO (charref_Number.l0 k y0 y1 y2 y3 y4 y5) (charref_Number.l0 (k + 1) y0 y1 y2 y3 y4 y5))
 | 0 => ⟨fun _ _ r h => by simp [charref_Number.j0] at h, fun _ _ _ _ _ _ r h => by simp [charref_Number.l0] at h⟩
 | k + 1 => by
  obtain ⟨ih0, ih1⟩ := charref_Number.mono_l k
  refine ⟨?_, ?_⟩
  ·intro y0 y1
   unfold charref_Number.j0
   repeat' first
   | (with_reducible exact ih0 _ _)
   | (with_reducible exact ih1 _ _ _ _ _ _)
   | (with_reducible exact names_Value.mono _ _)
   | (with_reducible exact LeO.refl _)
   | (with_reducible exact LeO.none _)
   | (with_reducible refine LeO.ite ?_ ?_)
   | (with_reducible refine LeO.bind ?_ (fun _ => ?_))
   | exact ih0 _ _
   | exact ih1 _ _ _ _ _ _
   | exact names_Value.mono _ _
   | exact LeO.none _
   | refine LeO.ite ?_ ?_
   | refine LeO.bind ?_ (fun _ => ?_)
  ·intro y0 y1 y2 y3 y4 y5
   unfold charref_Number.l0
   repeat' first
   | (with_reducible exact ih0 _ _)
   | (with_reducible exact ih1 _ _ _ _ _ _)
   | (with_reducible exact names_Value.mono _ _)
   | (with_reducible exact LeO.refl _)
   | (with_reducible exact LeO.none _)
   | (with_reducible refine LeO.ite ?_ ?_)
   | (with_reducible refine LeO.bind ?_ (fun _ => ?_))
   | exact ih0 _ _
   | exact ih1 _ _ _ _ _ _
   | exact names_Value.mono _ _
   | exact LeO.none _
   | refine LeO.ite ?_ ?_
   | refine LeO.bind ?_ (fun _ => ?_)
theorem charref_Number.mono : ∀ a0 a1 k, LeO (charref_Number.f k a0 a1) (charref_Number.f (k + 1) a0 a1) := by
 intro a0 a1 k
 obtain ⟨ih0, ih1⟩ := charref_Number.mono_l k
 unfold charref_Number.f
 repeat' first
   | (with_reducible exact ih0 _ _)
   | (with_reducible exact ih1 _ _ _ _ _ _)
   | (with_reducible exact names_Value.mono _ _)
   | (with_reducible exact LeO.refl _)
   | (with_reducible exact LeO.none _)
   | (with_reducible refine LeO.ite ?_ ?_)
   | (with_reducible refine LeO.bind ?_ (fun _ => ?_))
   | exact ih0 _ _
   | exact ih1 _ _ _ _ _ _
   | exact names_Value.mono _ _
   | exact LeO.none _
   | refine LeO.ite ?_ ?_
   | refine LeO.bind ?_ (fun _ => ?_)
set_option maxHeartbeats 8000000 in
set_option maxRecDepth 100000 in
theorem charref_Number.calls (k : Nat) (a0 : ByteArray) (a1 : Bool) (r1 : Int) (r2 : Bool) (w : World) (h : charref_Number.f k a0 a1 = some (r1, r2)) :
  Calls Tryd.prog 7 #[.string a0, .bool a1] w fun e w' => e = .returned (.tuple #[.int .i32 r1, .bool r2]) ∧ Below w.heap.size w w' := by
 have HB := Aside0.mk (Below.refl w.heap.size w)
 have H : (if a1 = true then (charref_Number.j0 k a0 16) else (charref_Number.j0 k a0 10)) = some (r1, r2) := h
 clear h
 have HC3 := Aside0.mk H
 clear H
 go_enter Tryd.func7, Tryd.ntmps7
 go_upto_if 11 with (fail)
 go_cut [6] (fun v6 wc => ∃ (kq : Nat) (x6_2 : Int), v6 = .int .i64 x6_2 ∧ Aside0 (charref_Number.j0 kq a0 x6_2 = some (r1, r2)) ∧ Aside0 (kq ≤ k) ∧ Aside0 (Below w.heap.size w wc))
 case first =>
  have H := HC3.out
  clear HC3
  by_cases c4 : a1 = true
  ·subst c4
   have H1 : (charref_Number.j0 k a0 16) = some (r1, r2) := by rw [if_pos rfl] at H; exact H
   clear H
   have H := H1
   clear H1
   have H' := Aside0.mk H
   clear H
   go_wp2
   go_meet
   case rel => exact ⟨_, (16), (by first | rfl | (simp; done) | (simp [*]; done) | (unfold bt; split <;> first | rfl | (exfalso; simp_all; done) | (exfalso; simp_all; omega))), H', ⟨by first | omega | exact Nat.le_refl _⟩, ⟨by repeat (first | (with_reducible first | exact HB.out | apply below_alloc | apply pw_below_drewN | apply below_drew1) | exact HB.out)⟩⟩
  ·replace c4 := Bool.eq_false_iff.mpr c4
   subst c4
   have H1 : (charref_Number.j0 k a0 10) = some (r1, r2) := by rw [if_neg (show ¬ (false = true) by decide)] at H; exact H
   clear H
   have H := H1
   clear H1
   have H' := Aside0.mk H
   clear H
   go_wp2
   go_meet
   case rel => exact ⟨_, (10), (by first | rfl | (simp; done) | (simp [*]; done) | (unfold bt; split <;> first | rfl | (exfalso; simp_all; done) | (exfalso; simp_all; omega))), H', ⟨by first | omega | exact Nat.le_refl _⟩, ⟨by repeat (first | (with_reducible first | exact HB.out | apply below_alloc | apply pw_below_drewN | apply below_drew1) | exact HB.out)⟩⟩
 case rest =>
  clear HC3
  try clear p2
  try clear c4
  obtain ⟨kq, x6_2, rfl, HA, HJ2, HB⟩ := hcut
  cases kq with
  | zero => exact absurd HA.out (by simp [charref_Number.j0])
  | succ kj2 =>
   have H := HA.out
   clear HA
   simp only [charref_Number.j0] at H
   have H' := Aside0.mk H
   clear H
   go_wp2
   go_loopg [7, 16] kj2 (fun kq v7 v16 w' => ∃ (x7_2 : Int) (x16_2 : Int), v7 = .int .i64 x7_2 ∧ v16 = .int .i64 x16_2 ∧ Aside0 (charref_Number.l0 kq a0 x6_2 x7_2 (a0.toList != ([] : List UInt8)) (a0.size : Int) x16_2 = some (r1, r2)) ∧ Aside0 (kq ≤ kj2) ∧ Aside0 (Below w.heap.size w w'))
   case atStart => exact ⟨(0), (0), (by first | rfl | (simp; done) | (simp [*]; done) | (unfold bt; split <;> first | rfl | (exfalso; simp_all; done) | (exfalso; simp_all; omega))), (by first | rfl | (simp; done) | (simp [*]; done) | (unfold bt; split <;> first | rfl | (exfalso; simp_all; done) | (exfalso; simp_all; omega))), H', ⟨Nat.le_refl _⟩, ⟨by repeat (first | (with_reducible first | exact HB.out | apply below_alloc | apply pw_below_drewN | apply below_drew1) | exact HB.out)⟩⟩
   case round =>
    clear H'
    try clear p2
    try clear c4
    try clear p2
    obtain ⟨x7_2, x16_2, rfl, rfl, HA, HK2, HB⟩ := hrel
    cases gk with
    | zero => exact absurd HA.out (by simp [charref_Number.l0])
    | succ k2 =>
     have H := HA.out
     clear HA
     simp only [charref_Number.l0] at H
     by_cases c5 : x16_2 < (a0.size : Int)
     ·rw [if_pos c5] at H
      have c5b0 : decide (x16_2 < (a0.size : Int)) = true := decide_eq_true c5
      clear c5
      by_cases c6 : 0 ≤ x16_2
      ·rw [if_pos c6] at H
       have c6b0 : decide (0 ≤ x16_2) = true := decide_eq_true c6
       clear c6
       by_cases c7 : x16_2 < (a0.size : Int)
       ·rw [if_pos c7] at H
        have c7b0 : decide (x16_2 < (a0.size : Int)) = true := decide_eq_true c7
        clear c7
        replace H := Option.bind_eq_some_iff.mp H
        obtain ⟨t209, A90, H⟩ := H
        replace H : (if t209 < 0 then (some (65533, false)) else (if t209 ≥ x6_2 then (some (65533, false)) else (charref_Number.l0 k2 a0 x6_2 (mn (wrap64 ((wrap64 (x7_2 * x6_2)) + t209)) 1114112) (a0.toList != ([] : List UInt8)) (a0.size : Int) (wrap64 (x16_2 + 1))))) = some (r1, r2) := H
        have A9 := Aside0.mk A90
        clear A90
        by_cases c10 : t209 < 0
        ·rw [if_pos c10] at H
         have c10b0 : decide (t209 < 0) = true := decide_eq_true c10
         clear c10
         simp only [Option.some.injEq, Prod.mk.injEq] at H
         obtain ⟨rfl, rfl⟩ := H
         have p8 : 0 ≤ (x16_2 : Int) := of_decide_eq_true (by first | (with_reducible assumption) | assumption)
         have q8 : x16_2 < (a0.size : Int) := of_decide_eq_true (by first | (with_reducible assumption) | assumption)
         have hx8 := bt_at a0 x16_2
         replace p8 := eq_true p8
         replace q8 := eq_true q8
         go_wp2_with (first | ((with_reducible refine gate_callee (f := 17) rfl ?_); refine goesL_ (some 23) rfl rfl Tryd.func17 (by kernel_rfl) rfl #[.int .i32 (wrap32 (bt a0 x16_2))] rfl (by (try simp only [List.map_toArray, List.map_cons, List.map_nil]); first | done | rfl | (simp only [List.length_drop, List.length_take]; rfl) | (simp [*] <;> rfl)) ?_; (with_reducible refine (names_Value.calls k2 (wrap32 (bt a0 x16_2)) t209 _ A9.out).mono ?_); rintro e w' ⟨rfl, ⟨nd, rfl⟩⟩; refine ⟨_, rfl, ?_⟩))
         go_ret2
         exact ⟨by first | rfl | (simp [errW_none, errW_some] <;> rfl) | (simp [*, errW_none, errW_some] <;> rfl), by repeat (first | (with_reducible first | exact HB.out | apply below_alloc | apply pw_below_drewN | apply below_drew1) | exact HB.out)⟩
        ·rw [if_neg c10] at H
         have c10b0 : decide (t209 < 0) = false := decide_eq_false c10
         clear c10
         by_cases c11 : t209 ≥ x6_2
         ·rw [if_pos c11] at H
          have c11b0 : decide (x6_2 ≤ t209) = true := decide_eq_true c11
          clear c11
          simp only [Option.some.injEq, Prod.mk.injEq] at H
          obtain ⟨rfl, rfl⟩ := H
          have p8 : 0 ≤ (x16_2 : Int) := of_decide_eq_true (by first | (with_reducible assumption) | assumption)
          have q8 : x16_2 < (a0.size : Int) := of_decide_eq_true (by first | (with_reducible assumption) | assumption)
          have hx8 := bt_at a0 x16_2
          replace p8 := eq_true p8
          replace q8 := eq_true q8
          go_wp2_with (first | ((with_reducible refine gate_callee (f := 17) rfl ?_); refine goesL_ (some 23) rfl rfl Tryd.func17 (by kernel_rfl) rfl #[.int .i32 (wrap32 (bt a0 x16_2))] rfl (by (try simp only [List.map_toArray, List.map_cons, List.map_nil]); first | done | rfl | (simp only [List.length_drop, List.length_take]; rfl) | (simp [*] <;> rfl)) ?_; (with_reducible refine (names_Value.calls k2 (wrap32 (bt a0 x16_2)) t209 _ A9.out).mono ?_); rintro e w' ⟨rfl, ⟨nd, rfl⟩⟩; refine ⟨_, rfl, ?_⟩))
          go_ret2
          exact ⟨by first | rfl | (simp [errW_none, errW_some] <;> rfl) | (simp [*, errW_none, errW_some] <;> rfl), by repeat (first | (with_reducible first | exact HB.out | apply below_alloc | apply pw_below_drewN | apply below_drew1) | exact HB.out)⟩
         ·rw [if_neg c11] at H
          have c11b0 : decide (x6_2 ≤ t209) = false := decide_eq_false c11
          clear c11
          obtain ⟨ji12, hji12⟩ : ∃ j_ : Int, (mn (wrap64 ((wrap64 (x7_2 * x6_2)) + t209)) 1114112) = j_ := ⟨_, rfl⟩
          replace H : (charref_Number.l0 k2 a0 x6_2 ji12 (a0.toList != ([] : List UInt8)) (a0.size : Int) (wrap64 (x16_2 + 1))) = some (r1, r2) := by first | (rw [hji12] at H; exact H) | (simp only [hji12] at H ⊢; exact H)
          (try rw [hji12] at A9)
          have hji12_ : (if 1114112 < (wrap64 ((wrap64 (x7_2 * x6_2)) + t209)) then 1114112 else (wrap64 ((wrap64 (x7_2 * x6_2)) + t209))) = ji12 := hji12
          have H' := Aside0.mk H
          clear H
          have p8 : 0 ≤ (x16_2 : Int) := of_decide_eq_true (by first | (with_reducible assumption) | assumption)
          have q8 : x16_2 < (a0.size : Int) := of_decide_eq_true (by first | (with_reducible assumption) | assumption)
          have hx8 := bt_at a0 x16_2
          replace p8 := eq_true p8
          replace q8 := eq_true q8
          go_wp2_with (first | ((with_reducible refine gate_callee (f := 17) rfl ?_); refine goesL_ (some 23) rfl rfl Tryd.func17 (by kernel_rfl) rfl #[.int .i32 (wrap32 (bt a0 x16_2))] rfl (by (try simp only [List.map_toArray, List.map_cons, List.map_nil]); first | done | rfl | (simp only [List.length_drop, List.length_take]; rfl) | (simp [*] <;> rfl)) ?_; (with_reducible refine (names_Value.calls k2 (wrap32 (bt a0 x16_2)) t209 _ A9.out).mono ?_); rintro e w' ⟨rfl, ⟨nd, rfl⟩⟩; refine ⟨_, rfl, ?_⟩))
          go_roundg k2
          case measure => have := HJ2.out; have := HK2.out; omega
          case rel => exact ⟨(ji12), (wrap64 (x16_2 + 1)), (by first | rfl | (simp; done) | (simp only [← hji12] <;> (first | rfl | simp)) | (simp [*]; done)), (by first | rfl | (simp; done) | (simp [*]; done) | (unfold bt; split <;> first | rfl | (exfalso; simp_all; done) | (exfalso; simp_all; omega))), H', ⟨by have := HJ2.out; have := HK2.out; omega⟩, ⟨by repeat (first | (with_reducible first | exact HB.out | apply below_alloc | apply pw_below_drewN | apply below_drew1) | exact HB.out)⟩⟩
       ·rw [if_neg c7] at H
        exact absurd H (by simp)
      ·rw [if_neg c6] at H
       exact absurd H (by simp)
     ·rw [if_neg c5] at H
      have c5b0 : decide (x16_2 < (a0.size : Int)) = false := decide_eq_false c5
      clear c5
      by_cases c13 : (a0.toList != ([] : List UInt8)) = true
      ·rw [if_pos c13] at H
       have c13b0 : (a0.toList != ([] : List UInt8)) = true := c13
       (try (have c13b1 : decide (a0.toList = ([] : List UInt8)) = false := by simpa using c13))
       (try (have c13b8 : (a0.toList).isEmpty = false := by simpa using c13))
       (try (have c13b2 : (a0.toList == ([] : List UInt8)) = false := by simpa using c13))
       (try (have c13b3 : ¬ (a0.toList = ([] : List UInt8)) := by simpa using c13))
       clear c13
       replace H := Option.bind_eq_some_iff.mp H
       obtain ⟨⟨t210, t211⟩, A140, H⟩ := H
       replace H : (some (t210, t211)) = some (r1, r2) := H
       have A14 := Aside0.mk A140
       clear A140
       simp only [Option.some.injEq, Prod.mk.injEq] at H
       obtain ⟨rfl, rfl⟩ := H
       go_wp2_with (first | ((with_reducible refine gate_callee (f := 18) rfl ?_); refine goesL_ (some 41) rfl rfl Tryd.func18 (by kernel_rfl) rfl #[.int .i64 x7_2] rfl (by (try simp only [List.map_toArray, List.map_cons, List.map_nil]); first | done | rfl | (simp only [List.length_drop, List.length_take]; rfl) | (simp [*] <;> rfl)) ?_; (with_reducible refine (charref_says.calls x7_2 t210 t211 _ A14.out).mono ?_); rintro e w15 ⟨rfl, hb⟩; refine ⟨_, rfl, ?_⟩; have n0_ := Aside0.mk (below_step (by repeat (first | (with_reducible first | exact HB.out | apply below_alloc | apply pw_below_drewN | apply below_drew1) | exact HB.out)) hb); clear HB; have HB := n0_; clear n0_; (try clear hb); (try clear hb2); (try clear hk); (try clear hi)))
       go_ret2
       exact ⟨by first | rfl | (simp [errW_none, errW_some] <;> rfl) | (simp [*, errW_none, errW_some] <;> rfl), by repeat (first | (with_reducible first | exact HB.out | apply below_alloc | apply pw_below_drewN | apply below_drew1) | exact HB.out)⟩
      ·rw [if_neg c13] at H
       have c13b0 : (a0.toList != ([] : List UInt8)) = false := by simpa using c13
       (try (have c13b1 : decide (a0.toList = ([] : List UInt8)) = true := by simpa using c13))
       (try (have c13b8 : (a0.toList).isEmpty = true := by simpa using c13))
       (try (have c13b2 : (a0.toList == ([] : List UInt8)) = true := by simpa using c13))
       clear c13
       simp only [Option.some.injEq, Prod.mk.injEq] at H
       obtain ⟨rfl, rfl⟩ := H
       go_wp2
       go_ret2
       exact ⟨by first | rfl | (simp [errW_none, errW_some] <;> rfl) | (simp [*, errW_none, errW_some] <;> rfl), by repeat (first | (with_reducible first | exact HB.out | apply below_alloc | apply pw_below_drewN | apply below_drew1) | exact HB.out)⟩

/-! ### entity_Begins: function 57 -/
def entity_Begins.l0 : Nat → ByteArray → List (S75) → Int → Int → Option (Bool)
 | 0, _, _, _, _ => none
 | k + 1, x0, x5, x6, x7 => if x7 < x6 then (if 0 ≤ x7 then (if x7 < (x5.length : Int) then (if (x0.size : Int) ≤ (((rd_T75 x5 x7).f0).size : Int) then ((strings_HasPrefix.f ((rd_T75 x5 x7).f0) x0).bind fun t217 => (if t217 = true then (some true) else (entity_Begins.l0 k x0 x5 x6 (wrap64 (x7 + 1))))) else (entity_Begins.l0 k x0 x5 x6 (wrap64 (x7 + 1)))) else (none)) else (none)) else (some false)
def entity_Begins.f (k : Nat) (a0 : ByteArray) : Option (Bool) := (api_Entities.f).bind fun t212 => (entity_Begins.l0 k a0 t212 (t212.length : Int) 0)
theorem entity_Begins.mono_l : ∀ k, (∀ y0 y1 y2 y3, LeO (entity_Begins.l0 k y0 y1 y2 y3) (entity_Begins.l0 (k + 1) y0 y1 y2 y3))
 | 0 => fun _ _ _ _ r h => by simp [entity_Begins.l0] at h
 | k + 1 => by
  have ih0 := entity_Begins.mono_l k
  ·intro y0 y1 y2 y3
   unfold entity_Begins.l0
   repeat' first
   | (with_reducible exact ih0 _ _ _ _)
   | (with_reducible exact LeO.refl _)
   | (with_reducible exact LeO.none _)
   | (with_reducible refine LeO.ite ?_ ?_)
   | (with_reducible refine LeO.bind ?_ (fun _ => ?_))
   | exact ih0 _ _ _ _
   | exact LeO.none _
   | refine LeO.ite ?_ ?_
   | refine LeO.bind ?_ (fun _ => ?_)
theorem entity_Begins.mono : ∀ a0 k, LeO (entity_Begins.f k a0) (entity_Begins.f (k + 1) a0) := by
 intro a0 k
 have ih0 := entity_Begins.mono_l k
 unfold entity_Begins.f
 repeat' first
   | (with_reducible exact ih0 _ _ _ _)
   | (with_reducible exact LeO.refl _)
   | (with_reducible exact LeO.none _)
   | (with_reducible refine LeO.ite ?_ ?_)
   | (with_reducible refine LeO.bind ?_ (fun _ => ?_))
   | exact ih0 _ _ _ _
   | exact LeO.none _
   | refine LeO.ite ?_ ?_
   | refine LeO.bind ?_ (fun _ => ?_)
set_option maxHeartbeats 8000000 in
set_option maxRecDepth 100000 in
theorem entity_Begins.calls (k : Nat) (a0 : ByteArray) (r : Bool) (w : World) (h : entity_Begins.f k a0 = some r) :
  Calls Tryd.prog 57 #[.string a0] w fun e w' => e = .returned (.bool r) ∧ Below w.heap.size w w' := by
 have hu75 := Tryd.underlying75
 have HB := Aside0.mk (Below.refl w.heap.size w)
 have H : ((api_Entities.f).bind fun t212 => (entity_Begins.l0 k a0 t212 (t212.length : Int) 0)) = some r := h
 clear h
 replace H := Option.bind_eq_some_iff.mp H
 obtain ⟨t212, A20, H⟩ := H
 replace H : (entity_Begins.l0 k a0 t212 (t212.length : Int) 0) = some r := H
 have A2 := Aside0.mk A20
 clear A20
 have H' := Aside0.mk H
 clear H
 go_enter Tryd.func57, Tryd.ntmps57
 go_wp2_with (first | ((with_reducible refine gate_callee (f := 49) rfl ?_); refine goesL_ (some 5) rfl rfl Tryd.func49 (by kernel_rfl) rfl #[] rfl (by (try simp only [List.map_toArray, List.map_cons, List.map_nil]); first | done | rfl | (simp only [List.length_drop, List.length_take]; rfl) | (simp [*] <;> rfl)) ?_; (with_reducible refine (api_Entities.calls  t212 _ A2.out).mono ?_); rintro e w3 ⟨v213, rfl, ho0, hb⟩; refine ⟨_, rfl, ?_⟩; have n0_ := Aside0.mk (Kd.R_lower ho0 (below_size (by repeat (first | (with_reducible first | exact HB.out | apply below_alloc | apply pw_below_drewN | apply below_drew1) | exact HB.out)))); have n1_ := Aside0.mk (below_step (by repeat (first | (with_reducible first | exact HB.out | apply below_alloc | apply pw_below_drewN | apply below_drew1) | exact HB.out)) hb); clear HB; have HO214 := n0_; have HB := n1_; clear n0_ n1_; (try clear hb); (try clear hb2); (try clear hk); (try clear hi); (try clear ho0); obtain ⟨Ao4, co4, eo4⟩ := Kd.R_slice HO214.out; subst eo4))
 go_loopg [7] k (fun kq v7 w' => ∃ (x7_1 : Int), v7 = .int .i64 x7_1 ∧ Aside0 (entity_Begins.l0 kq a0 t212 (t212.length : Int) x7_1 = some r) ∧ Aside0 (kq ≤ k) ∧ Aside0 (Kd.R k75 75 w' w.heap.size (fun _ => True) (.slice Ao4 t212.length co4) t212) ∧ Aside0 (Below w.heap.size w w'))
 case atStart => exact ⟨(0), (by first | rfl | (simp; done) | (simp [*]; done) | (unfold bt; split <;> first | rfl | (exfalso; simp_all; done) | (exfalso; simp_all; omega))), H', ⟨Nat.le_refl _⟩, ⟨by (with_reducible repeat (first | apply Kd.R_alloc | apply Kd.R_drewN | apply Kd.R_drew)); exact HO214.out⟩, ⟨by repeat (first | (with_reducible first | exact HB.out | apply below_alloc | apply pw_below_drewN | apply below_drew1) | exact HB.out)⟩⟩
 case round =>
  clear H'
  try clear p2
  try clear c4
  obtain ⟨x7_1, rfl, HA, HK1, HO_5, HB⟩ := hrel
  cases gk with
  | zero => exact absurd HA.out (by simp [entity_Begins.l0])
  | succ k1 =>
   have H := HA.out
   clear HA
   simp only [entity_Begins.l0] at H
   by_cases c5 : x7_1 < (t212.length : Int)
   ·rw [if_pos c5] at H
    have c5b0 : decide (x7_1 < (t212.length : Int)) = true := decide_eq_true c5
    clear c5
    by_cases c6 : 0 ≤ x7_1
    ·rw [if_pos c6] at H
     have c6b0 : decide (0 ≤ x7_1) = true := decide_eq_true c6
     clear c6
     by_cases c7 : x7_1 < (t212.length : Int)
     ·rw [if_pos c7] at H
      have c7b0 : decide (x7_1 < (t212.length : Int)) = true := decide_eq_true c7
      clear c7
      by_cases c8 : (a0.size : Int) ≤ (((rd_T75 t212 x7_1).f0).size : Int)
      ·rw [if_pos c8] at H
       have c8b0 : decide ((a0.size : Int) ≤ (((rd_T75 t212 x7_1).f0).size : Int)) = true := decide_eq_true c8
       have c8b1 : decide (a0.size ≤ ((rd_T75 t212 x7_1).f0).size) = true := decide_eq_true (Int.ofNat_le.mp c8)
       clear c8
       replace H := Option.bind_eq_some_iff.mp H
       obtain ⟨t217, A90, H⟩ := H
       replace H : (if t217 = true then (some true) else (entity_Begins.l0 k1 a0 t212 (t212.length : Int) (wrap64 (x7_1 + 1)))) = some r := H
       have A9 := Aside0.mk A90
       clear A90
       by_cases c10 : t217 = true
       ·subst c10
        have H1 : (some true) = some r := by rw [if_pos rfl] at H; exact H
        clear H
        have H := H1
        clear H1
        obtain rfl := Option.some.inj H
        have p215 : 0 ≤ (x7_1 : Int) := of_decide_eq_true (by first | (with_reducible assumption) | assumption)
        have q215 : x7_1 < (t212.length : Int) := of_decide_eq_true (by first | (with_reducible assumption) | assumption)
        obtain ⟨ad215, e215, hx215_0, hx215_1, hx215_2, hx215_3⟩ := at_T75 (Kd.R_reads' HO_5.out).2.2 x7_1 p215 q215
        cases e215
        replace p215 := eq_true p215
        replace q215 := eq_true q215
        go_wp2_with (first | ((with_reducible refine gate_dst (N := 4) rfl ?_); refine box_event ?hg (N := 4) ?hd (cs := #[.string (⟨#[]⟩ : ByteArray), .int .i32 0, .int .i32 0, .bool false]) (t := 75) ?hr ?_; (case hd => rfl); (case hg => rfl); (case hr => first | (go_simp; done) | (go_simp; rfl)); intro gb216 hg w11 hbox hb; have n0_ := Aside0.mk (Kd.R_below (Kd.R_elderB (by (with_reducible repeat (first | apply Kd.R_alloc | apply Kd.R_drewN | apply Kd.R_drew)); exact HO_5.out) gb216 (Nat.le_of_eq hg.symm)) hb); have n1_ := Aside0.mk (below_step (by repeat (first | (with_reducible first | exact HB.out | apply below_alloc | apply pw_below_drewN | apply below_drew1) | exact HB.out)) hb); have n2_ := Aside0.mk (hbox); have n3_ := Aside0.mk ((by rw [hg]; exact (below_size (by repeat (first | (with_reducible first | exact HB.out | apply below_alloc | apply pw_below_drewN | apply below_drew1) | exact HB.out))) : w.heap.size ≤ gb216)); have n4_ := Aside0.mk ((by rw [hg]; exact (below_size (by repeat (first | (with_reducible first | exact HB.out | apply below_alloc | apply pw_below_drewN | apply below_drew1) | exact HB.out))) : w.heap.size ≤ gb216)); clear HO_5; clear HB; have HO_5 := n0_; have HB := n1_; have BK216 := n2_; have GW216 := n3_; have GE216 := n4_; clear n0_ n1_ n2_ n3_ n4_; clear hb hbox hg; have hcz12_0 : w11.cell? ⟨gb216, 0, none⟩ = some (.string (⟨#[]⟩ : ByteArray)) := (blk_cell BK216.out 0).trans rfl; have hcz12_1 : w11.cell? ⟨gb216, 1, none⟩ = some (.int .i32 0) := (blk_cell BK216.out 1).trans rfl; have hcz12_2 : w11.cell? ⟨gb216, 2, none⟩ = some (.int .i32 0) := (blk_cell BK216.out 2).trans rfl; have hcz12_3 : w11.cell? ⟨gb216, 3, none⟩ = some (.bool false) := (blk_cell BK216.out 3).trans rfl; have hfz12_0 := blk_frozen BK216.out 0; have hfz12_1 := blk_frozen BK216.out 1; have hfz12_2 := blk_frozen BK216.out 2; have hfz12_3 := blk_frozen BK216.out 3) | (go_at_call 75; (with_reducible refine (strings_HasPrefix.calls ((rd_T75 t212 x7_1).f0) a0 true _ A9.out).mono ?_); rintro e w' ⟨rfl, ⟨nd, rfl⟩⟩))
        go_ret
        exact ⟨by first | rfl | (simp [errW_none, errW_some] <;> rfl) | (simp [*, errW_none, errW_some] <;> rfl), by repeat (first | (with_reducible first | exact HB.out | apply below_alloc | apply pw_below_drewN | apply below_drew1 | refine below_set ?_ GE216.out) | exact HB.out)⟩
       ·replace c10 := Bool.eq_false_iff.mpr c10
        subst c10
        have H1 : (entity_Begins.l0 k1 a0 t212 (t212.length : Int) (wrap64 (x7_1 + 1))) = some r := by rw [if_neg (show ¬ (false = true) by decide)] at H; exact H
        clear H
        have H := H1
        clear H1
        have H' := Aside0.mk H
        clear H
        have p215 : 0 ≤ (x7_1 : Int) := of_decide_eq_true (by first | (with_reducible assumption) | assumption)
        have q215 : x7_1 < (t212.length : Int) := of_decide_eq_true (by first | (with_reducible assumption) | assumption)
        obtain ⟨ad215, e215, hx215_0, hx215_1, hx215_2, hx215_3⟩ := at_T75 (Kd.R_reads' HO_5.out).2.2 x7_1 p215 q215
        cases e215
        replace p215 := eq_true p215
        replace q215 := eq_true q215
        go_wp2_with (first | ((with_reducible refine gate_dst (N := 4) rfl ?_); refine box_event ?hg (N := 4) ?hd (cs := #[.string (⟨#[]⟩ : ByteArray), .int .i32 0, .int .i32 0, .bool false]) (t := 75) ?hr ?_; (case hd => rfl); (case hg => rfl); (case hr => first | (go_simp; done) | (go_simp; rfl)); intro gb216 hg w13 hbox hb; have n0_ := Aside0.mk (Kd.R_below (Kd.R_elderB (by (with_reducible repeat (first | apply Kd.R_alloc | apply Kd.R_drewN | apply Kd.R_drew)); exact HO_5.out) gb216 (Nat.le_of_eq hg.symm)) hb); have n1_ := Aside0.mk (below_step (by repeat (first | (with_reducible first | exact HB.out | apply below_alloc | apply pw_below_drewN | apply below_drew1) | exact HB.out)) hb); have n2_ := Aside0.mk (hbox); have n3_ := Aside0.mk ((by rw [hg]; exact (below_size (by repeat (first | (with_reducible first | exact HB.out | apply below_alloc | apply pw_below_drewN | apply below_drew1) | exact HB.out))) : w.heap.size ≤ gb216)); have n4_ := Aside0.mk ((by rw [hg]; exact (below_size (by repeat (first | (with_reducible first | exact HB.out | apply below_alloc | apply pw_below_drewN | apply below_drew1) | exact HB.out))) : w.heap.size ≤ gb216)); clear HO_5; clear HB; have HO_5 := n0_; have HB := n1_; have BK216 := n2_; have GW216 := n3_; have GE216 := n4_; clear n0_ n1_ n2_ n3_ n4_; clear hb hbox hg; have hcz14_0 : w13.cell? ⟨gb216, 0, none⟩ = some (.string (⟨#[]⟩ : ByteArray)) := (blk_cell BK216.out 0).trans rfl; have hcz14_1 : w13.cell? ⟨gb216, 1, none⟩ = some (.int .i32 0) := (blk_cell BK216.out 1).trans rfl; have hcz14_2 : w13.cell? ⟨gb216, 2, none⟩ = some (.int .i32 0) := (blk_cell BK216.out 2).trans rfl; have hcz14_3 : w13.cell? ⟨gb216, 3, none⟩ = some (.bool false) := (blk_cell BK216.out 3).trans rfl; have hfz14_0 := blk_frozen BK216.out 0; have hfz14_1 := blk_frozen BK216.out 1; have hfz14_2 := blk_frozen BK216.out 2; have hfz14_3 := blk_frozen BK216.out 3) | (go_at_call 75; (with_reducible refine (strings_HasPrefix.calls ((rd_T75 t212 x7_1).f0) a0 false _ A9.out).mono ?_); rintro e w' ⟨rfl, ⟨nd, rfl⟩⟩))
        go_roundg k1
        case measure => have := HK1.out; omega
        case rel => exact ⟨(wrap64 (x7_1 + 1)), (by first | rfl | (simp; done) | (simp [*]; done) | (unfold bt; split <;> first | rfl | (exfalso; simp_all; done) | (exfalso; simp_all; omega))), H', ⟨by have := HK1.out; omega⟩, ⟨by (with_reducible repeat (first | apply Kd.R_alloc | apply Kd.R_drewN | apply Kd.R_drew)); exact Kd.R_mono (Kd.R_far (p := ⟨gb216, 3, none⟩) (Kd.R_far (p := ⟨gb216, 2, none⟩) (Kd.R_far (p := ⟨gb216, 1, none⟩) (Kd.R_far (p := ⟨gb216, 0, none⟩) (Kd.R_mono HO_5.out (fun k_ hk => (⟨hk, hk.2⟩ : _ ∧ k_ ≠ gb216))) (fun _ hk => hk.2) (.string ((rd_T75 t212 x7_1).f0))) (fun _ hk => hk.2) (.int .i32 ((rd_T75 t212 x7_1).f1))) (fun _ hk => hk.2) (.int .i32 ((rd_T75 t212 x7_1).f2))) (fun _ hk => hk.2) (.bool ((rd_T75 t212 x7_1).f3))) (fun _ hk => trivial)⟩, ⟨by repeat (first | (with_reducible first | exact HB.out | apply below_alloc | apply pw_below_drewN | apply below_drew1 | refine below_set ?_ GE216.out) | exact HB.out)⟩⟩
      ·rw [if_neg c8] at H
       have c8b0 : decide ((a0.size : Int) ≤ (((rd_T75 t212 x7_1).f0).size : Int)) = false := decide_eq_false c8
       have c8b1 : decide (a0.size ≤ ((rd_T75 t212 x7_1).f0).size) = false := decide_eq_false (fun h => c8 (Int.ofNat_le.mpr h))
       clear c8
       have H' := Aside0.mk H
       clear H
       have p215 : 0 ≤ (x7_1 : Int) := of_decide_eq_true (by first | (with_reducible assumption) | assumption)
       have q215 : x7_1 < (t212.length : Int) := of_decide_eq_true (by first | (with_reducible assumption) | assumption)
       obtain ⟨ad215, e215, hx215_0, hx215_1, hx215_2, hx215_3⟩ := at_T75 (Kd.R_reads' HO_5.out).2.2 x7_1 p215 q215
       cases e215
       replace p215 := eq_true p215
       replace q215 := eq_true q215
       go_wp2_with (first | ((with_reducible refine gate_dst (N := 4) rfl ?_); refine box_event ?hg (N := 4) ?hd (cs := #[.string (⟨#[]⟩ : ByteArray), .int .i32 0, .int .i32 0, .bool false]) (t := 75) ?hr ?_; (case hd => rfl); (case hg => rfl); (case hr => first | (go_simp; done) | (go_simp; rfl)); intro gb216 hg w15 hbox hb; have n0_ := Aside0.mk (Kd.R_below (Kd.R_elderB (by (with_reducible repeat (first | apply Kd.R_alloc | apply Kd.R_drewN | apply Kd.R_drew)); exact HO_5.out) gb216 (Nat.le_of_eq hg.symm)) hb); have n1_ := Aside0.mk (below_step (by repeat (first | (with_reducible first | exact HB.out | apply below_alloc | apply pw_below_drewN | apply below_drew1) | exact HB.out)) hb); have n2_ := Aside0.mk (hbox); have n3_ := Aside0.mk ((by rw [hg]; exact (below_size (by repeat (first | (with_reducible first | exact HB.out | apply below_alloc | apply pw_below_drewN | apply below_drew1) | exact HB.out))) : w.heap.size ≤ gb216)); have n4_ := Aside0.mk ((by rw [hg]; exact (below_size (by repeat (first | (with_reducible first | exact HB.out | apply below_alloc | apply pw_below_drewN | apply below_drew1) | exact HB.out))) : w.heap.size ≤ gb216)); clear HO_5; clear HB; have HO_5 := n0_; have HB := n1_; have BK216 := n2_; have GW216 := n3_; have GE216 := n4_; clear n0_ n1_ n2_ n3_ n4_; clear hb hbox hg; have hcz16_0 : w15.cell? ⟨gb216, 0, none⟩ = some (.string (⟨#[]⟩ : ByteArray)) := (blk_cell BK216.out 0).trans rfl; have hcz16_1 : w15.cell? ⟨gb216, 1, none⟩ = some (.int .i32 0) := (blk_cell BK216.out 1).trans rfl; have hcz16_2 : w15.cell? ⟨gb216, 2, none⟩ = some (.int .i32 0) := (blk_cell BK216.out 2).trans rfl; have hcz16_3 : w15.cell? ⟨gb216, 3, none⟩ = some (.bool false) := (blk_cell BK216.out 3).trans rfl; have hfz16_0 := blk_frozen BK216.out 0; have hfz16_1 := blk_frozen BK216.out 1; have hfz16_2 := blk_frozen BK216.out 2; have hfz16_3 := blk_frozen BK216.out 3))
       go_roundg k1
       case measure => have := HK1.out; omega
       case rel => exact ⟨(wrap64 (x7_1 + 1)), (by first | rfl | (simp; done) | (simp [*]; done) | (unfold bt; split <;> first | rfl | (exfalso; simp_all; done) | (exfalso; simp_all; omega))), H', ⟨by have := HK1.out; omega⟩, ⟨by (with_reducible repeat (first | apply Kd.R_alloc | apply Kd.R_drewN | apply Kd.R_drew)); exact Kd.R_mono (Kd.R_far (p := ⟨gb216, 3, none⟩) (Kd.R_far (p := ⟨gb216, 2, none⟩) (Kd.R_far (p := ⟨gb216, 1, none⟩) (Kd.R_far (p := ⟨gb216, 0, none⟩) (Kd.R_mono HO_5.out (fun k_ hk => (⟨hk, hk.2⟩ : _ ∧ k_ ≠ gb216))) (fun _ hk => hk.2) (.string ((rd_T75 t212 x7_1).f0))) (fun _ hk => hk.2) (.int .i32 ((rd_T75 t212 x7_1).f1))) (fun _ hk => hk.2) (.int .i32 ((rd_T75 t212 x7_1).f2))) (fun _ hk => hk.2) (.bool ((rd_T75 t212 x7_1).f3))) (fun _ hk => trivial)⟩, ⟨by repeat (first | (with_reducible first | exact HB.out | apply below_alloc | apply pw_below_drewN | apply below_drew1 | refine below_set ?_ GE216.out) | exact HB.out)⟩⟩
     ·rw [if_neg c7] at H
      exact absurd H (by simp)
    ·rw [if_neg c6] at H
     exact absurd H (by simp)
   ·rw [if_neg c5] at H
    have c5b0 : decide (x7_1 < (t212.length : Int)) = false := decide_eq_false c5
    clear c5
    obtain rfl := Option.some.inj H
    go_wp2
    go_ret
    exact ⟨by first | rfl | (simp [errW_none, errW_some] <;> rfl) | (simp [*, errW_none, errW_some] <;> rfl), by repeat (first | (with_reducible first | exact HB.out | apply below_alloc | apply pw_below_drewN | apply below_drew1) | exact HB.out)⟩

/-! ### entity_Longest: function 58 -/
mutual
def entity_Longest.l0 : Nat → ByteArray → Int → List Int → List (S75) → Int → Int → Option (Int × List Int)
 | 0, _, _, _, _, _, _ => none
 | k + 1, x0, x4, x5, x9, x10, x11 => if x11 < x10 then (if 0 ≤ x11 then (if x11 < (x9.length : Int) then ((strings_HasPrefix.f x0 ((rd_T75 x9 x11).f0)).bind fun t223 => (if t223 = true then (if (((rd_T75 x9 x11).f0).size : Int) < (x0.size : Int) then (if 0 ≤ (((rd_T75 x9 x11).f0).size : Int) then (entity_Longest.j1 k x0 x4 x5 (((rd_T75 x9 x11).f0).size : Int) x9 x10 x11 ((bt x0 (((rd_T75 x9 x11).f0).size : Int)) == 59) ((rd_T75 x9 x11).f0) ((rd_T75 x9 x11).f1) ((rd_T75 x9 x11).f2) ((rd_T75 x9 x11).f3)) else (none)) else (entity_Longest.j1 k x0 x4 x5 (((rd_T75 x9 x11).f0).size : Int) x9 x10 x11 false ((rd_T75 x9 x11).f0) ((rd_T75 x9 x11).f1) ((rd_T75 x9 x11).f2) ((rd_T75 x9 x11).f3))) else (entity_Longest.l0 k x0 x4 x5 x9 x10 (wrap64 (x11 + 1))))) else (none)) else (none)) else (some (x4, x5))
def entity_Longest.j1 : Nat → ByteArray → Int → List Int → Int → List (S75) → Int → Int → Bool → ByteArray → Int → Int → Bool → Option (Int × List Int)
 | 0, _, _, _, _, _, _, _, _, _, _, _, _ => none
 | k + 1, x0, x4, x5, x8, x9, x10, x11, x32, x223000, x223001, x223002, x223003 => if x32 = true then (if (wrap64 (x8 + 1)) > x4 then ((entity_says.f x223000 x223001 x223002 x223003).bind fun t224 => (entity_Longest.l0 k x0 (wrap64 (x8 + 1)) t224 x9 x10 (wrap64 (x11 + 1)))) else (entity_Longest.l0 k x0 x4 x5 x9 x10 (wrap64 (x11 + 1)))) else (if x223003 = true then (if x8 > x4 then ((entity_says.f x223000 x223001 x223002 x223003).bind fun t227 => (entity_Longest.l0 k x0 x8 t227 x9 x10 (wrap64 (x11 + 1)))) else (entity_Longest.l0 k x0 x4 x5 x9 x10 (wrap64 (x11 + 1)))) else (entity_Longest.l0 k x0 x4 x5 x9 x10 (wrap64 (x11 + 1))))
end
def entity_Longest.f (k : Nat) (a0 : ByteArray) : Option (Int × List Int) := (api_Entities.f).bind fun t218 => (entity_Longest.l0 k a0 0 ([] : List Int) t218 (t218.length : Int) 0)
theorem entity_Longest.mono_l : ∀ k, (∀ y0 y1 y2 y3 y4 y5, LeO (entity_Longest.l0 k y0 y1 y2 y3 y4 y5) (entity_Longest.l0 (k + 1) y0 y1 y2 y3 y4 y5)) ∧ (∀ y0 y1 y2 y3 y4 y5 y6 y7 y8 y9 y10 y11, LeO (entity_Longest.j1 k y0 y1 y2 y3 y4 y5 y6 y7 y8 y9 y10 y11) (entity_Longest.j1 (k + 1) y0 y1 y2 y3 y4 y5 y6 y7 y8 y9 y10 y11))
 | 0 => ⟨fun _ _ _ _ _ _ r h => by simp [entity_Longest.l0] at h, fun _ _ _ _ _ _ _ _ _ _ _ _ r h => by simp [entity_Longest.j1] at h⟩
 | k + 1 => by
  obtain ⟨ih0, ih1⟩ := entity_Longest.mono_l k
  refine ⟨?_, ?_⟩
  ·intro y0 y1 y2 y3 y4 y5
   unfold entity_Longest.l0
   repeat' first
   | (with_reducible exact ih0 _ _ _ _ _ _)
   | (with_reducible exact ih1 _ _ _ _ _ _ _ _ _ _ _ _)
   | (with_reducible exact LeO.refl _)
   | (with_reducible exact LeO.none _)
   | (with_reducible refine LeO.ite ?_ ?_)
   | (with_reducible refine LeO.bind ?_ (fun _ => ?_))
   | exact ih0 _ _ _ _ _ _
   | exact ih1 _ _ _ _ _ _ _ _ _ _ _ _
   | exact LeO.none _
   | refine LeO.ite ?_ ?_
   | refine LeO.bind ?_ (fun _ => ?_)
  ·intro y0 y1 y2 y3 y4 y5 y6 y7 y8 y9 y10 y11
   unfold entity_Longest.j1
   repeat' first
   | (with_reducible exact ih0 _ _ _ _ _ _)
   | (with_reducible exact ih1 _ _ _ _ _ _ _ _ _ _ _ _)
   | (with_reducible exact LeO.refl _)
   | (with_reducible exact LeO.none _)
   | (with_reducible refine LeO.ite ?_ ?_)
   | (with_reducible refine LeO.bind ?_ (fun _ => ?_))
   | exact ih0 _ _ _ _ _ _
   | exact ih1 _ _ _ _ _ _ _ _ _ _ _ _
   | exact LeO.none _
   | refine LeO.ite ?_ ?_
   | refine LeO.bind ?_ (fun _ => ?_)
theorem entity_Longest.mono : ∀ a0 k, LeO (entity_Longest.f k a0) (entity_Longest.f (k + 1) a0) := by
 intro a0 k
 obtain ⟨ih0, ih1⟩ := entity_Longest.mono_l k
 unfold entity_Longest.f
 repeat' first
   | (with_reducible exact ih0 _ _ _ _ _ _)
   | (with_reducible exact ih1 _ _ _ _ _ _ _ _ _ _ _ _)
   | (with_reducible exact LeO.refl _)
   | (with_reducible exact LeO.none _)
   | (with_reducible refine LeO.ite ?_ ?_)
   | (with_reducible refine LeO.bind ?_ (fun _ => ?_))
   | exact ih0 _ _ _ _ _ _
   | exact ih1 _ _ _ _ _ _ _ _ _ _ _ _
   | exact LeO.none _
   | refine LeO.ite ?_ ?_
   | refine LeO.bind ?_ (fun _ => ?_)
set_option maxHeartbeats 8000000 in
set_option maxRecDepth 100000 in
theorem entity_Longest.calls (k : Nat) (a0 : ByteArray) (r1 : Int) (r2 : List Int) (w : World) (h : entity_Longest.f k a0 = some (r1, r2)) :
  Calls Tryd.prog 58 #[.string a0] w fun e w' => ∃ v1_ : Value, e = .returned (.tuple #[.int .i64 r1, v1_]) ∧ Kd.R (Kd.int .i32) 21 w' w.heap.size (fun _ => True) v1_ r2 ∧ Below w.heap.size w w' := by
 have hu75 := Tryd.underlying75
 have HB := Aside0.mk (Below.refl w.heap.size w)
 have H : ((api_Entities.f).bind fun t218 => (entity_Longest.l0 k a0 0 ([] : List Int) t218 (t218.length : Int) 0)) = some (r1, r2) := h
 clear h
 replace H := Option.bind_eq_some_iff.mp H
 obtain ⟨t218, A20, H⟩ := H
 replace H : (entity_Longest.l0 k a0 0 ([] : List Int) t218 (t218.length : Int) 0) = some (r1, r2) := H
 have A2 := Aside0.mk A20
 clear A20
 have H' := Aside0.mk H
 clear H
 go_enter Tryd.func58, Tryd.ntmps58
 go_wp2_with (first | ((with_reducible refine gate_callee (f := 49) rfl ?_); refine goesL_ (some 9) rfl rfl Tryd.func49 (by kernel_rfl) rfl #[] rfl (by (try simp only [List.map_toArray, List.map_cons, List.map_nil]); first | done | rfl | (simp only [List.length_drop, List.length_take]; rfl) | (simp [*] <;> rfl)) ?_; (with_reducible refine (api_Entities.calls  t218 _ A2.out).mono ?_); rintro e w3 ⟨v219, rfl, ho0, hb⟩; refine ⟨_, rfl, ?_⟩; have n0_ := Aside0.mk (Kd.R_lower ho0 (below_size (by repeat (first | (with_reducible first | exact HB.out | apply below_alloc | apply pw_below_drewN | apply below_drew1) | exact HB.out)))); have n1_ := Aside0.mk (below_step (by repeat (first | (with_reducible first | exact HB.out | apply below_alloc | apply pw_below_drewN | apply below_drew1) | exact HB.out)) hb); clear HB; have HO220 := n0_; have HB := n1_; clear n0_ n1_; (try clear hb); (try clear hb2); (try clear hk); (try clear hi); (try clear ho0); obtain ⟨Ao4, co4, eo4⟩ := Kd.R_slice HO220.out; subst eo4))
 go_loopg [4, 5, 11] k (fun kq v4 v5 v11 w' => ∃ (x4_1 : Int) (x5_1 : List Int) (x11_1 : Int), v4 = .int .i64 x4_1 ∧ v11 = .int .i64 x11_1 ∧ Aside0 (entity_Longest.l0 kq a0 x4_1 x5_1 t218 (t218.length : Int) x11_1 = some (r1, r2)) ∧ Aside0 (kq ≤ k) ∧ Aside0 (Kd.R (Kd.int .i32) 21 w' w.heap.size (fun _ => True) v5 x5_1) ∧ Aside0 (Kd.R k75 75 w' w.heap.size (fun _ => True) (.slice Ao4 t218.length co4) t218) ∧ Aside0 (Below w.heap.size w w'))
 case atStart => exact ⟨(0), (([] : List Int)), (0), (by first | rfl | (simp; done) | (simp [*]; done) | (unfold bt; split <;> first | rfl | (exfalso; simp_all; done) | (exfalso; simp_all; omega))), (by first | rfl | (simp; done) | (simp [*]; done) | (unfold bt; split <;> first | rfl | (exfalso; simp_all; done) | (exfalso; simp_all; omega))), H', ⟨Nat.le_refl _⟩, ⟨by first | exact Kd.R_nil _ _ _ _ _ | exact Kd.N_nil _ _ _ _ _ | exact Kd.V_nil _ _ _ _ _ | exact Kd.Q_nil _ _ _ _ _ | exact Kd.S_nil _ _ _ _ _⟩, ⟨by (with_reducible repeat (first | apply Kd.R_alloc | apply Kd.R_drewN | apply Kd.R_drew)); exact HO220.out⟩, ⟨by repeat (first | (with_reducible first | exact HB.out | apply below_alloc | apply pw_below_drewN | apply below_drew1) | exact HB.out)⟩⟩
 case round =>
  clear H'
  try clear p2
  try clear c4
  obtain ⟨x4_1, x5_1, x11_1, rfl, rfl, HA, HK1, HO_5, HO_9, HB⟩ := hrel
  cases gk with
  | zero => exact absurd HA.out (by simp [entity_Longest.l0])
  | succ k1 =>
   have H := HA.out
   clear HA
   simp only [entity_Longest.l0] at H
   by_cases c5 : x11_1 < (t218.length : Int)
   ·rw [if_pos c5] at H
    have c5b0 : decide (x11_1 < (t218.length : Int)) = true := decide_eq_true c5
    clear c5
    by_cases c6 : 0 ≤ x11_1
    ·rw [if_pos c6] at H
     have c6b0 : decide (0 ≤ x11_1) = true := decide_eq_true c6
     clear c6
     by_cases c7 : x11_1 < (t218.length : Int)
     ·rw [if_pos c7] at H
      have c7b0 : decide (x11_1 < (t218.length : Int)) = true := decide_eq_true c7
      clear c7
      replace H := Option.bind_eq_some_iff.mp H
      obtain ⟨t223, A80, H⟩ := H
      replace H : (if t223 = true then (if (((rd_T75 t218 x11_1).f0).size : Int) < (a0.size : Int) then (if 0 ≤ (((rd_T75 t218 x11_1).f0).size : Int) then (entity_Longest.j1 k1 a0 x4_1 x5_1 (((rd_T75 t218 x11_1).f0).size : Int) t218 (t218.length : Int) x11_1 ((bt a0 (((rd_T75 t218 x11_1).f0).size : Int)) == 59) ((rd_T75 t218 x11_1).f0) ((rd_T75 t218 x11_1).f1) ((rd_T75 t218 x11_1).f2) ((rd_T75 t218 x11_1).f3)) else (none)) else (entity_Longest.j1 k1 a0 x4_1 x5_1 (((rd_T75 t218 x11_1).f0).size : Int) t218 (t218.length : Int) x11_1 false ((rd_T75 t218 x11_1).f0) ((rd_T75 t218 x11_1).f1) ((rd_T75 t218 x11_1).f2) ((rd_T75 t218 x11_1).f3))) else (entity_Longest.l0 k1 a0 x4_1 x5_1 t218 (t218.length : Int) (wrap64 (x11_1 + 1)))) = some (r1, r2) := H
      have A8 := Aside0.mk A80
      clear A80
      by_cases c9 : t223 = true
      ·subst c9
       have H1 : (if (((rd_T75 t218 x11_1).f0).size : Int) < (a0.size : Int) then (if 0 ≤ (((rd_T75 t218 x11_1).f0).size : Int) then (entity_Longest.j1 k1 a0 x4_1 x5_1 (((rd_T75 t218 x11_1).f0).size : Int) t218 (t218.length : Int) x11_1 ((bt a0 (((rd_T75 t218 x11_1).f0).size : Int)) == 59) ((rd_T75 t218 x11_1).f0) ((rd_T75 t218 x11_1).f1) ((rd_T75 t218 x11_1).f2) ((rd_T75 t218 x11_1).f3)) else (none)) else (entity_Longest.j1 k1 a0 x4_1 x5_1 (((rd_T75 t218 x11_1).f0).size : Int) t218 (t218.length : Int) x11_1 false ((rd_T75 t218 x11_1).f0) ((rd_T75 t218 x11_1).f1) ((rd_T75 t218 x11_1).f2) ((rd_T75 t218 x11_1).f3))) = some (r1, r2) := by rw [if_pos rfl] at H; exact H
       clear H
       have H := H1
       clear H1
       have HC10 := Aside0.mk H
       clear H
       have p221 : 0 ≤ (x11_1 : Int) := of_decide_eq_true (by first | (with_reducible assumption) | assumption)
       have q221 : x11_1 < (t218.length : Int) := of_decide_eq_true (by first | (with_reducible assumption) | assumption)
       obtain ⟨ad221, e221, hx221_0, hx221_1, hx221_2, hx221_3⟩ := at_T75 (Kd.R_reads' HO_9.out).2.2 x11_1 p221 q221
       cases e221
       replace p221 := eq_true p221
       replace q221 := eq_true q221
       go_upto_region 8 with (first | ((with_reducible refine gate_dst (N := 7) rfl ?_); refine box_event ?hg (N := 7) ?hd (cs := #[.string (⟨#[]⟩ : ByteArray), .int .i32 0, .int .i32 0, .bool false]) (t := 75) ?hr ?_; (case hd => rfl); (case hg => rfl); (case hr => first | (go_simp; done) | (go_simp; rfl)); intro gb222 hg w11 hbox hb; have n0_ := Aside0.mk (Kd.R_below (by (with_reducible repeat (first | apply Kd.R_alloc | apply Kd.R_drewN | apply Kd.R_drew)); exact HO_5.out) hb); have n1_ := Aside0.mk (Kd.R_below (Kd.R_elderB (by (with_reducible repeat (first | apply Kd.R_alloc | apply Kd.R_drewN | apply Kd.R_drew)); exact HO_9.out) gb222 (Nat.le_of_eq hg.symm)) hb); have n2_ := Aside0.mk (below_step (by repeat (first | (with_reducible first | exact HB.out | apply below_alloc | apply pw_below_drewN | apply below_drew1) | exact HB.out)) hb); have n3_ := Aside0.mk (hbox); have n4_ := Aside0.mk ((by rw [hg]; exact (below_size (by repeat (first | (with_reducible first | exact HB.out | apply below_alloc | apply pw_below_drewN | apply below_drew1) | exact HB.out))) : w.heap.size ≤ gb222)); have n5_ := Aside0.mk ((by rw [hg]; exact (below_size (by repeat (first | (with_reducible first | exact HB.out | apply below_alloc | apply pw_below_drewN | apply below_drew1) | exact HB.out))) : w.heap.size ≤ gb222)); clear HO_5; clear HO_9; clear HB; have HO_5 := n0_; have HO_9 := n1_; have HB := n2_; have BK222 := n3_; have GW222 := n4_; have GE222 := n5_; clear n0_ n1_ n2_ n3_ n4_ n5_; clear hb hbox hg; have hcz12_0 : w11.cell? ⟨gb222, 0, none⟩ = some (.string (⟨#[]⟩ : ByteArray)) := (blk_cell BK222.out 0).trans rfl; have hcz12_1 : w11.cell? ⟨gb222, 1, none⟩ = some (.int .i32 0) := (blk_cell BK222.out 1).trans rfl; have hcz12_2 : w11.cell? ⟨gb222, 2, none⟩ = some (.int .i32 0) := (blk_cell BK222.out 2).trans rfl; have hcz12_3 : w11.cell? ⟨gb222, 3, none⟩ = some (.bool false) := (blk_cell BK222.out 3).trans rfl; have hfz12_0 := blk_frozen BK222.out 0; have hfz12_1 := blk_frozen BK222.out 1; have hfz12_2 := blk_frozen BK222.out 2; have hfz12_3 := blk_frozen BK222.out 3) | ((with_reducible refine gate_callee (f := 75) rfl ?_); refine goesL_ (some 18) rfl rfl Tryd.func75 (by kernel_rfl) rfl #[.string a0, .string ((rd_T75 t218 x11_1).f0)] rfl (by (try simp only [List.map_toArray, List.map_cons, List.map_nil]); first | done | rfl | (simp only [List.length_drop, List.length_take]; rfl) | (simp [*] <;> rfl)) ?_; (with_reducible refine (strings_HasPrefix.calls a0 ((rd_T75 t218 x11_1).f0) true _ A8.out).mono ?_); rintro e w' ⟨rfl, ⟨nd, rfl⟩⟩; refine ⟨_, rfl, ?_⟩))
       (try simp only [Act.put, List.setIfInBounds_toArray, List.set_cons_zero, List.set_cons_succ])
       go_cut [32] (fun v32 wc => ∃ (kq : Nat) (x32_9 : Bool), v32 = .bool x32_9 ∧ Aside0 (entity_Longest.j1 kq a0 x4_1 x5_1 (((rd_T75 t218 x11_1).f0).size : Int) t218 (t218.length : Int) x11_1 x32_9 ((rd_T75 t218 x11_1).f0) ((rd_T75 t218 x11_1).f1) ((rd_T75 t218 x11_1).f2) ((rd_T75 t218 x11_1).f3) = some (r1, r2)) ∧ Aside0 (kq ≤ k1) ∧ Aside0 (Kd.R (Kd.int .i32) 21 wc w.heap.size (fun _ => True) u5 x5_1) ∧ Aside0 (Kd.R k75 75 wc w.heap.size (fun k_ => k_ ≠ gb222) (.slice (some ad221) t218.length co4) t218) ∧ Aside0 (wc.heap[gb222]? = some (.cells #[.string ((rd_T75 t218 x11_1).f0), .int .i32 ((rd_T75 t218 x11_1).f1), .int .i32 ((rd_T75 t218 x11_1).f2), .bool ((rd_T75 t218 x11_1).f3)] 75 (0, 0))) ∧ Aside0 (Below w.heap.size w wc))
       case first =>
        have H := HC10.out
        clear HC10
        by_cases c13 : (((rd_T75 t218 x11_1).f0).size : Int) < (a0.size : Int)
        ·rw [if_pos c13] at H
         have c13b0 : decide ((((rd_T75 t218 x11_1).f0).size : Int) < (a0.size : Int)) = true := decide_eq_true c13
         have c13b1 : decide (((rd_T75 t218 x11_1).f0).size < a0.size) = true := decide_eq_true (Int.ofNat_lt.mp c13)
         clear c13
         (first | rw [c13b0] | (simp only [i64_w, i32_w]; rw [c13b0]) | skip)
         by_cases c14 : 0 ≤ (((rd_T75 t218 x11_1).f0).size : Int)
         ·rw [if_pos c14] at H
          have c14b0 : decide (0 ≤ (((rd_T75 t218 x11_1).f0).size : Int)) = true := decide_eq_true c14
          have c14b1 : decide (0 ≤ ((rd_T75 t218 x11_1).f0).size) = true := decide_eq_true (by omega)
          clear c14
          have H' := Aside0.mk H
          clear H
          have p15 : 0 ≤ ((((rd_T75 t218 x11_1).f0).size : Int) : Int) := of_decide_eq_true (by first | (with_reducible assumption) | assumption)
          have q15 : (((rd_T75 t218 x11_1).f0).size : Int) < (a0.size : Int) := of_decide_eq_true (by first | (with_reducible assumption) | assumption)
          have hx15 := bt_at a0 (((rd_T75 t218 x11_1).f0).size : Int)
          have hx15z : ∀ h : ((rd_T75 t218 x11_1).f0).size < a0.size, ((a0[((rd_T75 t218 x11_1).f0).size]'h).toNat : Int) = bt a0 (((rd_T75 t218 x11_1).f0).size : Int) := bt_at a0 (((rd_T75 t218 x11_1).f0).size : Int)
          replace p15 := eq_true p15
          replace q15 := eq_true q15
          go_wp2
          go_meet
          case rel => exact ⟨_, (((bt a0 (((rd_T75 t218 x11_1).f0).size : Int)) == 59)), (by first | rfl | (simp; done) | (simp [*]; done) | (unfold bt; split <;> first | rfl | (exfalso; simp_all; done) | (exfalso; simp_all; omega))), H', ⟨by have := HK1.out; first | omega | exact Nat.le_refl _⟩, ⟨by (with_reducible repeat (first | apply Kd.R_alloc | apply Kd.R_drewN | apply Kd.R_drew)); exact Kd.R_mono (Kd.R_far (p := ⟨gb222, 3, none⟩) (Kd.R_far (p := ⟨gb222, 2, none⟩) (Kd.R_far (p := ⟨gb222, 1, none⟩) (Kd.R_far (p := ⟨gb222, 0, none⟩) (Kd.R_types HO_5.out BK222.out (by decide)) (fun _ hk => hk.2) (.string ((rd_T75 t218 x11_1).f0))) (fun _ hk => hk.2) (.int .i32 ((rd_T75 t218 x11_1).f1))) (fun _ hk => hk.2) (.int .i32 ((rd_T75 t218 x11_1).f2))) (fun _ hk => hk.2) (.bool ((rd_T75 t218 x11_1).f3))) (fun _ hk => trivial)⟩, ⟨by (with_reducible repeat (first | apply Kd.R_alloc | apply Kd.R_drewN | apply Kd.R_drew)); exact Kd.R_mono (Kd.R_far (p := ⟨gb222, 3, none⟩) (Kd.R_far (p := ⟨gb222, 2, none⟩) (Kd.R_far (p := ⟨gb222, 1, none⟩) (Kd.R_far (p := ⟨gb222, 0, none⟩) (Kd.R_mono HO_9.out (fun k_ hk => (⟨hk, hk.2⟩ : _ ∧ k_ ≠ gb222))) (fun _ hk => hk.2) (.string ((rd_T75 t218 x11_1).f0))) (fun _ hk => hk.2) (.int .i32 ((rd_T75 t218 x11_1).f1))) (fun _ hk => hk.2) (.int .i32 ((rd_T75 t218 x11_1).f2))) (fun _ hk => hk.2) (.bool ((rd_T75 t218 x11_1).f3))) (fun _ hk => hk.1.2)⟩, ⟨by (with_reducible repeat (first | refine blk_drewN ?_ _ | refine blk_drew ?_ | refine blk_alloc ?_ _)); refine blk_put (cs := #[.string ((rd_T75 t218 x11_1).f0), .int .i32 ((rd_T75 t218 x11_1).f1), .int .i32 ((rd_T75 t218 x11_1).f2), .bool false]) ?_ 3 _ rfl; (with_reducible repeat (first | refine blk_drewN ?_ _ | refine blk_drew ?_ | refine blk_alloc ?_ _)); refine blk_put (cs := #[.string ((rd_T75 t218 x11_1).f0), .int .i32 ((rd_T75 t218 x11_1).f1), .int .i32 0, .bool false]) ?_ 2 _ rfl; (with_reducible repeat (first | refine blk_drewN ?_ _ | refine blk_drew ?_ | refine blk_alloc ?_ _)); refine blk_put (cs := #[.string ((rd_T75 t218 x11_1).f0), .int .i32 0, .int .i32 0, .bool false]) ?_ 1 _ rfl; (with_reducible repeat (first | refine blk_drewN ?_ _ | refine blk_drew ?_ | refine blk_alloc ?_ _)); refine blk_put (cs := #[.string (⟨#[]⟩ : ByteArray), .int .i32 0, .int .i32 0, .bool false]) ?_ 0 _ rfl; (with_reducible repeat (first | refine blk_drewN ?_ _ | refine blk_drew ?_ | refine blk_alloc ?_ _)); exact BK222.out⟩, ⟨by repeat (first | (with_reducible first | exact HB.out | apply below_alloc | apply pw_below_drewN | apply below_drew1 | refine below_set ?_ GE222.out) | exact HB.out)⟩⟩
         ·rw [if_neg c14] at H
          exact absurd H (by simp)
        ·rw [if_neg c13] at H
         have c13b0 : decide ((((rd_T75 t218 x11_1).f0).size : Int) < (a0.size : Int)) = false := decide_eq_false c13
         have c13b1 : decide (((rd_T75 t218 x11_1).f0).size < a0.size) = false := decide_eq_false (fun h => c13 (Int.ofNat_lt.mpr h))
         clear c13
         (first | rw [c13b0] | (simp only [i64_w, i32_w]; rw [c13b0]) | skip)
         have H' := Aside0.mk H
         clear H
         go_wp2
         go_meet
         case rel => exact ⟨_, (false), (by first | rfl | (simp; done) | (simp [*]; done) | (unfold bt; split <;> first | rfl | (exfalso; simp_all; done) | (exfalso; simp_all; omega))), H', ⟨by have := HK1.out; first | omega | exact Nat.le_refl _⟩, ⟨by (with_reducible repeat (first | apply Kd.R_alloc | apply Kd.R_drewN | apply Kd.R_drew)); exact Kd.R_mono (Kd.R_far (p := ⟨gb222, 3, none⟩) (Kd.R_far (p := ⟨gb222, 2, none⟩) (Kd.R_far (p := ⟨gb222, 1, none⟩) (Kd.R_far (p := ⟨gb222, 0, none⟩) (Kd.R_types HO_5.out BK222.out (by decide)) (fun _ hk => hk.2) (.string ((rd_T75 t218 x11_1).f0))) (fun _ hk => hk.2) (.int .i32 ((rd_T75 t218 x11_1).f1))) (fun _ hk => hk.2) (.int .i32 ((rd_T75 t218 x11_1).f2))) (fun _ hk => hk.2) (.bool ((rd_T75 t218 x11_1).f3))) (fun _ hk => trivial)⟩, ⟨by (with_reducible repeat (first | apply Kd.R_alloc | apply Kd.R_drewN | apply Kd.R_drew)); exact Kd.R_mono (Kd.R_far (p := ⟨gb222, 3, none⟩) (Kd.R_far (p := ⟨gb222, 2, none⟩) (Kd.R_far (p := ⟨gb222, 1, none⟩) (Kd.R_far (p := ⟨gb222, 0, none⟩) (Kd.R_mono HO_9.out (fun k_ hk => (⟨hk, hk.2⟩ : _ ∧ k_ ≠ gb222))) (fun _ hk => hk.2) (.string ((rd_T75 t218 x11_1).f0))) (fun _ hk => hk.2) (.int .i32 ((rd_T75 t218 x11_1).f1))) (fun _ hk => hk.2) (.int .i32 ((rd_T75 t218 x11_1).f2))) (fun _ hk => hk.2) (.bool ((rd_T75 t218 x11_1).f3))) (fun _ hk => hk.1.2)⟩, ⟨by (with_reducible repeat (first | refine blk_drewN ?_ _ | refine blk_drew ?_ | refine blk_alloc ?_ _)); refine blk_put (cs := #[.string ((rd_T75 t218 x11_1).f0), .int .i32 ((rd_T75 t218 x11_1).f1), .int .i32 ((rd_T75 t218 x11_1).f2), .bool false]) ?_ 3 _ rfl; (with_reducible repeat (first | refine blk_drewN ?_ _ | refine blk_drew ?_ | refine blk_alloc ?_ _)); refine blk_put (cs := #[.string ((rd_T75 t218 x11_1).f0), .int .i32 ((rd_T75 t218 x11_1).f1), .int .i32 0, .bool false]) ?_ 2 _ rfl; (with_reducible repeat (first | refine blk_drewN ?_ _ | refine blk_drew ?_ | refine blk_alloc ?_ _)); refine blk_put (cs := #[.string ((rd_T75 t218 x11_1).f0), .int .i32 0, .int .i32 0, .bool false]) ?_ 1 _ rfl; (with_reducible repeat (first | refine blk_drewN ?_ _ | refine blk_drew ?_ | refine blk_alloc ?_ _)); refine blk_put (cs := #[.string (⟨#[]⟩ : ByteArray), .int .i32 0, .int .i32 0, .bool false]) ?_ 0 _ rfl; (with_reducible repeat (first | refine blk_drewN ?_ _ | refine blk_drew ?_ | refine blk_alloc ?_ _)); exact BK222.out⟩, ⟨by repeat (first | (with_reducible first | exact HB.out | apply below_alloc | apply pw_below_drewN | apply below_drew1 | refine below_set ?_ GE222.out) | exact HB.out)⟩⟩
       case rest =>
        clear HC10
        try clear c1
        try clear p1
        try clear q1
        try clear hx1
        try clear p2
        try clear q2
        try clear hx2
        try clear c4
        try clear c5
        try clear c5b0
        try clear c6
        try clear c6b0
        try clear p6
        try clear c7
        try clear c7b0
        try clear c9
        try clear c13
        try clear c13b0
        try clear c13b1
        try clear c14
        try clear c14b0
        try clear c14b1
        try clear p15
        try clear q15
        try clear hx15
        try clear hcz12_0
        try clear hcz12_1
        try clear hcz12_2
        try clear hcz12_3
        try clear hfz12_0
        try clear hfz12_1
        try clear hfz12_2
        try clear hfz12_3
        try clear hx221_0
        try clear hx221_1
        try clear hx221_2
        try clear hx221_3
        try clear p15
        try clear p2
        try clear p221
        try clear q15
        try clear q221
        obtain ⟨kq, x32_9, rfl, HA, HJ9, HO_5, HO_9, BK222, HB⟩ := hcut
        cases kq with
        | zero => exact absurd HA.out (by simp [entity_Longest.j1])
        | succ kj9 =>
         have H := HA.out
         clear HA
         simp only [entity_Longest.j1] at H
         by_cases c16 : x32_9 = true
         ·subst c16
          have H1 : (if (wrap64 ((((rd_T75 t218 x11_1).f0).size : Int) + 1)) > x4_1 then ((entity_says.f ((rd_T75 t218 x11_1).f0) ((rd_T75 t218 x11_1).f1) ((rd_T75 t218 x11_1).f2) ((rd_T75 t218 x11_1).f3)).bind fun t224 => (entity_Longest.l0 kj9 a0 (wrap64 ((((rd_T75 t218 x11_1).f0).size : Int) + 1)) t224 t218 (t218.length : Int) (wrap64 (x11_1 + 1)))) else (entity_Longest.l0 kj9 a0 x4_1 x5_1 t218 (t218.length : Int) (wrap64 (x11_1 + 1)))) = some (r1, r2) := by rw [if_pos rfl] at H; exact H
          clear H
          have H := H1
          clear H1
          by_cases c17 : (wrap64 ((((rd_T75 t218 x11_1).f0).size : Int) + 1)) > x4_1
          ·rw [if_pos c17] at H
           have c17b0 : decide (x4_1 < (wrap64 ((((rd_T75 t218 x11_1).f0).size : Int) + 1))) = true := decide_eq_true c17
           clear c17
           replace H := Option.bind_eq_some_iff.mp H
           obtain ⟨t224, A180, H⟩ := H
           replace H : (entity_Longest.l0 kj9 a0 (wrap64 ((((rd_T75 t218 x11_1).f0).size : Int) + 1)) t224 t218 (t218.length : Int) (wrap64 (x11_1 + 1))) = some (r1, r2) := H
           have A18 := Aside0.mk A180
           clear A180
           have H' := Aside0.mk H
           clear H
           have hcz19_0 : wc.cell? ⟨gb222, 0, none⟩ = some (.string ((rd_T75 t218 x11_1).f0)) := (blk_cell BK222.out 0).trans rfl
           have hcz19_1 : wc.cell? ⟨gb222, 1, none⟩ = some (.int .i32 ((rd_T75 t218 x11_1).f1)) := (blk_cell BK222.out 1).trans rfl
           have hcz19_2 : wc.cell? ⟨gb222, 2, none⟩ = some (.int .i32 ((rd_T75 t218 x11_1).f2)) := (blk_cell BK222.out 2).trans rfl
           have hcz19_3 : wc.cell? ⟨gb222, 3, none⟩ = some (.bool ((rd_T75 t218 x11_1).f3)) := (blk_cell BK222.out 3).trans rfl
           have hfz19_0 := blk_frozen BK222.out 0
           have hfz19_1 := blk_frozen BK222.out 1
           have hfz19_2 := blk_frozen BK222.out 2
           have hfz19_3 := blk_frozen BK222.out 3
           go_wp2_with (first | ((with_reducible refine gate_callee (f := 51) rfl ?_); refine goesL_ (some 43) rfl rfl Tryd.func51 (by kernel_rfl) rfl #[.agg #[.string ((rd_T75 t218 x11_1).f0), .int .i32 ((rd_T75 t218 x11_1).f1), .int .i32 ((rd_T75 t218 x11_1).f2), .bool ((rd_T75 t218 x11_1).f3)]] rfl (by (try simp only [List.map_toArray, List.map_cons, List.map_nil]); first | done | rfl | (simp only [List.length_drop, List.length_take]; rfl) | (simp [*] <;> rfl)) ?_; (with_reducible refine (entity_says.calls ((rd_T75 t218 x11_1).f0) ((rd_T75 t218 x11_1).f1) ((rd_T75 t218 x11_1).f2) ((rd_T75 t218 x11_1).f3) t224 _ A18.out).mono ?_); rintro e w20 ⟨v225, rfl, ho0, hb⟩; refine ⟨_, rfl, ?_⟩; have n0_ := Aside0.mk (Kd.R_elder' (by (with_reducible repeat (first | apply Kd.R_alloc | apply Kd.R_drewN | apply Kd.R_drew)); exact HO_5.out) (Kd.R_base ho0) hb); have n1_ := Aside0.mk (Kd.R_below (by (with_reducible repeat (first | apply Kd.R_alloc | apply Kd.R_drewN | apply Kd.R_drew)); exact HO_9.out) hb); have n2_ := Aside0.mk (Kd.R_lower (Kd.R_new' ho0 (Kd.R_lt (by (with_reducible repeat (first | apply Kd.R_alloc | apply Kd.R_drewN | apply Kd.R_drew)); exact HO_5.out))) (below_size (by repeat (first | (with_reducible first | exact HB.out | apply below_alloc | apply pw_below_drewN | apply below_drew1 | refine below_set ?_ GE222.out) | exact HB.out)))); have n3_ := Aside0.mk (blk_below (g := gb222) (o := .cells #[.string ((rd_T75 t218 x11_1).f0), .int .i32 ((rd_T75 t218 x11_1).f1), .int .i32 ((rd_T75 t218 x11_1).f2), .bool ((rd_T75 t218 x11_1).f3)] 75 (0, 0)) (by (with_reducible repeat (first | refine blk_drewN ?_ _ | refine blk_drew ?_ | refine blk_alloc ?_ _)); exact BK222.out) hb); have n4_ := Aside0.mk (below_step (by repeat (first | (with_reducible first | exact HB.out | apply below_alloc | apply pw_below_drewN | apply below_drew1 | refine below_set ?_ GE222.out) | exact HB.out)) hb); clear HO_5; clear HO_9; clear BK222; clear HB; have HO_5 := n0_; have HO_9 := n1_; have HO226 := n2_; have BK222 := n3_; have HB := n4_; clear n0_ n1_ n2_ n3_ n4_; (try clear hb); (try clear hb2); (try clear hk); (try clear hi); (try clear ho0)))
           go_roundg kj9
           case measure => have := HK1.out; have := HJ9.out; omega
           case rel => exact ⟨(wrap64 ((((rd_T75 t218 x11_1).f0).size : Int) + 1)), (t224), (wrap64 (x11_1 + 1)), (by first | rfl | (simp; done) | (simp [*]; done) | (unfold bt; split <;> first | rfl | (exfalso; simp_all; done) | (exfalso; simp_all; omega))), (by first | rfl | (simp; done) | (simp [*]; done) | (unfold bt; split <;> first | rfl | (exfalso; simp_all; done) | (exfalso; simp_all; omega))), H', ⟨by have := HK1.out; have := HJ9.out; omega⟩, ⟨by (with_reducible repeat (first | apply Kd.R_alloc | apply Kd.R_drewN | apply Kd.R_drew)); exact Kd.R_mono HO226.out (fun _ hk => trivial)⟩, ⟨by (with_reducible repeat (first | apply Kd.R_alloc | apply Kd.R_drewN | apply Kd.R_drew)); exact Kd.R_mono HO_9.out (fun _ hk => trivial)⟩, ⟨by repeat (first | (with_reducible first | exact HB.out | apply below_alloc | apply pw_below_drewN | apply below_drew1 | refine below_set ?_ GE222.out) | exact HB.out)⟩⟩
          ·rw [if_neg c17] at H
           have c17b0 : decide (x4_1 < (wrap64 ((((rd_T75 t218 x11_1).f0).size : Int) + 1))) = false := decide_eq_false c17
           clear c17
           have H' := Aside0.mk H
           clear H
           go_wp2
           go_roundg kj9
           case measure => have := HK1.out; have := HJ9.out; omega
           case rel => exact ⟨(x4_1), (x5_1), (wrap64 (x11_1 + 1)), (by first | rfl | (simp; done) | (simp [*]; done) | (unfold bt; split <;> first | rfl | (exfalso; simp_all; done) | (exfalso; simp_all; omega))), (by first | rfl | (simp; done) | (simp [*]; done) | (unfold bt; split <;> first | rfl | (exfalso; simp_all; done) | (exfalso; simp_all; omega))), H', ⟨by have := HK1.out; have := HJ9.out; omega⟩, ⟨by (with_reducible repeat (first | apply Kd.R_alloc | apply Kd.R_drewN | apply Kd.R_drew)); exact HO_5.out⟩, ⟨by (with_reducible repeat (first | apply Kd.R_alloc | apply Kd.R_drewN | apply Kd.R_drew)); exact Kd.R_mono HO_9.out (fun _ hk => trivial)⟩, ⟨by repeat (first | (with_reducible first | exact HB.out | apply below_alloc | apply pw_below_drewN | apply below_drew1 | refine below_set ?_ GE222.out) | exact HB.out)⟩⟩
         ·replace c16 := Bool.eq_false_iff.mpr c16
          subst c16
          have H1 : (if ((rd_T75 t218 x11_1).f3) = true then (if (((rd_T75 t218 x11_1).f0).size : Int) > x4_1 then ((entity_says.f ((rd_T75 t218 x11_1).f0) ((rd_T75 t218 x11_1).f1) ((rd_T75 t218 x11_1).f2) ((rd_T75 t218 x11_1).f3)).bind fun t227 => (entity_Longest.l0 kj9 a0 (((rd_T75 t218 x11_1).f0).size : Int) t227 t218 (t218.length : Int) (wrap64 (x11_1 + 1)))) else (entity_Longest.l0 kj9 a0 x4_1 x5_1 t218 (t218.length : Int) (wrap64 (x11_1 + 1)))) else (entity_Longest.l0 kj9 a0 x4_1 x5_1 t218 (t218.length : Int) (wrap64 (x11_1 + 1)))) = some (r1, r2) := by rw [if_neg (show ¬ (false = true) by decide)] at H; exact H
          clear H
          have H := H1
          clear H1
          by_cases c21 : ((rd_T75 t218 x11_1).f3) = true
          ·rw [if_pos c21] at H
           have c21b0 : ((rd_T75 t218 x11_1).f3) = true := c21
           clear c21
           by_cases c22 : (((rd_T75 t218 x11_1).f0).size : Int) > x4_1
           ·rw [if_pos c22] at H
            have c22b0 : decide (x4_1 < (((rd_T75 t218 x11_1).f0).size : Int)) = true := decide_eq_true c22
            clear c22
            replace H := Option.bind_eq_some_iff.mp H
            obtain ⟨t227, A230, H⟩ := H
            replace H : (entity_Longest.l0 kj9 a0 (((rd_T75 t218 x11_1).f0).size : Int) t227 t218 (t218.length : Int) (wrap64 (x11_1 + 1))) = some (r1, r2) := H
            have A23 := Aside0.mk A230
            clear A230
            have H' := Aside0.mk H
            clear H
            have hcz24_0 : wc.cell? ⟨gb222, 0, none⟩ = some (.string ((rd_T75 t218 x11_1).f0)) := (blk_cell BK222.out 0).trans rfl
            have hcz24_1 : wc.cell? ⟨gb222, 1, none⟩ = some (.int .i32 ((rd_T75 t218 x11_1).f1)) := (blk_cell BK222.out 1).trans rfl
            have hcz24_2 : wc.cell? ⟨gb222, 2, none⟩ = some (.int .i32 ((rd_T75 t218 x11_1).f2)) := (blk_cell BK222.out 2).trans rfl
            have hcz24_3 : wc.cell? ⟨gb222, 3, none⟩ = some (.bool ((rd_T75 t218 x11_1).f3)) := (blk_cell BK222.out 3).trans rfl
            have hfz24_0 := blk_frozen BK222.out 0
            have hfz24_1 := blk_frozen BK222.out 1
            have hfz24_2 := blk_frozen BK222.out 2
            have hfz24_3 := blk_frozen BK222.out 3
            go_wp2_with (first | ((with_reducible refine gate_callee (f := 51) rfl ?_); refine goesL_ (some 43) rfl rfl Tryd.func51 (by kernel_rfl) rfl #[.agg #[.string ((rd_T75 t218 x11_1).f0), .int .i32 ((rd_T75 t218 x11_1).f1), .int .i32 ((rd_T75 t218 x11_1).f2), .bool ((rd_T75 t218 x11_1).f3)]] rfl (by (try simp only [List.map_toArray, List.map_cons, List.map_nil]); first | done | rfl | (simp only [List.length_drop, List.length_take]; rfl) | (simp [*] <;> rfl)) ?_; (with_reducible refine (entity_says.calls ((rd_T75 t218 x11_1).f0) ((rd_T75 t218 x11_1).f1) ((rd_T75 t218 x11_1).f2) ((rd_T75 t218 x11_1).f3) t227 _ A23.out).mono ?_); rintro e w25 ⟨v228, rfl, ho0, hb⟩; refine ⟨_, rfl, ?_⟩; have n0_ := Aside0.mk (Kd.R_elder' (by (with_reducible repeat (first | apply Kd.R_alloc | apply Kd.R_drewN | apply Kd.R_drew)); exact HO_5.out) (Kd.R_base ho0) hb); have n1_ := Aside0.mk (Kd.R_below (by (with_reducible repeat (first | apply Kd.R_alloc | apply Kd.R_drewN | apply Kd.R_drew)); exact HO_9.out) hb); have n2_ := Aside0.mk (Kd.R_lower (Kd.R_new' ho0 (Kd.R_lt (by (with_reducible repeat (first | apply Kd.R_alloc | apply Kd.R_drewN | apply Kd.R_drew)); exact HO_5.out))) (below_size (by repeat (first | (with_reducible first | exact HB.out | apply below_alloc | apply pw_below_drewN | apply below_drew1 | refine below_set ?_ GE222.out) | exact HB.out)))); have n3_ := Aside0.mk (blk_below (g := gb222) (o := .cells #[.string ((rd_T75 t218 x11_1).f0), .int .i32 ((rd_T75 t218 x11_1).f1), .int .i32 ((rd_T75 t218 x11_1).f2), .bool ((rd_T75 t218 x11_1).f3)] 75 (0, 0)) (by (with_reducible repeat (first | refine blk_drewN ?_ _ | refine blk_drew ?_ | refine blk_alloc ?_ _)); exact BK222.out) hb); have n4_ := Aside0.mk (below_step (by repeat (first | (with_reducible first | exact HB.out | apply below_alloc | apply pw_below_drewN | apply below_drew1 | refine below_set ?_ GE222.out) | exact HB.out)) hb); clear HO_5; clear HO_9; clear BK222; clear HB; have HO_5 := n0_; have HO_9 := n1_; have HO229 := n2_; have BK222 := n3_; have HB := n4_; clear n0_ n1_ n2_ n3_ n4_; (try clear hb); (try clear hb2); (try clear hk); (try clear hi); (try clear ho0)))
            go_roundg kj9
            case measure => have := HK1.out; have := HJ9.out; omega
            case rel => exact ⟨((((rd_T75 t218 x11_1).f0).size : Int)), (t227), (wrap64 (x11_1 + 1)), (by first | rfl | (simp; done) | (simp [*]; done) | (unfold bt; split <;> first | rfl | (exfalso; simp_all; done) | (exfalso; simp_all; omega))), (by first | rfl | (simp; done) | (simp [*]; done) | (unfold bt; split <;> first | rfl | (exfalso; simp_all; done) | (exfalso; simp_all; omega))), H', ⟨by have := HK1.out; have := HJ9.out; omega⟩, ⟨by (with_reducible repeat (first | apply Kd.R_alloc | apply Kd.R_drewN | apply Kd.R_drew)); exact Kd.R_mono HO229.out (fun _ hk => trivial)⟩, ⟨by (with_reducible repeat (first | apply Kd.R_alloc | apply Kd.R_drewN | apply Kd.R_drew)); exact Kd.R_mono HO_9.out (fun _ hk => trivial)⟩, ⟨by repeat (first | (with_reducible first | exact HB.out | apply below_alloc | apply pw_below_drewN | apply below_drew1 | refine below_set ?_ GE222.out) | exact HB.out)⟩⟩
           ·rw [if_neg c22] at H
            have c22b0 : decide (x4_1 < (((rd_T75 t218 x11_1).f0).size : Int)) = false := decide_eq_false c22
            clear c22
            have H' := Aside0.mk H
            clear H
            have hcz26_0 : wc.cell? ⟨gb222, 0, none⟩ = some (.string ((rd_T75 t218 x11_1).f0)) := (blk_cell BK222.out 0).trans rfl
            have hcz26_1 : wc.cell? ⟨gb222, 1, none⟩ = some (.int .i32 ((rd_T75 t218 x11_1).f1)) := (blk_cell BK222.out 1).trans rfl
            have hcz26_2 : wc.cell? ⟨gb222, 2, none⟩ = some (.int .i32 ((rd_T75 t218 x11_1).f2)) := (blk_cell BK222.out 2).trans rfl
            have hcz26_3 : wc.cell? ⟨gb222, 3, none⟩ = some (.bool ((rd_T75 t218 x11_1).f3)) := (blk_cell BK222.out 3).trans rfl
            have hfz26_0 := blk_frozen BK222.out 0
            have hfz26_1 := blk_frozen BK222.out 1
            have hfz26_2 := blk_frozen BK222.out 2
            have hfz26_3 := blk_frozen BK222.out 3
            go_wp2
            go_roundg kj9
            case measure => have := HK1.out; have := HJ9.out; omega
            case rel => exact ⟨(x4_1), (x5_1), (wrap64 (x11_1 + 1)), (by first | rfl | (simp; done) | (simp [*]; done) | (unfold bt; split <;> first | rfl | (exfalso; simp_all; done) | (exfalso; simp_all; omega))), (by first | rfl | (simp; done) | (simp [*]; done) | (unfold bt; split <;> first | rfl | (exfalso; simp_all; done) | (exfalso; simp_all; omega))), H', ⟨by have := HK1.out; have := HJ9.out; omega⟩, ⟨by (with_reducible repeat (first | apply Kd.R_alloc | apply Kd.R_drewN | apply Kd.R_drew)); exact HO_5.out⟩, ⟨by (with_reducible repeat (first | apply Kd.R_alloc | apply Kd.R_drewN | apply Kd.R_drew)); exact Kd.R_mono HO_9.out (fun _ hk => trivial)⟩, ⟨by repeat (first | (with_reducible first | exact HB.out | apply below_alloc | apply pw_below_drewN | apply below_drew1 | refine below_set ?_ GE222.out) | exact HB.out)⟩⟩
          ·rw [if_neg c21] at H
           have c21b0 : ((rd_T75 t218 x11_1).f3) = false := by simpa using c21
           clear c21
           have H' := Aside0.mk H
           clear H
           have hcz27_0 : wc.cell? ⟨gb222, 0, none⟩ = some (.string ((rd_T75 t218 x11_1).f0)) := (blk_cell BK222.out 0).trans rfl
           have hcz27_1 : wc.cell? ⟨gb222, 1, none⟩ = some (.int .i32 ((rd_T75 t218 x11_1).f1)) := (blk_cell BK222.out 1).trans rfl
           have hcz27_2 : wc.cell? ⟨gb222, 2, none⟩ = some (.int .i32 ((rd_T75 t218 x11_1).f2)) := (blk_cell BK222.out 2).trans rfl
           have hcz27_3 : wc.cell? ⟨gb222, 3, none⟩ = some (.bool ((rd_T75 t218 x11_1).f3)) := (blk_cell BK222.out 3).trans rfl
           have hfz27_0 := blk_frozen BK222.out 0
           have hfz27_1 := blk_frozen BK222.out 1
           have hfz27_2 := blk_frozen BK222.out 2
           have hfz27_3 := blk_frozen BK222.out 3
           go_wp2
           go_roundg kj9
           case measure => have := HK1.out; have := HJ9.out; omega
           case rel => exact ⟨(x4_1), (x5_1), (wrap64 (x11_1 + 1)), (by first | rfl | (simp; done) | (simp [*]; done) | (unfold bt; split <;> first | rfl | (exfalso; simp_all; done) | (exfalso; simp_all; omega))), (by first | rfl | (simp; done) | (simp [*]; done) | (unfold bt; split <;> first | rfl | (exfalso; simp_all; done) | (exfalso; simp_all; omega))), H', ⟨by have := HK1.out; have := HJ9.out; omega⟩, ⟨by (with_reducible repeat (first | apply Kd.R_alloc | apply Kd.R_drewN | apply Kd.R_drew)); exact HO_5.out⟩, ⟨by (with_reducible repeat (first | apply Kd.R_alloc | apply Kd.R_drewN | apply Kd.R_drew)); exact Kd.R_mono HO_9.out (fun _ hk => trivial)⟩, ⟨by repeat (first | (with_reducible first | exact HB.out | apply below_alloc | apply pw_below_drewN | apply below_drew1 | refine below_set ?_ GE222.out) | exact HB.out)⟩⟩
      ·replace c9 := Bool.eq_false_iff.mpr c9
       subst c9
       have H1 : (entity_Longest.l0 k1 a0 x4_1 x5_1 t218 (t218.length : Int) (wrap64 (x11_1 + 1))) = some (r1, r2) := by rw [if_neg (show ¬ (false = true) by decide)] at H; exact H
       clear H
       have H := H1
       clear H1
       have H' := Aside0.mk H
       clear H
       have p221 : 0 ≤ (x11_1 : Int) := of_decide_eq_true (by first | (with_reducible assumption) | assumption)
       have q221 : x11_1 < (t218.length : Int) := of_decide_eq_true (by first | (with_reducible assumption) | assumption)
       obtain ⟨ad221, e221, hx221_0, hx221_1, hx221_2, hx221_3⟩ := at_T75 (Kd.R_reads' HO_9.out).2.2 x11_1 p221 q221
       cases e221
       replace p221 := eq_true p221
       replace q221 := eq_true q221
       go_wp2_with (first | ((with_reducible refine gate_dst (N := 7) rfl ?_); refine box_event ?hg (N := 7) ?hd (cs := #[.string (⟨#[]⟩ : ByteArray), .int .i32 0, .int .i32 0, .bool false]) (t := 75) ?hr ?_; (case hd => rfl); (case hg => rfl); (case hr => first | (go_simp; done) | (go_simp; rfl)); intro gb222 hg w28 hbox hb; have n0_ := Aside0.mk (Kd.R_below (by (with_reducible repeat (first | apply Kd.R_alloc | apply Kd.R_drewN | apply Kd.R_drew)); exact HO_5.out) hb); have n1_ := Aside0.mk (Kd.R_below (Kd.R_elderB (by (with_reducible repeat (first | apply Kd.R_alloc | apply Kd.R_drewN | apply Kd.R_drew)); exact HO_9.out) gb222 (Nat.le_of_eq hg.symm)) hb); have n2_ := Aside0.mk (below_step (by repeat (first | (with_reducible first | exact HB.out | apply below_alloc | apply pw_below_drewN | apply below_drew1) | exact HB.out)) hb); have n3_ := Aside0.mk (hbox); have n4_ := Aside0.mk ((by rw [hg]; exact (below_size (by repeat (first | (with_reducible first | exact HB.out | apply below_alloc | apply pw_below_drewN | apply below_drew1) | exact HB.out))) : w.heap.size ≤ gb222)); have n5_ := Aside0.mk ((by rw [hg]; exact (below_size (by repeat (first | (with_reducible first | exact HB.out | apply below_alloc | apply pw_below_drewN | apply below_drew1) | exact HB.out))) : w.heap.size ≤ gb222)); clear HO_5; clear HO_9; clear HB; have HO_5 := n0_; have HO_9 := n1_; have HB := n2_; have BK222 := n3_; have GW222 := n4_; have GE222 := n5_; clear n0_ n1_ n2_ n3_ n4_ n5_; clear hb hbox hg; have hcz29_0 : w28.cell? ⟨gb222, 0, none⟩ = some (.string (⟨#[]⟩ : ByteArray)) := (blk_cell BK222.out 0).trans rfl; have hcz29_1 : w28.cell? ⟨gb222, 1, none⟩ = some (.int .i32 0) := (blk_cell BK222.out 1).trans rfl; have hcz29_2 : w28.cell? ⟨gb222, 2, none⟩ = some (.int .i32 0) := (blk_cell BK222.out 2).trans rfl; have hcz29_3 : w28.cell? ⟨gb222, 3, none⟩ = some (.bool false) := (blk_cell BK222.out 3).trans rfl; have hfz29_0 := blk_frozen BK222.out 0; have hfz29_1 := blk_frozen BK222.out 1; have hfz29_2 := blk_frozen BK222.out 2; have hfz29_3 := blk_frozen BK222.out 3) | ((with_reducible refine gate_callee (f := 75) rfl ?_); refine goesL_ (some 18) rfl rfl Tryd.func75 (by kernel_rfl) rfl #[.string a0, .string ((rd_T75 t218 x11_1).f0)] rfl (by (try simp only [List.map_toArray, List.map_cons, List.map_nil]); first | done | rfl | (simp only [List.length_drop, List.length_take]; rfl) | (simp [*] <;> rfl)) ?_; (with_reducible refine (strings_HasPrefix.calls a0 ((rd_T75 t218 x11_1).f0) false _ A8.out).mono ?_); rintro e w' ⟨rfl, ⟨nd, rfl⟩⟩; refine ⟨_, rfl, ?_⟩))
       go_roundg k1
       case measure => have := HK1.out; omega
       case rel => exact ⟨(x4_1), (x5_1), (wrap64 (x11_1 + 1)), (by first | rfl | (simp; done) | (simp [*]; done) | (unfold bt; split <;> first | rfl | (exfalso; simp_all; done) | (exfalso; simp_all; omega))), (by first | rfl | (simp; done) | (simp [*]; done) | (unfold bt; split <;> first | rfl | (exfalso; simp_all; done) | (exfalso; simp_all; omega))), H', ⟨by have := HK1.out; omega⟩, ⟨by (with_reducible repeat (first | apply Kd.R_alloc | apply Kd.R_drewN | apply Kd.R_drew)); exact Kd.R_mono (Kd.R_far (p := ⟨gb222, 3, none⟩) (Kd.R_far (p := ⟨gb222, 2, none⟩) (Kd.R_far (p := ⟨gb222, 1, none⟩) (Kd.R_far (p := ⟨gb222, 0, none⟩) (Kd.R_types HO_5.out BK222.out (by decide)) (fun _ hk => hk.2) (.string ((rd_T75 t218 x11_1).f0))) (fun _ hk => hk.2) (.int .i32 ((rd_T75 t218 x11_1).f1))) (fun _ hk => hk.2) (.int .i32 ((rd_T75 t218 x11_1).f2))) (fun _ hk => hk.2) (.bool ((rd_T75 t218 x11_1).f3))) (fun _ hk => trivial)⟩, ⟨by (with_reducible repeat (first | apply Kd.R_alloc | apply Kd.R_drewN | apply Kd.R_drew)); exact Kd.R_mono (Kd.R_far (p := ⟨gb222, 3, none⟩) (Kd.R_far (p := ⟨gb222, 2, none⟩) (Kd.R_far (p := ⟨gb222, 1, none⟩) (Kd.R_far (p := ⟨gb222, 0, none⟩) (Kd.R_mono HO_9.out (fun k_ hk => (⟨hk, hk.2⟩ : _ ∧ k_ ≠ gb222))) (fun _ hk => hk.2) (.string ((rd_T75 t218 x11_1).f0))) (fun _ hk => hk.2) (.int .i32 ((rd_T75 t218 x11_1).f1))) (fun _ hk => hk.2) (.int .i32 ((rd_T75 t218 x11_1).f2))) (fun _ hk => hk.2) (.bool ((rd_T75 t218 x11_1).f3))) (fun _ hk => trivial)⟩, ⟨by repeat (first | (with_reducible first | exact HB.out | apply below_alloc | apply pw_below_drewN | apply below_drew1 | refine below_set ?_ GE222.out) | exact HB.out)⟩⟩
     ·rw [if_neg c7] at H
      exact absurd H (by simp)
    ·rw [if_neg c6] at H
     exact absurd H (by simp)
   ·rw [if_neg c5] at H
    have c5b0 : decide (x11_1 < (t218.length : Int)) = false := decide_eq_false c5
    clear c5
    simp only [Option.some.injEq, Prod.mk.injEq] at H
    obtain ⟨rfl, rfl⟩ := H
    go_wp2
    go_ret2
    exact ⟨_, by first | rfl | (simp [errW_none, errW_some] <;> rfl) | (simp [*, errW_none, errW_some] <;> rfl), by (with_reducible repeat (first | apply Kd.R_alloc | apply Kd.R_drewN | apply Kd.R_drew)); exact HO_5.out, by repeat (first | (with_reducible first | exact HB.out | apply below_alloc | apply pw_below_drewN | apply below_drew1) | exact HB.out)⟩

/-! ### charref_named: function 41 -/
mutual
def charref_named.j0 : Nat → ByteArray → Bool → Bool → Bool → Option (ByteArray × Int × Bool)
 | 0, _, _, _, _ => none
 | k + 1, x0, x1, x2, x14 => if x14 = true then (some ((⟨#[]⟩ : ByteArray), 0, false)) else ((entity_Longest.f k x0).bind fun bt232 => (if bt232.1 = 0 then (some ((⟨#[]⟩ : ByteArray), 0, true)) else (if x1 = true then (if 0 ≤ (wrap64 (bt232.1 - 1)) then (if (wrap64 (bt232.1 - 1)) < (x0.size : Int) then (charref_named.j1 k x0 x2 bt232.1 bt232.2 ((bt x0 (wrap64 (bt232.1 - 1))) != 59)) else (none)) else (none)) else (charref_named.j1 k x0 x2 bt232.1 bt232.2 false))))
def charref_named.j1 : Nat → ByteArray → Bool → Int → List Int → Bool → Option (ByteArray × Int × Bool)
 | 0, _, _, _, _, _ => none
 | k + 1, x0, x2, x7, x8, x31 => if x31 = true then (if x7 = (x0.size : Int) then (if x2 = true then (some (Hc_text x8, x7, true)) else (some ((⟨#[]⟩ : ByteArray), 0, false))) else (if 0 ≤ x7 then (if x7 < (x0.size : Int) then ((charref_word.f (bt x0 x7)).bind fun t236 => (if t236 = true then (some ((⟨#[]⟩ : ByteArray), 0, true)) else (if (bt x0 x7) = 61 then (some ((⟨#[]⟩ : ByteArray), 0, true)) else (some (Hc_text x8, x7, true))))) else (none)) else (none))) else (some (Hc_text x8, x7, true))
end
def charref_named.f (k : Nat) (a0 : ByteArray) (a1 : Bool) (a2 : Bool) : Option (ByteArray × Int × Bool) := if a2 = true then (charref_named.j0 k a0 a1 a2 false) else ((entity_Begins.f k a0).bind fun t231 => (charref_named.j0 k a0 a1 a2 t231))
theorem charref_named.mono_l : ∀ k, (∀ y0 y1 y2 y3, LeO (charref_named.j0 k y0 y1 y2 y3) (charref_named.j0 (k + 1) y0 y1 y2 y3)) ∧ (∀ y0 y1 y2 y3 y4, LeO (charref_named.j1 k y0 y1 y2 y3 y4) (charref_named.j1 (k + 1) y0 y1 y2 y3 y4))
 | 0 => ⟨fun _ _ _ _ r h => by simp [charref_named.j0] at h, fun _ _ _ _ _ r h => by simp [charref_named.j1] at h⟩
 | k + 1 => by
  obtain ⟨ih0, ih1⟩ := charref_named.mono_l k
  refine ⟨?_, ?_⟩
  ·intro y0 y1 y2 y3
   unfold charref_named.j0
   repeat' first
   | (with_reducible exact ih0 _ _ _ _)
   | (with_reducible exact ih1 _ _ _ _ _)
   | (with_reducible exact entity_Begins.mono _ _)
   | (with_reducible exact entity_Longest.mono _ _)
   | (with_reducible exact LeO.refl _)
   | (with_reducible exact LeO.none _)
   | (with_reducible refine LeO.ite ?_ ?_)
   | (with_reducible refine LeO.bind ?_ (fun _ => ?_))
   | exact ih0 _ _ _ _
   | exact ih1 _ _ _ _ _
   | exact entity_Begins.mono _ _
   | exact entity_Longest.mono _ _
   | exact LeO.none _
   | refine LeO.ite ?_ ?_
   | refine LeO.bind ?_ (fun _ => ?_)
  ·intro y0 y1 y2 y3 y4
   unfold charref_named.j1
   repeat' first
   | (with_reducible exact ih0 _ _ _ _)
   | (with_reducible exact ih1 _ _ _ _ _)
   | (with_reducible exact entity_Begins.mono _ _)
   | (with_reducible exact entity_Longest.mono _ _)
   | (with_reducible exact LeO.refl _)
   | (with_reducible exact LeO.none _)
   | (with_reducible refine LeO.ite ?_ ?_)
   | (with_reducible refine LeO.bind ?_ (fun _ => ?_))
   | exact ih0 _ _ _ _
   | exact ih1 _ _ _ _ _
   | exact entity_Begins.mono _ _
   | exact entity_Longest.mono _ _
   | exact LeO.none _
   | refine LeO.ite ?_ ?_
   | refine LeO.bind ?_ (fun _ => ?_)
theorem charref_named.mono : ∀ a0 a1 a2 k, LeO (charref_named.f k a0 a1 a2) (charref_named.f (k + 1) a0 a1 a2) := by
 intro a0 a1 a2 k
 obtain ⟨ih0, ih1⟩ := charref_named.mono_l k
 unfold charref_named.f
 repeat' first
   | (with_reducible exact ih0 _ _ _ _)
   | (with_reducible exact ih1 _ _ _ _ _)
   | (with_reducible exact entity_Begins.mono _ _)
   | (with_reducible exact entity_Longest.mono _ _)
   | (with_reducible exact LeO.refl _)
   | (with_reducible exact LeO.none _)
   | (with_reducible refine LeO.ite ?_ ?_)
   | (with_reducible refine LeO.bind ?_ (fun _ => ?_))
   | exact ih0 _ _ _ _
   | exact ih1 _ _ _ _ _
   | exact entity_Begins.mono _ _
   | exact entity_Longest.mono _ _
   | exact LeO.none _
   | refine LeO.ite ?_ ?_
   | refine LeO.bind ?_ (fun _ => ?_)
set_option maxHeartbeats 8000000 in
set_option maxRecDepth 100000 in
theorem charref_named.calls (k : Nat) (a0 : ByteArray) (a1 : Bool) (a2 : Bool) (r1 : ByteArray) (r2 : Int) (r3 : Bool) (w : World) (h : charref_named.f k a0 a1 a2 = some (r1, r2, r3)) :
  Calls Tryd.prog 41 #[.string a0, .bool a1, .bool a2] w fun e w' => e = .returned (.agg #[.string r1, .int .i64 r2, .bool r3]) ∧ Below w.heap.size w w' := by
 have hu38 := Tryd.underlying38
 have HB := Aside0.mk (Below.refl w.heap.size w)
 have H : (if a2 = true then (charref_named.j0 k a0 a1 a2 false) else ((entity_Begins.f k a0).bind fun t231 => (charref_named.j0 k a0 a1 a2 t231))) = some (r1, r2, r3) := h
 clear h
 have HC4 := Aside0.mk H
 clear H
 go_enter Tryd.func41, Tryd.ntmps41
 go_upto_region 1 with (first | ((with_reducible refine gate_dst (N := 6) rfl ?_); refine box_event ?hg (N := 6) ?hd (cs := #[.string (⟨#[]⟩ : ByteArray), .int .i64 0, .bool false]) (t := 38) ?hr ?_; (case hd => rfl); (case hg => rfl); (case hr => first | (go_simp; done) | (go_simp; rfl)); intro gb230 hg w5 hbox hb; have n0_ := Aside0.mk (below_step (by repeat (first | (with_reducible first | exact HB.out | apply below_alloc | apply pw_below_drewN | apply below_drew1) | exact HB.out)) hb); have n1_ := Aside0.mk (hbox); have n2_ := Aside0.mk ((by rw [hg]; exact (below_size (by repeat (first | (with_reducible first | exact HB.out | apply below_alloc | apply pw_below_drewN | apply below_drew1) | exact HB.out))) : w.heap.size ≤ gb230)); have n3_ := Aside0.mk ((by rw [hg]; exact (below_size (by repeat (first | (with_reducible first | exact HB.out | apply below_alloc | apply pw_below_drewN | apply below_drew1) | exact HB.out))) : w.heap.size ≤ gb230)); clear HB; have HB := n0_; have BK230 := n1_; have GW230 := n2_; have GE230 := n3_; clear n0_ n1_ n2_ n3_; clear hb hbox hg))
 (try simp only [Act.put, List.setIfInBounds_toArray, List.set_cons_zero, List.set_cons_succ])
 go_cut [14] (fun v14 wc => ∃ (kq : Nat) (x14_3 : Bool), v14 = .bool x14_3 ∧ Aside0 (charref_named.j0 kq a0 a1 a2 x14_3 = some (r1, r2, r3)) ∧ Aside0 (kq ≤ k) ∧ Aside0 (wc.heap[gb230]? = some (.cells #[.string (⟨#[]⟩ : ByteArray), .int .i64 0, .bool false] 38 (0, 0))) ∧ Aside0 (Below w.heap.size w wc))
 case first =>
  have H := HC4.out
  clear HC4
  by_cases c6 : a2 = true
  ·subst c6
   have H1 : (charref_named.j0 k a0 a1 true false) = some (r1, r2, r3) := by rw [if_pos rfl] at H; exact H
   clear H
   have H := H1
   clear H1
   have H' := Aside0.mk H
   clear H
   go_wp2
   go_meet
   case rel => exact ⟨_, (false), (by first | rfl | (simp; done) | (simp [*]; done) | (unfold bt; split <;> first | rfl | (exfalso; simp_all; done) | (exfalso; simp_all; omega))), H', ⟨by first | omega | exact Nat.le_refl _⟩, ⟨by (with_reducible repeat (first | refine blk_drewN ?_ _ | refine blk_drew ?_ | refine blk_alloc ?_ _)); exact BK230.out⟩, ⟨by repeat (first | (with_reducible first | exact HB.out | apply below_alloc | apply pw_below_drewN | apply below_drew1 | refine below_set ?_ GE230.out) | exact HB.out)⟩⟩
  ·replace c6 := Bool.eq_false_iff.mpr c6
   subst c6
   have H1 : ((entity_Begins.f k a0).bind fun t231 => (charref_named.j0 k a0 a1 false t231)) = some (r1, r2, r3) := by rw [if_neg (show ¬ (false = true) by decide)] at H; exact H
   clear H
   have H := H1
   clear H1
   replace H := Option.bind_eq_some_iff.mp H
   obtain ⟨t231, A70, H⟩ := H
   replace H : (charref_named.j0 k a0 a1 false t231) = some (r1, r2, r3) := H
   have A7 := Aside0.mk A70
   clear A70
   have H' := Aside0.mk H
   clear H
   go_wp2_with (first | (go_at_call 57; (with_reducible refine (entity_Begins.calls k a0 t231 _ A7.out).mono ?_); rintro e w8 ⟨rfl, hb⟩; have n0_ := Aside0.mk (blk_below (g := gb230) (o := .cells #[.string (⟨#[]⟩ : ByteArray), .int .i64 0, .bool false] 38 (0, 0)) (by (with_reducible repeat (first | refine blk_drewN ?_ _ | refine blk_drew ?_ | refine blk_alloc ?_ _)); exact BK230.out) hb); have n1_ := Aside0.mk (below_step (by repeat (first | (with_reducible first | exact HB.out | apply below_alloc | apply pw_below_drewN | apply below_drew1 | refine below_set ?_ GE230.out) | exact HB.out)) hb); clear BK230; clear HB; have BK230 := n0_; have HB := n1_; clear n0_ n1_; (try clear hb); (try clear hb2); (try clear hk); (try clear hi)))
   go_meet
   case rel => exact ⟨_, (t231), (by first | rfl | (simp; done) | (simp [*]; done) | (unfold bt; split <;> first | rfl | (exfalso; simp_all; done) | (exfalso; simp_all; omega))), H', ⟨by first | omega | exact Nat.le_refl _⟩, ⟨by (with_reducible repeat (first | refine blk_drewN ?_ _ | refine blk_drew ?_ | refine blk_alloc ?_ _)); exact BK230.out⟩, ⟨by repeat (first | (with_reducible first | exact HB.out | apply below_alloc | apply pw_below_drewN | apply below_drew1 | refine below_set ?_ GE230.out) | exact HB.out)⟩⟩
 case rest =>
  clear HC4
  try clear p2
  try clear c4
  try clear c6
  obtain ⟨kq, x14_3, rfl, HA, HJ3, BK230, HB⟩ := hcut
  cases kq with
  | zero => exact absurd HA.out (by simp [charref_named.j0])
  | succ kj3 =>
   have H := HA.out
   clear HA
   simp only [charref_named.j0] at H
   by_cases c9 : x14_3 = true
   ·subst c9
    have H1 : (some ((⟨#[]⟩ : ByteArray), 0, false)) = some (r1, r2, r3) := by rw [if_pos rfl] at H; exact H
    clear H
    have H := H1
    clear H1
    simp only [Option.some.injEq, Prod.mk.injEq] at H
    obtain ⟨rfl, rfl, rfl⟩ := H
    have hcz10_0 : wc.cell? ⟨gb230, 0, none⟩ = some (.string (⟨#[]⟩ : ByteArray)) := (blk_cell BK230.out 0).trans rfl
    have hcz10_1 : wc.cell? ⟨gb230, 1, none⟩ = some (.int .i64 0) := (blk_cell BK230.out 1).trans rfl
    have hcz10_2 : wc.cell? ⟨gb230, 2, none⟩ = some (.bool false) := (blk_cell BK230.out 2).trans rfl
    have hfz10_0 := blk_frozen BK230.out 0
    have hfz10_1 := blk_frozen BK230.out 1
    have hfz10_2 := blk_frozen BK230.out 2
    go_wp2
    refine bodyPost_ret (results_cell_row rfl _ _ gb230 38 #[.string (⟨#[]⟩ : ByteArray), .int .i64 0, .bool false] (0, 0) _ rfl (by (with_reducible repeat (first | refine blk_drewN ?_ _ | refine blk_drew ?_ | refine blk_alloc ?_ _)); refine blk_put (cs := #[.string (⟨#[]⟩ : ByteArray), .int .i64 0, .bool false]) ?_ 2 _ rfl; (with_reducible repeat (first | refine blk_drewN ?_ _ | refine blk_drew ?_ | refine blk_alloc ?_ _)); refine blk_put (cs := #[.string (⟨#[]⟩ : ByteArray), .int .i64 0, .bool false]) ?_ 1 _ rfl; (with_reducible repeat (first | refine blk_drewN ?_ _ | refine blk_drew ?_ | refine blk_alloc ?_ _)); refine blk_put (cs := #[.string (⟨#[]⟩ : ByteArray), .int .i64 0, .bool false]) ?_ 0 _ rfl; (with_reducible repeat (first | refine blk_drewN ?_ _ | refine blk_drew ?_ | refine blk_alloc ?_ _)); exact BK230.out) Tryd.underlying38 rfl (by kernel_rfl)) rfl ?_
    exact ⟨by first | rfl | (simp [errW_none, errW_some] <;> rfl) | (simp [*, errW_none, errW_some] <;> rfl), by repeat (first | (with_reducible first | exact HB.out | apply below_alloc | apply pw_below_drewN | apply below_drew1 | refine below_set ?_ GE230.out) | exact HB.out)⟩
   ·replace c9 := Bool.eq_false_iff.mpr c9
    subst c9
    have H1 : ((entity_Longest.f kj3 a0).bind fun bt232 => (if bt232.1 = 0 then (some ((⟨#[]⟩ : ByteArray), 0, true)) else (if a1 = true then (if 0 ≤ (wrap64 (bt232.1 - 1)) then (if (wrap64 (bt232.1 - 1)) < (a0.size : Int) then (charref_named.j1 kj3 a0 a2 bt232.1 bt232.2 ((bt a0 (wrap64 (bt232.1 - 1))) != 59)) else (none)) else (none)) else (charref_named.j1 kj3 a0 a2 bt232.1 bt232.2 false)))) = some (r1, r2, r3) := by rw [if_neg (show ¬ (false = true) by decide)] at H; exact H
    clear H
    have H := H1
    clear H1
    replace H := Option.bind_eq_some_iff.mp H
    obtain ⟨⟨t232, t233⟩, A110, H⟩ := H
    replace H : (if t232 = 0 then (some ((⟨#[]⟩ : ByteArray), 0, true)) else (if a1 = true then (if 0 ≤ (wrap64 (t232 - 1)) then (if (wrap64 (t232 - 1)) < (a0.size : Int) then (charref_named.j1 kj3 a0 a2 t232 t233 ((bt a0 (wrap64 (t232 - 1))) != 59)) else (none)) else (none)) else (charref_named.j1 kj3 a0 a2 t232 t233 false))) = some (r1, r2, r3) := H
    have A11 := Aside0.mk A110
    clear A110
    by_cases c12 : t232 = 0
    ·rw [if_pos c12] at H
     have c12b0 : (t232 == 0) = true := beq_iff_eq.mpr c12
     have c12b1 : (t232 != 0) = false := bne_eq_false_iff_eq.mpr c12
     clear c12
     simp only [Option.some.injEq, Prod.mk.injEq] at H
     obtain ⟨rfl, rfl, rfl⟩ := H
     go_wp2_with (first | ((with_reducible refine gate_callee (f := 58) rfl ?_); refine goesL_ (some 18) rfl rfl Tryd.func58 (by kernel_rfl) rfl #[.string a0] rfl (by (try simp only [List.map_toArray, List.map_cons, List.map_nil]); first | done | rfl | (simp only [List.length_drop, List.length_take]; rfl) | (simp [*] <;> rfl)) ?_; (with_reducible refine (entity_Longest.calls kj3 a0 t232 t233 _ A11.out).mono ?_); rintro e w13 ⟨v234, rfl, ho0, hb⟩; refine ⟨_, rfl, ?_⟩; have n0_ := Aside0.mk (Kd.R_lower ho0 (below_size (by repeat (first | (with_reducible first | exact HB.out | apply below_alloc | apply pw_below_drewN | apply below_drew1 | refine below_set ?_ GE230.out) | exact HB.out)))); have n1_ := Aside0.mk (blk_below (g := gb230) (o := .cells #[.string (⟨#[]⟩ : ByteArray), .int .i64 0, .bool false] 38 (0, 0)) (by (with_reducible repeat (first | refine blk_drewN ?_ _ | refine blk_drew ?_ | refine blk_alloc ?_ _)); exact BK230.out) hb); have n2_ := Aside0.mk (below_step (by repeat (first | (with_reducible first | exact HB.out | apply below_alloc | apply pw_below_drewN | apply below_drew1 | refine below_set ?_ GE230.out) | exact HB.out)) hb); clear BK230; clear HB; have HO235 := n0_; have BK230 := n1_; have HB := n2_; clear n0_ n1_ n2_; (try clear hb); (try clear hb2); (try clear hk); (try clear hi); (try clear ho0); have hcz14_0 : w13.cell? ⟨gb230, 0, none⟩ = some (.string (⟨#[]⟩ : ByteArray)) := (blk_cell BK230.out 0).trans rfl; have hcz14_1 : w13.cell? ⟨gb230, 1, none⟩ = some (.int .i64 0) := (blk_cell BK230.out 1).trans rfl; have hcz14_2 : w13.cell? ⟨gb230, 2, none⟩ = some (.bool false) := (blk_cell BK230.out 2).trans rfl; have hfz14_0 := blk_frozen BK230.out 0; have hfz14_1 := blk_frozen BK230.out 1; have hfz14_2 := blk_frozen BK230.out 2))
     refine bodyPost_ret (results_cell_row rfl _ _ gb230 38 #[.string (⟨#[]⟩ : ByteArray), .int .i64 0, .bool true] (0, 0) _ rfl (by (with_reducible repeat (first | refine blk_drewN ?_ _ | refine blk_drew ?_ | refine blk_alloc ?_ _)); refine blk_put (cs := #[.string (⟨#[]⟩ : ByteArray), .int .i64 0, .bool false]) ?_ 2 _ rfl; (with_reducible repeat (first | refine blk_drewN ?_ _ | refine blk_drew ?_ | refine blk_alloc ?_ _)); refine blk_put (cs := #[.string (⟨#[]⟩ : ByteArray), .int .i64 0, .bool false]) ?_ 1 _ rfl; (with_reducible repeat (first | refine blk_drewN ?_ _ | refine blk_drew ?_ | refine blk_alloc ?_ _)); refine blk_put (cs := #[.string (⟨#[]⟩ : ByteArray), .int .i64 0, .bool false]) ?_ 0 _ rfl; (with_reducible repeat (first | refine blk_drewN ?_ _ | refine blk_drew ?_ | refine blk_alloc ?_ _)); exact BK230.out) Tryd.underlying38 rfl (by kernel_rfl)) rfl ?_
     exact ⟨by first | rfl | (simp [errW_none, errW_some] <;> rfl) | (simp [*, errW_none, errW_some] <;> rfl), by repeat (first | (with_reducible first | exact HB.out | apply below_alloc | apply pw_below_drewN | apply below_drew1 | refine below_set ?_ GE230.out) | exact HB.out)⟩
    ·rw [if_neg c12] at H
     have c12b0 : (t232 == 0) = false := beq_eq_false_iff_ne.mpr c12
     have c12b1 : (t232 != 0) = true := bne_iff_ne.mpr c12
     have HC15 := Aside0.mk H
     clear H
     go_upto_region 6 with (first | ((with_reducible refine gate_callee (f := 58) rfl ?_); refine goesL_ (some 18) rfl rfl Tryd.func58 (by kernel_rfl) rfl #[.string a0] rfl (by (try simp only [List.map_toArray, List.map_cons, List.map_nil]); first | done | rfl | (simp only [List.length_drop, List.length_take]; rfl) | (simp [*] <;> rfl)) ?_; (with_reducible refine (entity_Longest.calls kj3 a0 t232 t233 _ A11.out).mono ?_); rintro e w16 ⟨v234, rfl, ho0, hb⟩; refine ⟨_, rfl, ?_⟩; have n0_ := Aside0.mk (Kd.R_lower ho0 (below_size (by repeat (first | (with_reducible first | exact HB.out | apply below_alloc | apply pw_below_drewN | apply below_drew1 | refine below_set ?_ GE230.out) | exact HB.out)))); have n1_ := Aside0.mk (blk_below (g := gb230) (o := .cells #[.string (⟨#[]⟩ : ByteArray), .int .i64 0, .bool false] 38 (0, 0)) (by (with_reducible repeat (first | refine blk_drewN ?_ _ | refine blk_drew ?_ | refine blk_alloc ?_ _)); exact BK230.out) hb); have n2_ := Aside0.mk (below_step (by repeat (first | (with_reducible first | exact HB.out | apply below_alloc | apply pw_below_drewN | apply below_drew1 | refine below_set ?_ GE230.out) | exact HB.out)) hb); clear BK230; clear HB; have HO235 := n0_; have BK230 := n1_; have HB := n2_; clear n0_ n1_ n2_; (try clear hb); (try clear hb2); (try clear hk); (try clear hi); (try clear ho0)))
     (try simp only [Act.put, List.setIfInBounds_toArray, List.set_cons_zero, List.set_cons_succ])
     go_cut [31] (fun v31 wc => ∃ (kq : Nat) (x31_14 : Bool), v31 = .bool x31_14 ∧ Aside0 (charref_named.j1 kq a0 a2 t232 t233 x31_14 = some (r1, r2, r3)) ∧ Aside0 (kq ≤ kj3) ∧ Aside0 (Kd.R (Kd.int .i32) 21 wc w.heap.size (fun _ => True) v234 t233) ∧ Aside0 (wc.heap[gb230]? = some (.cells #[.string (⟨#[]⟩ : ByteArray), .int .i64 0, .bool false] 38 (0, 0))) ∧ Aside0 (Below w.heap.size w wc))
     case first =>
      have H := HC15.out
      clear HC15
      by_cases c17 : a1 = true
      ·subst c17
       have H1 : (if 0 ≤ (wrap64 (t232 - 1)) then (if (wrap64 (t232 - 1)) < (a0.size : Int) then (charref_named.j1 kj3 a0 a2 t232 t233 ((bt a0 (wrap64 (t232 - 1))) != 59)) else (none)) else (none)) = some (r1, r2, r3) := by rw [if_pos rfl] at H; exact H
       clear H
       have H := H1
       clear H1
       obtain ⟨ji18, hji18⟩ : ∃ j_ : Int, (wrap64 (t232 - 1)) = j_ := ⟨_, rfl⟩
       replace H : (if 0 ≤ (ji18) then (if (ji18) < (a0.size : Int) then (charref_named.j1 kj3 a0 a2 t232 t233 ((bt a0 (ji18)) != 59)) else (none)) else (none)) = some (r1, r2, r3) := by first | (rw [hji18] at H; exact H) | (simp only [hji18] at H ⊢; exact H)
       have hji18w : (IntKind.i64.wrap (t232 - 1)) = ji18 := (i64_w _).trans hji18
       by_cases c19 : 0 ≤ (ji18)
       ·rw [if_pos c19] at H
        have c19b0 : decide (0 ≤ (ji18)) = true := decide_eq_true c19
        clear c19
        (first | rw [c19b0] | (simp only [i64_w, i32_w]; rw [c19b0]) | skip)
        by_cases c20 : (ji18) < (a0.size : Int)
        ·rw [if_pos c20] at H
         have c20b0 : decide ((ji18) < (a0.size : Int)) = true := decide_eq_true c20
         clear c20
         have H' := Aside0.mk H
         clear H
         have p21 : 0 ≤ ((ji18) : Int) := of_decide_eq_true (by first | (with_reducible assumption) | assumption)
         have q21 : (ji18) < (a0.size : Int) := of_decide_eq_true (by first | (with_reducible assumption) | assumption)
         have hx21 := bt_at a0 (ji18)
         replace p21 := eq_true p21
         replace q21 := eq_true q21
         go_wp2
         go_meet
         case rel => exact ⟨_, (((bt a0 (ji18)) != 59)), (by first | rfl | (simp; done) | (simp only [← hji18] <;> (first | rfl | simp)) | (simp [*]; done)), H', ⟨by have := HJ3.out; first | omega | exact Nat.le_refl _⟩, ⟨by (with_reducible repeat (first | apply Kd.R_alloc | apply Kd.R_drewN | apply Kd.R_drew)); exact HO235.out⟩, ⟨by (with_reducible repeat (first | refine blk_drewN ?_ _ | refine blk_drew ?_ | refine blk_alloc ?_ _)); exact BK230.out⟩, ⟨by repeat (first | (with_reducible first | exact HB.out | apply below_alloc | apply pw_below_drewN | apply below_drew1 | refine below_set ?_ GE230.out) | exact HB.out)⟩⟩
        ·rw [if_neg c20] at H
         exact absurd H (by simp)
       ·rw [if_neg c19] at H
        exact absurd H (by simp)
      ·replace c17 := Bool.eq_false_iff.mpr c17
       subst c17
       have H1 : (charref_named.j1 kj3 a0 a2 t232 t233 false) = some (r1, r2, r3) := by rw [if_neg (show ¬ (false = true) by decide)] at H; exact H
       clear H
       have H := H1
       clear H1
       have H' := Aside0.mk H
       clear H
       go_wp2
       go_meet
       case rel => exact ⟨_, (false), (by first | rfl | (simp; done) | (simp [*]; done) | (unfold bt; split <;> first | rfl | (exfalso; simp_all; done) | (exfalso; simp_all; omega))), H', ⟨by have := HJ3.out; first | omega | exact Nat.le_refl _⟩, ⟨by (with_reducible repeat (first | apply Kd.R_alloc | apply Kd.R_drewN | apply Kd.R_drew)); exact HO235.out⟩, ⟨by (with_reducible repeat (first | refine blk_drewN ?_ _ | refine blk_drew ?_ | refine blk_alloc ?_ _)); exact BK230.out⟩, ⟨by repeat (first | (with_reducible first | exact HB.out | apply below_alloc | apply pw_below_drewN | apply below_drew1 | refine below_set ?_ GE230.out) | exact HB.out)⟩⟩
     case rest =>
      clear HC15
      try clear c1
      try clear c2
      try clear p2
      try clear q2
      try clear hx2
      try clear c4
      try clear c5
      try clear c6
      try clear p6
      try clear c9
      try clear c12
      try clear c12b0
      try clear c12b1
      try clear c17
      try clear c19
      try clear c19b0
      try clear c20
      try clear c20b0
      try clear p21
      try clear q21
      try clear hx21
      try clear hcz10_0
      try clear hcz10_1
      try clear hcz10_2
      try clear hcz14_0
      try clear hcz14_1
      try clear hcz14_2
      try clear hfz10_0
      try clear hfz10_1
      try clear hfz10_2
      try clear hfz14_0
      try clear hfz14_1
      try clear hfz14_2
      try clear p2
      try clear p21
      try clear q21
      obtain ⟨kq, x31_14, rfl, HA, HJ14, HO_8, BK230, HB⟩ := hcut
      cases kq with
      | zero => exact absurd HA.out (by simp [charref_named.j1])
      | succ kj14 =>
       have H := HA.out
       clear HA
       simp only [charref_named.j1] at H
       by_cases c22 : x31_14 = true
       ·subst c22
        have H1 : (if t232 = (a0.size : Int) then (if a2 = true then (some (Hc_text t233, t232, true)) else (some ((⟨#[]⟩ : ByteArray), 0, false))) else (if 0 ≤ t232 then (if t232 < (a0.size : Int) then ((charref_word.f (bt a0 t232)).bind fun t236 => (if t236 = true then (some ((⟨#[]⟩ : ByteArray), 0, true)) else (if (bt a0 t232) = 61 then (some ((⟨#[]⟩ : ByteArray), 0, true)) else (some (Hc_text t233, t232, true))))) else (none)) else (none))) = some (r1, r2, r3) := by rw [if_pos rfl] at H; exact H
        clear H
        have H := H1
        clear H1
        by_cases c23 : t232 = (a0.size : Int)
        ·rw [if_pos c23] at H
         have c23b0 : (t232 == (a0.size : Int)) = true := beq_iff_eq.mpr c23
         have c23b1 : (t232 != (a0.size : Int)) = false := bne_eq_false_iff_eq.mpr c23
         clear c23
         by_cases c24 : a2 = true
         ·subst c24
          have H1 : (some (Hc_text t233, t232, true)) = some (r1, r2, r3) := by rw [if_pos rfl] at H; exact H
          clear H
          have H := H1
          clear H1
          simp only [Option.some.injEq, Prod.mk.injEq] at H
          obtain ⟨rfl, rfl, rfl⟩ := H
          have hcv25 := Hc_own_runes (P := Tryd.prog) Tryd.underlying44 Tryd.underlying21 Tryd.underlying9 (Kd.own_of_R HO_8.out)
          have hcz26_0 : wc.cell? ⟨gb230, 0, none⟩ = some (.string (⟨#[]⟩ : ByteArray)) := (blk_cell BK230.out 0).trans rfl
          have hcz26_1 : wc.cell? ⟨gb230, 1, none⟩ = some (.int .i64 0) := (blk_cell BK230.out 1).trans rfl
          have hcz26_2 : wc.cell? ⟨gb230, 2, none⟩ = some (.bool false) := (blk_cell BK230.out 2).trans rfl
          have hfz26_0 := blk_frozen BK230.out 0
          have hfz26_1 := blk_frozen BK230.out 1
          have hfz26_2 := blk_frozen BK230.out 2
          go_wp2
          refine bodyPost_ret (results_cell_row rfl _ _ gb230 38 #[.string (Hc_text t233), .int .i64 t232, .bool true] (0, 0) _ rfl (by (with_reducible repeat (first | refine blk_drewN ?_ _ | refine blk_drew ?_ | refine blk_alloc ?_ _)); refine blk_put (cs := #[.string (Hc_text t233), .int .i64 t232, .bool false]) ?_ 2 _ rfl; (with_reducible repeat (first | refine blk_drewN ?_ _ | refine blk_drew ?_ | refine blk_alloc ?_ _)); refine blk_put (cs := #[.string (Hc_text t233), .int .i64 0, .bool false]) ?_ 1 _ rfl; (with_reducible repeat (first | refine blk_drewN ?_ _ | refine blk_drew ?_ | refine blk_alloc ?_ _)); refine blk_put (cs := #[.string (⟨#[]⟩ : ByteArray), .int .i64 0, .bool false]) ?_ 0 _ rfl; (with_reducible repeat (first | refine blk_drewN ?_ _ | refine blk_drew ?_ | refine blk_alloc ?_ _)); exact BK230.out) Tryd.underlying38 rfl (by kernel_rfl)) rfl ?_
          exact ⟨by first | rfl | (simp [errW_none, errW_some] <;> rfl) | (simp [*, errW_none, errW_some] <;> rfl), by repeat (first | (with_reducible first | exact HB.out | apply below_alloc | apply pw_below_drewN | apply below_drew1 | refine below_set ?_ GE230.out) | exact HB.out)⟩
         ·replace c24 := Bool.eq_false_iff.mpr c24
          subst c24
          have H1 : (some ((⟨#[]⟩ : ByteArray), 0, false)) = some (r1, r2, r3) := by rw [if_neg (show ¬ (false = true) by decide)] at H; exact H
          clear H
          have H := H1
          clear H1
          simp only [Option.some.injEq, Prod.mk.injEq] at H
          obtain ⟨rfl, rfl, rfl⟩ := H
          have hcz27_0 : wc.cell? ⟨gb230, 0, none⟩ = some (.string (⟨#[]⟩ : ByteArray)) := (blk_cell BK230.out 0).trans rfl
          have hcz27_1 : wc.cell? ⟨gb230, 1, none⟩ = some (.int .i64 0) := (blk_cell BK230.out 1).trans rfl
          have hcz27_2 : wc.cell? ⟨gb230, 2, none⟩ = some (.bool false) := (blk_cell BK230.out 2).trans rfl
          have hfz27_0 := blk_frozen BK230.out 0
          have hfz27_1 := blk_frozen BK230.out 1
          have hfz27_2 := blk_frozen BK230.out 2
          go_wp2
          refine bodyPost_ret (results_cell_row rfl _ _ gb230 38 #[.string (⟨#[]⟩ : ByteArray), .int .i64 0, .bool false] (0, 0) _ rfl (by (with_reducible repeat (first | refine blk_drewN ?_ _ | refine blk_drew ?_ | refine blk_alloc ?_ _)); refine blk_put (cs := #[.string (⟨#[]⟩ : ByteArray), .int .i64 0, .bool false]) ?_ 2 _ rfl; (with_reducible repeat (first | refine blk_drewN ?_ _ | refine blk_drew ?_ | refine blk_alloc ?_ _)); refine blk_put (cs := #[.string (⟨#[]⟩ : ByteArray), .int .i64 0, .bool false]) ?_ 1 _ rfl; (with_reducible repeat (first | refine blk_drewN ?_ _ | refine blk_drew ?_ | refine blk_alloc ?_ _)); refine blk_put (cs := #[.string (⟨#[]⟩ : ByteArray), .int .i64 0, .bool false]) ?_ 0 _ rfl; (with_reducible repeat (first | refine blk_drewN ?_ _ | refine blk_drew ?_ | refine blk_alloc ?_ _)); exact BK230.out) Tryd.underlying38 rfl (by kernel_rfl)) rfl ?_
          exact ⟨by first | rfl | (simp [errW_none, errW_some] <;> rfl) | (simp [*, errW_none, errW_some] <;> rfl), by repeat (first | (with_reducible first | exact HB.out | apply below_alloc | apply pw_below_drewN | apply below_drew1 | refine below_set ?_ GE230.out) | exact HB.out)⟩
        ·rw [if_neg c23] at H
         have c23b0 : (t232 == (a0.size : Int)) = false := beq_eq_false_iff_ne.mpr c23
         have c23b1 : (t232 != (a0.size : Int)) = true := bne_iff_ne.mpr c23
         by_cases c28 : 0 ≤ t232
         ·rw [if_pos c28] at H
          have c28b0 : decide (0 ≤ t232) = true := decide_eq_true c28
          clear c28
          by_cases c29 : t232 < (a0.size : Int)
          ·rw [if_pos c29] at H
           have c29b0 : decide (t232 < (a0.size : Int)) = true := decide_eq_true c29
           clear c29
           replace H := Option.bind_eq_some_iff.mp H
           obtain ⟨t236, A310, H⟩ := H
           replace H : (if t236 = true then (some ((⟨#[]⟩ : ByteArray), 0, true)) else (if (bt a0 t232) = 61 then (some ((⟨#[]⟩ : ByteArray), 0, true)) else (some (Hc_text t233, t232, true)))) = some (r1, r2, r3) := H
           have A31 := Aside0.mk A310
           clear A310
           by_cases c32 : t236 = true
           ·subst c32
            have H1 : (some ((⟨#[]⟩ : ByteArray), 0, true)) = some (r1, r2, r3) := by rw [if_pos rfl] at H; exact H
            clear H
            have H := H1
            clear H1
            simp only [Option.some.injEq, Prod.mk.injEq] at H
            obtain ⟨rfl, rfl, rfl⟩ := H
            have p30 : 0 ≤ (t232 : Int) := of_decide_eq_true (by first | (with_reducible assumption) | assumption)
            have q30 : t232 < (a0.size : Int) := of_decide_eq_true (by first | (with_reducible assumption) | assumption)
            have hx30 := bt_at a0 t232
            replace p30 := eq_true p30
            replace q30 := eq_true q30
            go_wp2_with (first | ((with_reducible refine gate_callee (f := 59) rfl ?_); refine goesL_ (some 42) rfl rfl Tryd.func59 (by kernel_rfl) rfl #[.int .u8 (bt a0 t232)] rfl (by (try simp only [List.map_toArray, List.map_cons, List.map_nil]); first | done | rfl | (simp only [List.length_drop, List.length_take]; rfl) | (simp [*] <;> rfl)) ?_; (with_reducible refine (charref_word.calls (bt a0 t232) true _ A31.out).mono ?_); rintro e w' ⟨rfl, ⟨nd, rfl⟩⟩; refine ⟨_, rfl, ?_⟩; (try (rw [drewN_self wc]; generalize hq_ : World.drewN wc _ = wc; have n0_ : Aside0 (Kd.R (Kd.int .i32) 21 wc w.heap.size (fun _ => True) v234 t233) := ⟨by rw [← hq_]; exact (by (with_reducible repeat (first | apply Kd.R_alloc | apply Kd.R_drewN | apply Kd.R_drew)); exact HO_8.out)⟩; have n1_ : Aside0 (wc.heap[gb230]? = some (.cells #[.string (⟨#[]⟩ : ByteArray), .int .i64 0, .bool false] 38 (0, 0))) := ⟨by rw [← hq_]; exact (by (with_reducible repeat (first | refine blk_drewN ?_ _ | refine blk_drew ?_ | refine blk_alloc ?_ _)); exact BK230.out)⟩; have n2_ : Aside0 (Below w.heap.size w wc) := ⟨by rw [← hq_]; exact (by repeat (first | (with_reducible first | exact HB.out | apply below_alloc | apply pw_below_drewN | apply below_drew1 | refine below_set ?_ GE230.out) | exact HB.out))⟩; clear HO_8 BK230 HB hq_; have HO_8 := n0_; have BK230 := n1_; have HB := n2_; clear n0_ n1_ n2_)); have hcz33_0 : wc.cell? ⟨gb230, 0, none⟩ = some (.string (⟨#[]⟩ : ByteArray)) := (blk_cell BK230.out 0).trans rfl; have hcz33_1 : wc.cell? ⟨gb230, 1, none⟩ = some (.int .i64 0) := (blk_cell BK230.out 1).trans rfl; have hcz33_2 : wc.cell? ⟨gb230, 2, none⟩ = some (.bool false) := (blk_cell BK230.out 2).trans rfl; have hfz33_0 := blk_frozen BK230.out 0; have hfz33_1 := blk_frozen BK230.out 1; have hfz33_2 := blk_frozen BK230.out 2))
            refine bodyPost_ret (results_cell_row rfl _ _ gb230 38 #[.string (⟨#[]⟩ : ByteArray), .int .i64 0, .bool true] (0, 0) _ rfl (by (with_reducible repeat (first | refine blk_drewN ?_ _ | refine blk_drew ?_ | refine blk_alloc ?_ _)); refine blk_put (cs := #[.string (⟨#[]⟩ : ByteArray), .int .i64 0, .bool false]) ?_ 2 _ rfl; (with_reducible repeat (first | refine blk_drewN ?_ _ | refine blk_drew ?_ | refine blk_alloc ?_ _)); refine blk_put (cs := #[.string (⟨#[]⟩ : ByteArray), .int .i64 0, .bool false]) ?_ 1 _ rfl; (with_reducible repeat (first | refine blk_drewN ?_ _ | refine blk_drew ?_ | refine blk_alloc ?_ _)); refine blk_put (cs := #[.string (⟨#[]⟩ : ByteArray), .int .i64 0, .bool false]) ?_ 0 _ rfl; (with_reducible repeat (first | refine blk_drewN ?_ _ | refine blk_drew ?_ | refine blk_alloc ?_ _)); exact BK230.out) Tryd.underlying38 rfl (by kernel_rfl)) rfl ?_
            exact ⟨by first | rfl | (simp [errW_none, errW_some] <;> rfl) | (simp [*, errW_none, errW_some] <;> rfl), by repeat (first | (with_reducible first | exact HB.out | apply below_alloc | apply pw_below_drewN | apply below_drew1 | refine below_set ?_ GE230.out) | exact HB.out)⟩
           ·replace c32 := Bool.eq_false_iff.mpr c32
            subst c32
            have H1 : (if (bt a0 t232) = 61 then (some ((⟨#[]⟩ : ByteArray), 0, true)) else (some (Hc_text t233, t232, true))) = some (r1, r2, r3) := by rw [if_neg (show ¬ (false = true) by decide)] at H; exact H
            clear H
            have H := H1
            clear H1
            by_cases c35 : (bt a0 t232) = 61
            ·rw [if_pos c35] at H
             have c35b0 : ((bt a0 t232) == 61) = true := beq_iff_eq.mpr c35
             have c35b1 : ((bt a0 t232) != 61) = false := bne_eq_false_iff_eq.mpr c35
             clear c35
             simp only [Option.some.injEq, Prod.mk.injEq] at H
             obtain ⟨rfl, rfl, rfl⟩ := H
             have p30 : 0 ≤ (t232 : Int) := of_decide_eq_true (by first | (with_reducible assumption) | assumption)
             have q30 : t232 < (a0.size : Int) := of_decide_eq_true (by first | (with_reducible assumption) | assumption)
             have hx30 := bt_at a0 t232
             replace p30 := eq_true p30
             replace q30 := eq_true q30
             go_wp2_with (first | ((with_reducible refine gate_callee (f := 59) rfl ?_); refine goesL_ (some 42) rfl rfl Tryd.func59 (by kernel_rfl) rfl #[.int .u8 (bt a0 t232)] rfl (by (try simp only [List.map_toArray, List.map_cons, List.map_nil]); first | done | rfl | (simp only [List.length_drop, List.length_take]; rfl) | (simp [*] <;> rfl)) ?_; (with_reducible refine (charref_word.calls (bt a0 t232) false _ A31.out).mono ?_); rintro e w' ⟨rfl, ⟨nd, rfl⟩⟩; refine ⟨_, rfl, ?_⟩; (try (rw [drewN_self wc]; generalize hq_ : World.drewN wc _ = wc; have n0_ : Aside0 (Kd.R (Kd.int .i32) 21 wc w.heap.size (fun _ => True) v234 t233) := ⟨by rw [← hq_]; exact (by (with_reducible repeat (first | apply Kd.R_alloc | apply Kd.R_drewN | apply Kd.R_drew)); exact HO_8.out)⟩; have n1_ : Aside0 (wc.heap[gb230]? = some (.cells #[.string (⟨#[]⟩ : ByteArray), .int .i64 0, .bool false] 38 (0, 0))) := ⟨by rw [← hq_]; exact (by (with_reducible repeat (first | refine blk_drewN ?_ _ | refine blk_drew ?_ | refine blk_alloc ?_ _)); exact BK230.out)⟩; have n2_ : Aside0 (Below w.heap.size w wc) := ⟨by rw [← hq_]; exact (by repeat (first | (with_reducible first | exact HB.out | apply below_alloc | apply pw_below_drewN | apply below_drew1 | refine below_set ?_ GE230.out) | exact HB.out))⟩; clear HO_8 BK230 HB hq_; have HO_8 := n0_; have BK230 := n1_; have HB := n2_; clear n0_ n1_ n2_)); have p34 : 0 ≤ (t232 : Int) := of_decide_eq_true (by first | (with_reducible assumption) | assumption); have q34 : t232 < (a0.size : Int) := of_decide_eq_true (by first | (with_reducible assumption) | assumption); have hx34 := bt_at a0 t232; replace p34 := eq_true p34; replace q34 := eq_true q34; have hcz36_0 : wc.cell? ⟨gb230, 0, none⟩ = some (.string (⟨#[]⟩ : ByteArray)) := (blk_cell BK230.out 0).trans rfl; have hcz36_1 : wc.cell? ⟨gb230, 1, none⟩ = some (.int .i64 0) := (blk_cell BK230.out 1).trans rfl; have hcz36_2 : wc.cell? ⟨gb230, 2, none⟩ = some (.bool false) := (blk_cell BK230.out 2).trans rfl; have hfz36_0 := blk_frozen BK230.out 0; have hfz36_1 := blk_frozen BK230.out 1; have hfz36_2 := blk_frozen BK230.out 2))
             refine bodyPost_ret (results_cell_row rfl _ _ gb230 38 #[.string (⟨#[]⟩ : ByteArray), .int .i64 0, .bool true] (0, 0) _ rfl (by (with_reducible repeat (first | refine blk_drewN ?_ _ | refine blk_drew ?_ | refine blk_alloc ?_ _)); refine blk_put (cs := #[.string (⟨#[]⟩ : ByteArray), .int .i64 0, .bool false]) ?_ 2 _ rfl; (with_reducible repeat (first | refine blk_drewN ?_ _ | refine blk_drew ?_ | refine blk_alloc ?_ _)); refine blk_put (cs := #[.string (⟨#[]⟩ : ByteArray), .int .i64 0, .bool false]) ?_ 1 _ rfl; (with_reducible repeat (first | refine blk_drewN ?_ _ | refine blk_drew ?_ | refine blk_alloc ?_ _)); refine blk_put (cs := #[.string (⟨#[]⟩ : ByteArray), .int .i64 0, .bool false]) ?_ 0 _ rfl; (with_reducible repeat (first | refine blk_drewN ?_ _ | refine blk_drew ?_ | refine blk_alloc ?_ _)); exact BK230.out) Tryd.underlying38 rfl (by kernel_rfl)) rfl ?_
             exact ⟨by first | rfl | (simp [errW_none, errW_some] <;> rfl) | (simp [*, errW_none, errW_some] <;> rfl), by repeat (first | (with_reducible first | exact HB.out | apply below_alloc | apply pw_below_drewN | apply below_drew1 | refine below_set ?_ GE230.out) | exact HB.out)⟩
            ·rw [if_neg c35] at H
             have c35b0 : ((bt a0 t232) == 61) = false := beq_eq_false_iff_ne.mpr c35
             have c35b1 : ((bt a0 t232) != 61) = true := bne_iff_ne.mpr c35
             simp only [Option.some.injEq, Prod.mk.injEq] at H
             obtain ⟨rfl, rfl, rfl⟩ := H
             have p30 : 0 ≤ (t232 : Int) := of_decide_eq_true (by first | (with_reducible assumption) | assumption)
             have q30 : t232 < (a0.size : Int) := of_decide_eq_true (by first | (with_reducible assumption) | assumption)
             have hx30 := bt_at a0 t232
             replace p30 := eq_true p30
             replace q30 := eq_true q30
             go_wp2_with (first | ((with_reducible refine gate_callee (f := 59) rfl ?_); refine goesL_ (some 42) rfl rfl Tryd.func59 (by kernel_rfl) rfl #[.int .u8 (bt a0 t232)] rfl (by (try simp only [List.map_toArray, List.map_cons, List.map_nil]); first | done | rfl | (simp only [List.length_drop, List.length_take]; rfl) | (simp [*] <;> rfl)) ?_; (with_reducible refine (charref_word.calls (bt a0 t232) false _ A31.out).mono ?_); rintro e w' ⟨rfl, ⟨nd, rfl⟩⟩; refine ⟨_, rfl, ?_⟩; (try (rw [drewN_self wc]; generalize hq_ : World.drewN wc _ = wc; have n0_ : Aside0 (Kd.R (Kd.int .i32) 21 wc w.heap.size (fun _ => True) v234 t233) := ⟨by rw [← hq_]; exact (by (with_reducible repeat (first | apply Kd.R_alloc | apply Kd.R_drewN | apply Kd.R_drew)); exact HO_8.out)⟩; have n1_ : Aside0 (wc.heap[gb230]? = some (.cells #[.string (⟨#[]⟩ : ByteArray), .int .i64 0, .bool false] 38 (0, 0))) := ⟨by rw [← hq_]; exact (by (with_reducible repeat (first | refine blk_drewN ?_ _ | refine blk_drew ?_ | refine blk_alloc ?_ _)); exact BK230.out)⟩; have n2_ : Aside0 (Below w.heap.size w wc) := ⟨by rw [← hq_]; exact (by repeat (first | (with_reducible first | exact HB.out | apply below_alloc | apply pw_below_drewN | apply below_drew1 | refine below_set ?_ GE230.out) | exact HB.out))⟩; clear HO_8 BK230 HB hq_; have HO_8 := n0_; have BK230 := n1_; have HB := n2_; clear n0_ n1_ n2_)); have p34 : 0 ≤ (t232 : Int) := of_decide_eq_true (by first | (with_reducible assumption) | assumption); have q34 : t232 < (a0.size : Int) := of_decide_eq_true (by first | (with_reducible assumption) | assumption); have hx34 := bt_at a0 t232; replace p34 := eq_true p34; replace q34 := eq_true q34; have hcv37 := Hc_own_runes (P := Tryd.prog) Tryd.underlying44 Tryd.underlying21 Tryd.underlying9 (Kd.own_of_R HO_8.out); have hcz38_0 : wc.cell? ⟨gb230, 0, none⟩ = some (.string (⟨#[]⟩ : ByteArray)) := (blk_cell BK230.out 0).trans rfl; have hcz38_1 : wc.cell? ⟨gb230, 1, none⟩ = some (.int .i64 0) := (blk_cell BK230.out 1).trans rfl; have hcz38_2 : wc.cell? ⟨gb230, 2, none⟩ = some (.bool false) := (blk_cell BK230.out 2).trans rfl; have hfz38_0 := blk_frozen BK230.out 0; have hfz38_1 := blk_frozen BK230.out 1; have hfz38_2 := blk_frozen BK230.out 2))
             refine bodyPost_ret (results_cell_row rfl _ _ gb230 38 #[.string (Hc_text t233), .int .i64 t232, .bool true] (0, 0) _ rfl (by (with_reducible repeat (first | refine blk_drewN ?_ _ | refine blk_drew ?_ | refine blk_alloc ?_ _)); refine blk_put (cs := #[.string (Hc_text t233), .int .i64 t232, .bool false]) ?_ 2 _ rfl; (with_reducible repeat (first | refine blk_drewN ?_ _ | refine blk_drew ?_ | refine blk_alloc ?_ _)); refine blk_put (cs := #[.string (Hc_text t233), .int .i64 0, .bool false]) ?_ 1 _ rfl; (with_reducible repeat (first | refine blk_drewN ?_ _ | refine blk_drew ?_ | refine blk_alloc ?_ _)); refine blk_put (cs := #[.string (⟨#[]⟩ : ByteArray), .int .i64 0, .bool false]) ?_ 0 _ rfl; (with_reducible repeat (first | refine blk_drewN ?_ _ | refine blk_drew ?_ | refine blk_alloc ?_ _)); exact BK230.out) Tryd.underlying38 rfl (by kernel_rfl)) rfl ?_
             exact ⟨by first | rfl | (simp [errW_none, errW_some] <;> rfl) | (simp [*, errW_none, errW_some] <;> rfl), by repeat (first | (with_reducible first | exact HB.out | apply below_alloc | apply pw_below_drewN | apply below_drew1 | refine below_set ?_ GE230.out) | exact HB.out)⟩
          ·rw [if_neg c29] at H
           exact absurd H (by simp)
         ·rw [if_neg c28] at H
          exact absurd H (by simp)
       ·replace c22 := Bool.eq_false_iff.mpr c22
        subst c22
        have H1 : (some (Hc_text t233, t232, true)) = some (r1, r2, r3) := by rw [if_neg (show ¬ (false = true) by decide)] at H; exact H
        clear H
        have H := H1
        clear H1
        simp only [Option.some.injEq, Prod.mk.injEq] at H
        obtain ⟨rfl, rfl, rfl⟩ := H
        have hcv39 := Hc_own_runes (P := Tryd.prog) Tryd.underlying44 Tryd.underlying21 Tryd.underlying9 (Kd.own_of_R HO_8.out)
        have hcz40_0 : wc.cell? ⟨gb230, 0, none⟩ = some (.string (⟨#[]⟩ : ByteArray)) := (blk_cell BK230.out 0).trans rfl
        have hcz40_1 : wc.cell? ⟨gb230, 1, none⟩ = some (.int .i64 0) := (blk_cell BK230.out 1).trans rfl
        have hcz40_2 : wc.cell? ⟨gb230, 2, none⟩ = some (.bool false) := (blk_cell BK230.out 2).trans rfl
        have hfz40_0 := blk_frozen BK230.out 0
        have hfz40_1 := blk_frozen BK230.out 1
        have hfz40_2 := blk_frozen BK230.out 2
        go_wp2
        refine bodyPost_ret (results_cell_row rfl _ _ gb230 38 #[.string (Hc_text t233), .int .i64 t232, .bool true] (0, 0) _ rfl (by (with_reducible repeat (first | refine blk_drewN ?_ _ | refine blk_drew ?_ | refine blk_alloc ?_ _)); refine blk_put (cs := #[.string (Hc_text t233), .int .i64 t232, .bool false]) ?_ 2 _ rfl; (with_reducible repeat (first | refine blk_drewN ?_ _ | refine blk_drew ?_ | refine blk_alloc ?_ _)); refine blk_put (cs := #[.string (Hc_text t233), .int .i64 0, .bool false]) ?_ 1 _ rfl; (with_reducible repeat (first | refine blk_drewN ?_ _ | refine blk_drew ?_ | refine blk_alloc ?_ _)); refine blk_put (cs := #[.string (⟨#[]⟩ : ByteArray), .int .i64 0, .bool false]) ?_ 0 _ rfl; (with_reducible repeat (first | refine blk_drewN ?_ _ | refine blk_drew ?_ | refine blk_alloc ?_ _)); exact BK230.out) Tryd.underlying38 rfl (by kernel_rfl)) rfl ?_
        exact ⟨by first | rfl | (simp [errW_none, errW_some] <;> rfl) | (simp [*, errW_none, errW_some] <;> rfl), by repeat (first | (with_reducible first | exact HB.out | apply below_alloc | apply pw_below_drewN | apply below_drew1 | refine below_set ?_ GE230.out) | exact HB.out)⟩

-- NOT PRINTED: function 31 (entity_Name)

-- NOT PRINTED: function 15 (charref_Ascii)

end Go.Proofs.YthmbbkbmlnaghaaDoor.P
end
section
/-
  charref.numeric: what a numeric reference says: a label and a goto.
-/
namespace Go.Proofs.YthmbbkbmlnaghaaDoor.P
open Go.RowKit Go.Proofs.YthmbbkbmlnaghaaDoorW.PrintWords Go.Proofs.YthmbbkbmlnaghaaDoorW.PrintLast Go.Proofs.YthmbbkbmlnaghaaDoorW.PrintMore
set_option linter.unusedVariables false
set_option linter.unusedSimpArgs false

/-! ### plain -/
def digV (b : Nat) : Int := if 48 ≤ b ∧ b ≤ 57 then (b : Int) - 48 else if 97 ≤ b ∧ b ≤ 102 then (b : Int) - 87 else if 65 ≤ b ∧ b ≤ 70 then (b : Int) - 55 else -1
theorem digV_all : ∀ b : Fin 256, names_Value.f 9 (wrap32 ((b.val : Nat) : Int)) = some (digV b.val) := by decide +kernel
/-- is a byte a digit of a number? -/
def isDig (hex : Bool) (b : UInt8) : Bool := decide (0 ≤ digV b.toNat) && (hex || decide (digV b.toNat < 10))
/-- how many digits stand at the head -/
def nDig (hex : Bool) : List UInt8 → Nat
  | [] => 0
  | b :: t => if isDig hex b = true then nDig hex t + 1 else 0
theorem nDig_le (hex : Bool) : ∀ l : List UInt8, nDig hex l ≤ l.length
  | [] => Nat.le_refl _
  | b :: t => by
    unfold nDig
    have := nDig_le hex t
    split <;> simp only [List.length_cons] <;> omega
def numHex (s : ByteArray) : Bool := (bt s 1 == 120) || (bt s 1 == 88)
def numFrom (s : ByteArray) : Nat := if numHex s = true then 2 else 1
def numAt (s : ByteArray) : Nat := numFrom s + nDig (numHex s) (s.data.toList.drop (numFrom s))

def charref_numeric.f (k : Nat) (s : ByteArray) (e : Bool) : Option (ByteArray × Int × Bool) :=
  if s.size ≤ 35184372088831 ∧ 1 ≤ s.size then
    (if s.size = 1 then some ((⟨#[]⟩ : ByteArray), 0, e)
     else if numAt s = s.size ∧ e = false then some ((⟨#[]⟩ : ByteArray), 0, false)
     else if numAt s = numFrom s then some ((⟨#[]⟩ : ByteArray), 0, true)
     else (charref_Number.f k (s.extract (numFrom s) (numAt s)) (numHex s)).bind fun n =>
       some (Utf8.encode n.1, ((if numAt s < s.size ∧ bt s (numAt s : Nat) = 59 then numAt s + 1 else numAt s : Nat) : Int), true))
  else none
theorem charref_numeric.mono : ∀ s e k, LeO (charref_numeric.f k s e) (charref_numeric.f (k + 1) s e) := by
  intro s e k
  unfold charref_numeric.f
  repeat' first
      | (with_reducible exact charref_Number.mono _ _ _)
      | (with_reducible exact LeO.refl _)
      | (with_reducible exact LeO.none _)
      | (with_reducible refine LeO.ite ?_ ?_)
      | (with_reducible refine LeO.bind ?_ (fun _ => ?_))

theorem nDig_at (s : ByteArray) (hex : Bool) (p : Nat) (h : p < s.size) :
    p + nDig hex (s.data.toList.drop p) = if isDig hex (s.data.toList.getD p 0) = true then (p + 1) + nDig hex (s.data.toList.drop (p + 1)) else p := by
  have hl : p < s.data.toList.length := by simpa using h
  rw [List.drop_eq_getElem_cons hl]
  have : s.data.toList.getD p 0 = s.data.toList[p] := by rw [List.getD_eq_getElem?_getD, List.getElem?_eq_getElem hl]; rfl
  rw [this]
  show p + (if isDig hex s.data.toList[p] = true then nDig hex (s.data.toList.drop (p + 1)) + 1 else 0) = _
  split <;> omega
theorem bt_list (s : ByteArray) (p : Nat) (h : p < s.size) : bt s (p : Int) = ((s.data.toList.getD p 0).toNat : Int) := by
  have hl : p < s.data.toList.length := by simpa using h
  have : s.data.toList.getD p 0 = s.data.toList[p] := by rw [List.getD_eq_getElem?_getD, List.getElem?_eq_getElem hl]; rfl
  rw [this]
  unfold bt
  simp only [Int.toNat_natCast]
  rw [dif_pos h]
  rfl

/-! ### the walk -/
theorem scope_pass {P : Program} {a : Act} {w : World} {Q : Exit → Act → World → Prop} {c rest : Code} (l : Nat) (J : Act → World → Prop) (μ : Act → World → Nat) (hf : findLabel c l = some (Code.skip.seq rest))
    (pass : ∀ a w, J a w → rest.wp P (Exit.jump l (fun a' w' => J a' w' ∧ μ a' w' < μ a w) Q) a w)
    (first : (∀ a w, J a w → rest.wp P (Exit.jump l J Q) a w) → c.wp P (Exit.jump l J Q) a w) : (Code.scope c).wp P Q a w := by
  refine wp_scope_jumps l J μ hf (first fun a w hJ => wp_mono (pass a w hJ) ?_) (fun a w hJ => wp_seq (wp_skip (pass a w hJ)))
  intro e a' w' h
  cases e <;> first | exact h | exact ⟨h.1, h.2.1⟩
def numF (s : ByteArray) (e : Bool) (gb : Nat) (hex : Bool) (q : Nat) (u : Nat → Value) (p : Nat) : Act := { tmps := List.toArray (.string s :: .bool e :: u 2 :: u 3 :: .pointer (some ⟨gb, 0, none⟩) :: .int .i64 (p : Nat) :: .bool hex :: .int .i64 (q : Nat) :: u 8 :: u 9 :: u 10 :: u 11 :: u 12 :: u 13 :: u 14 :: u 15 :: u 16 :: u 17 :: u 18 :: u 19 :: u 20 :: u 21 :: u 22 :: u 23 :: u 24 :: u 25 :: u 26 :: u 27 :: u 28 :: u 29 :: u 30 :: u 31 :: u 32 :: u 33 :: u 34 :: u 35 :: u 36 :: u 37 :: u 38 :: u 39 :: u 40 :: u 41 :: u 42 :: u 43 :: u 44 :: u 45 :: u 46 :: u 47 :: u 48 :: u 49 :: u 50 :: u 51 :: u 52 :: u 53 :: u 54 :: u 55 :: u 56 :: u 57 :: u 58 :: u 59 :: u 60 :: u 61 :: u 62 :: u 63 :: u 64 :: u 65 :: u 66 :: u 67 :: u 68 :: u 69 :: u 70 :: u 71 :: u 72 :: u 73 :: u 74 :: u 75 :: u 76 :: u 77 :: u 78 :: u 79 :: u 80 :: u 81 :: u 82 :: u 83 :: u 84 :: u 85 :: u 86 :: u 87 :: []), defers := [] }
def numJ (s : ByteArray) (e : Bool) (gb : Nat) (w : World) (a : Act) (W : World) : Prop :=
  ∃ (p : Nat) (u : Nat → Value), a = numF s e gb (numHex s) (numFrom s) u p ∧ Aside0 (p ≤ s.size ∧ s.size ≠ 1) ∧ Aside0 (p + nDig (numHex s) (s.data.toList.drop p) = numAt s) ∧
    Aside0 (W.heap[gb]? = some (.cells #[.string (⟨#[]⟩ : ByteArray), .int .i64 0, .bool false] 38 (0, 0))) ∧ Aside0 (Below w.heap.size w W)
theorem numJ_of {s : ByteArray} {e : Bool} {gb : Nat} {w : World} {a : Act} {W : World} (p : Nat) (h : a = numF s e gb (numHex s) (numFrom s) (fun i => a.tmps.getD i undef) p) (h1 : p ≤ s.size ∧ s.size ≠ 1) (h2 : p + nDig (numHex s) (s.data.toList.drop p) = numAt s)
    (h3 : W.heap[gb]? = some (.cells #[.string (⟨#[]⟩ : ByteArray), .int .i64 0, .bool false] 38 (0, 0))) (h4 : Below w.heap.size w W) : numJ s e gb w a W :=
  ⟨p, _, h, ⟨h1⟩, ⟨h2⟩, ⟨h3⟩, ⟨h4⟩⟩
set_option maxRecDepth 100000 in
set_option maxHeartbeats 8000000 in
theorem charref_numeric.calls (k : Nat) (s : ByteArray) (e : Bool) (r1 : ByteArray) (r2 : Int) (r3 : Bool) (w : World) (h : charref_numeric.f k s e = some (r1, r2, r3)) :
    Calls Tryd.prog 40 #[.string s, .bool e] w fun e w' => e = .returned (.agg #[.string r1, .int .i64 r2, .bool r3]) ∧ Below w.heap.size w w' := by
  unfold charref_numeric.f at h
  by_cases hsz : s.size ≤ 35184372088831 ∧ 1 ≤ s.size
  case neg => rw [if_neg hsz] at h; cases h
  rw [if_pos hsz] at h
  obtain ⟨hs1, hs2⟩ := hsz
  have HH := Aside0.mk h
  clear h
  have hu60 := Tryd.underlying38
  have HB := Aside0.mk (Below.refl w.heap.size w)
  go_enter Tryd.func40, Tryd.ntmps40
  go_wp2_with (first | ((with_reducible refine gate_dst (N := 4) rfl ?_); refine box_event ?hg (N := 4) ?hd (cs := #[.string (⟨#[]⟩ : ByteArray), .int .i64 0, .bool false]) (t := 38) ?hr ?_; (case hd => rfl); (case hg => rfl); (case hr => first | (go_simp; done) | (go_simp; rfl)); intro gb hg w5 hbox hb; have n0_ := Aside0.mk (below_step (by repeat (first | (with_reducible first | exact HB.out | apply below_alloc | apply pw_below_drewN | apply below_drew1) | exact HB.out)) hb); have n1_ := Aside0.mk (hbox); have n2_ := Aside0.mk ((by rw [hg]; exact (below_size (by repeat (first | (with_reducible first | exact HB.out | apply below_alloc | apply pw_below_drewN | apply below_drew1) | exact HB.out))) : w.heap.size ≤ gb)); clear HB; have HB := n0_; have BK := n1_; have GW := n2_; clear n0_ n1_ n2_; clear hb hbox hg))
  refine scope_pass 0 (numJ s e gb w) (fun a _ => s.size - (intOf (a.tmps.getD 5 undef)).toNat) rfl ?pass ?first
  case pass =>
    rintro a W ⟨p, u, rfl, hp, hnd, BK', HB'⟩
    unfold numF
    refine wp_seq_k ?_
    intro K hK
    cases hh : numHex s with
    | true =>
      have HX := Aside0.mk hh
      clear hh
      go_cut [5] (fun v5 wc => v5 = .int .i64 (p : Nat) ∧ Aside0 (p = numAt s) ∧ Aside0 (wc.heap[gb]? = some (.cells #[.string (⟨#[]⟩ : ByteArray), .int .i64 0, .bool false] 38 (0, 0))) ∧ Aside0 (Below w.heap.size w wc))
      case first =>
        by_cases hlt : p < s.size
        · have hx0 : ∀ h : p < s.size, ((s[p]'h).toNat : Int) = bt s (p : Int) := bt_at s (p : Int)
          have hl1 : ((p : Int) < (s.size : Int)) = True := eq_true (by omega)
          have hl2 : ((0 : Int) ≤ (p : Int)) = True := eq_true (by omega)
          have hb := bt_list s p hlt
          have hnd1 := nDig_at s (numHex s) p hlt
          have hw1 : IntKind.i64.wrap ((p : Int) + 1) = ((p + 1 : Nat) : Int) := by rw [IntWalk.i64_in _ (by omega)]; omega
          have hval : names_Value.f 9 (wrap32 (bt s (p : Int))) = some (digV (s.data.toList.getD p 0).toNat) := by rw [hb]; exact digV_all ⟨_, UInt8.toNat_lt _⟩
          have hdig : isDig (numHex s) (s.data.toList.getD p 0) = (decide (0 ≤ digV (s.data.toList.getD p 0).toNat) && (numHex s || decide (digV (s.data.toList.getD p 0).toNat < 10))) := rfl
          generalize digV (s.data.toList.getD p 0).toNat = v at hval hdig
          have HVAL := Aside0.mk hval
          have HND1 := Aside0.mk hnd1
          have HDIG := Aside0.mk hdig
          clear hval hnd1 hdig hb
          by_cases cv : 0 ≤ v
          · have cv1 : decide (v ≥ 0) = true := decide_eq_true cv
            have cv2 : decide (0 ≤ v) = true := decide_eq_true cv
            have hd : isDig (numHex s) (s.data.toList.getD p 0) = true := by rw [HDIG.out, cv2, HX.out]; rfl
            have hpp := HND1.out
            rw [if_pos hd] at hpp
            have HPP := Aside0.mk hpp
            clear hpp hd
            go_wp2_with (go_at_call 17; refine (names_Value.calls 9 (wrap32 (bt s (p : Int))) v _ HVAL.out).mono ?_; rintro e1 w' ⟨rfl, ⟨nd, rfl⟩⟩)
            go_step3
            refine ⟨rfl, ?_, ?_⟩
            · refine numJ_of (p + 1) ?_ ⟨by omega, hp.out.2⟩ ?_ BK'.out (pw_below_drewN HB'.out nd)
              · rw [HX.out]
                rfl
              · rw [← hnd.out, HPP.out]
            · simp [intOf]
              omega
          · have cv1 : decide (v ≥ 0) = false := decide_eq_false cv
            have cv2 : decide (0 ≤ v) = false := decide_eq_false cv
            have hd : isDig (numHex s) (s.data.toList.getD p 0) = false := by rw [HDIG.out, cv2, Bool.false_and]
            have hpp := HND1.out
            rw [hd, if_neg (by decide), hnd.out] at hpp
            have HPE := Aside0.mk hpp.symm
            clear hpp hd
            go_wp2_with (go_at_call 17; refine (names_Value.calls 9 (wrap32 (bt s (p : Int))) v _ HVAL.out).mono ?_; rintro e1 w' ⟨rfl, ⟨nd, rfl⟩⟩)
            go_meet
            case rel => exact ⟨rfl, ⟨HPE.out⟩, ⟨BK'.out⟩, ⟨pw_below_drewN HB'.out nd⟩⟩
        · have hpe : p = s.size := by have := hp.out.1; omega
          have hpp := hnd.out
          rw [hpe, List.drop_eq_nil_of_le (by simp), nDig] at hpp
          have HPE := Aside0.mk ((hpe.trans hpp : p = numAt s))
          clear hpp hpe
          have hl1 : ((p : Int) < (s.size : Int)) = False := eq_false (by omega)
          go_wp2
          go_meet
          case rel => exact ⟨rfl, ⟨HPE.out⟩, BK', HB'⟩
      case rest =>
        obtain ⟨rfl, hpe, BK2, HB2⟩ := hcut
        have hpe := hpe.out
        have hp := hp.out
        subst hpe
        have HH' := HH.out
        rw [if_neg hp.2] at HH'
        clear HH
        refine hK _ _ ?_
        by_cases c1 : numAt s = s.size
        · have k1 : ((numAt s : Int) == (s.size : Int)) = true := beq_iff_eq.2 (by omega)
          have k3 : ((numAt s : Int) < (s.size : Int)) = False := eq_false (by omega)
          cases e with
          | false =>
            rw [if_pos ⟨c1, rfl⟩] at HH'
            simp only [Option.some.injEq, Prod.mk.injEq] at HH'
            obtain ⟨rfl, rfl, rfl⟩ := HH'
            clear c1
            have hcz0 : wc.cell? ⟨gb, 0, none⟩ = some (.string (⟨#[]⟩ : ByteArray)) := (blk_cell BK2.out 0).trans rfl
            have hcz1 : wc.cell? ⟨gb, 1, none⟩ = some (.int .i64 0) := (blk_cell BK2.out 1).trans rfl
            have hcz2 : wc.cell? ⟨gb, 2, none⟩ = some (.bool false) := (blk_cell BK2.out 2).trans rfl
            have hfz0 := blk_frozen BK2.out 0
            have hfz1 := blk_frozen BK2.out 1
            have hfz2 := blk_frozen BK2.out 2
            go_wp2
            (try simp only [Exit.jump])
            refine bodyPost_ret (results_cell_row rfl _ _ gb 38 #[.string (⟨#[]⟩ : ByteArray), .int .i64 0, .bool false] (0, 0) _ rfl (by (with_reducible repeat (first | refine blk_drewN ?_ _ | refine blk_drew ?_ | refine blk_alloc ?_ _)); refine blk_put (cs := #[.string (⟨#[]⟩ : ByteArray), .int .i64 0, .bool false]) ?_ 2 _ rfl; (with_reducible repeat (first | refine blk_drewN ?_ _ | refine blk_drew ?_ | refine blk_alloc ?_ _)); refine blk_put (cs := #[.string (⟨#[]⟩ : ByteArray), .int .i64 0, .bool false]) ?_ 1 _ rfl; (with_reducible repeat (first | refine blk_drewN ?_ _ | refine blk_drew ?_ | refine blk_alloc ?_ _)); refine blk_put (cs := #[.string (⟨#[]⟩ : ByteArray), .int .i64 0, .bool false]) ?_ 0 _ rfl; (with_reducible repeat (first | refine blk_drewN ?_ _ | refine blk_drew ?_ | refine blk_alloc ?_ _)); exact BK2.out) Tryd.underlying38 rfl (by kernel_rfl)) rfl ?_
            exact ⟨rfl, by repeat (first | (with_reducible first | exact HB2.out | apply below_alloc | apply pw_below_drewN | apply below_drew1 | refine below_set ?_ GW.out) | exact HB2.out)⟩
          | true =>
            rw [if_neg (by rintro ⟨_, h⟩; cases h)] at HH'
            by_cases c2 : numAt s = numFrom s
            · have k4 : ((numAt s : Int) == (numFrom s : Int)) = true := beq_iff_eq.2 (by omega)
              rw [if_pos c2] at HH'
              simp only [Option.some.injEq, Prod.mk.injEq] at HH'
              obtain ⟨rfl, rfl, rfl⟩ := HH'
              clear c2
              have hcz0 : wc.cell? ⟨gb, 0, none⟩ = some (.string (⟨#[]⟩ : ByteArray)) := (blk_cell BK2.out 0).trans rfl
              have hcz1 : wc.cell? ⟨gb, 1, none⟩ = some (.int .i64 0) := (blk_cell BK2.out 1).trans rfl
              have hcz2 : wc.cell? ⟨gb, 2, none⟩ = some (.bool false) := (blk_cell BK2.out 2).trans rfl
              have hfz0 := blk_frozen BK2.out 0
              have hfz1 := blk_frozen BK2.out 1
              have hfz2 := blk_frozen BK2.out 2
              go_wp2
              (try simp only [Exit.jump])
              refine bodyPost_ret (results_cell_row rfl _ _ gb 38 #[.string (⟨#[]⟩ : ByteArray), .int .i64 0, .bool true] (0, 0) _ rfl (by (with_reducible repeat (first | refine blk_drewN ?_ _ | refine blk_drew ?_ | refine blk_alloc ?_ _)); refine blk_put (cs := #[.string (⟨#[]⟩ : ByteArray), .int .i64 0, .bool false]) ?_ 2 _ rfl; (with_reducible repeat (first | refine blk_drewN ?_ _ | refine blk_drew ?_ | refine blk_alloc ?_ _)); refine blk_put (cs := #[.string (⟨#[]⟩ : ByteArray), .int .i64 0, .bool false]) ?_ 1 _ rfl; (with_reducible repeat (first | refine blk_drewN ?_ _ | refine blk_drew ?_ | refine blk_alloc ?_ _)); refine blk_put (cs := #[.string (⟨#[]⟩ : ByteArray), .int .i64 0, .bool false]) ?_ 0 _ rfl; (with_reducible repeat (first | refine blk_drewN ?_ _ | refine blk_drew ?_ | refine blk_alloc ?_ _)); exact BK2.out) Tryd.underlying38 rfl (by kernel_rfl)) rfl ?_
              exact ⟨rfl, by repeat (first | (with_reducible first | exact HB2.out | apply below_alloc | apply pw_below_drewN | apply below_drew1 | refine below_set ?_ GW.out) | exact HB2.out)⟩
            · have k4 : ((numAt s : Int) == (numFrom s : Int)) = false := beq_eq_false_iff_ne.2 (by omega)
              rw [if_neg c2, HX.out] at HH'
              obtain ⟨⟨n1, n2⟩, hN, heq⟩ := Option.bind_eq_some_iff.1 HH'
              clear HH' c2
              have HN := Aside0.mk hN
              clear hN
              simp only [Option.some.injEq, Prod.mk.injEq] at heq
              obtain ⟨rfl, he2, rfl⟩ := heq
              have hfa : numFrom s ≤ numAt s := by unfold numAt; omega
              have j1 : ((0 : Int) ≤ (numFrom s : Int)) = True := eq_true (by omega)
              have j2 : ((numFrom s : Int) ≤ (numAt s : Int)) = True := eq_true (by omega)
              have j3 : ((numAt s : Int) ≤ (s.size : Int)) = True := eq_true (by omega)
              have hat : ((if numAt s < s.size ∧ bt s (numAt s : Nat) = 59 then numAt s + 1 else numAt s : Nat) : Int) = (numAt s : Int) := by rw [if_neg (fun h => absurd h.1 (by omega))]
              rw [hat] at he2
              subst he2
              clear hat c1
              go_wp2_with (go_at_call 7; refine (charref_Number.calls k (s.extract (numFrom s) (numAt s)) true n1 n2 _ HN.out).mono ?_; rintro e1 w7 ⟨rfl, hb⟩; have BK3 := Aside0.mk (blk_below (g := gb) (o := .cells #[.string (⟨#[]⟩ : ByteArray), .int .i64 0, .bool false] 38 (0, 0)) BK2.out hb); have HB3 := Aside0.mk (below_step HB2.out hb); clear hb; have hcz0 : w7.cell? ⟨gb, 0, none⟩ = some (.string (⟨#[]⟩ : ByteArray)) := (blk_cell BK3.out 0).trans rfl; have hcz1 : w7.cell? ⟨gb, 1, none⟩ = some (.int .i64 0) := (blk_cell BK3.out 1).trans rfl; have hcz2 : w7.cell? ⟨gb, 2, none⟩ = some (.bool false) := (blk_cell BK3.out 2).trans rfl; have hfz0 := blk_frozen BK3.out 0; have hfz1 := blk_frozen BK3.out 1; have hfz2 := blk_frozen BK3.out 2)
              (try simp only [Exit.jump])
              refine bodyPost_ret (results_cell_row rfl _ _ gb 38 #[.string (Utf8.encode n1), .int .i64 ((numAt s : Nat) : Int), .bool true] (0, 0) _ rfl (by (with_reducible repeat (first | refine blk_drewN ?_ _ | refine blk_drew ?_ | refine blk_alloc ?_ _)); refine blk_put (cs := #[.string (Utf8.encode n1), .int .i64 ((numAt s : Nat) : Int), .bool false]) ?_ 2 _ rfl; (with_reducible repeat (first | refine blk_drewN ?_ _ | refine blk_drew ?_ | refine blk_alloc ?_ _)); refine blk_put (cs := #[.string (Utf8.encode n1), .int .i64 0, .bool false]) ?_ 1 _ rfl; (with_reducible repeat (first | refine blk_drewN ?_ _ | refine blk_drew ?_ | refine blk_alloc ?_ _)); refine blk_put (cs := #[.string (⟨#[]⟩ : ByteArray), .int .i64 0, .bool false]) ?_ 0 _ rfl; (with_reducible repeat (first | refine blk_drewN ?_ _ | refine blk_drew ?_ | refine blk_alloc ?_ _)); exact BK3.out) Tryd.underlying38 rfl (by kernel_rfl)) rfl ?_
              exact ⟨rfl, by repeat (first | (with_reducible first | exact HB3.out | apply below_alloc | apply pw_below_drewN | apply below_drew1 | refine below_set ?_ GW.out) | exact HB3.out)⟩
        · have k1 : ((numAt s : Int) == (s.size : Int)) = false := beq_eq_false_iff_ne.2 (by omega)
          have k3 : ((numAt s : Int) < (s.size : Int)) = True := eq_true (by omega)
          have k3' : (numAt s < s.size) = True := eq_true (by omega)
          rw [if_neg (fun h => c1 h.1)] at HH'
          by_cases c2 : numAt s = numFrom s
          · have k4 : ((numAt s : Int) == (numFrom s : Int)) = true := beq_iff_eq.2 (by omega)
            rw [if_pos c2] at HH'
            simp only [Option.some.injEq, Prod.mk.injEq] at HH'
            obtain ⟨rfl, rfl, rfl⟩ := HH'
            clear c2
            have hcz0 : wc.cell? ⟨gb, 0, none⟩ = some (.string (⟨#[]⟩ : ByteArray)) := (blk_cell BK2.out 0).trans rfl
            have hcz1 : wc.cell? ⟨gb, 1, none⟩ = some (.int .i64 0) := (blk_cell BK2.out 1).trans rfl
            have hcz2 : wc.cell? ⟨gb, 2, none⟩ = some (.bool false) := (blk_cell BK2.out 2).trans rfl
            have hfz0 := blk_frozen BK2.out 0
            have hfz1 := blk_frozen BK2.out 1
            have hfz2 := blk_frozen BK2.out 2
            go_wp2
            (try simp only [Exit.jump])
            refine bodyPost_ret (results_cell_row rfl _ _ gb 38 #[.string (⟨#[]⟩ : ByteArray), .int .i64 0, .bool true] (0, 0) _ rfl (by (with_reducible repeat (first | refine blk_drewN ?_ _ | refine blk_drew ?_ | refine blk_alloc ?_ _)); refine blk_put (cs := #[.string (⟨#[]⟩ : ByteArray), .int .i64 0, .bool false]) ?_ 2 _ rfl; (with_reducible repeat (first | refine blk_drewN ?_ _ | refine blk_drew ?_ | refine blk_alloc ?_ _)); refine blk_put (cs := #[.string (⟨#[]⟩ : ByteArray), .int .i64 0, .bool false]) ?_ 1 _ rfl; (with_reducible repeat (first | refine blk_drewN ?_ _ | refine blk_drew ?_ | refine blk_alloc ?_ _)); refine blk_put (cs := #[.string (⟨#[]⟩ : ByteArray), .int .i64 0, .bool false]) ?_ 0 _ rfl; (with_reducible repeat (first | refine blk_drewN ?_ _ | refine blk_drew ?_ | refine blk_alloc ?_ _)); exact BK2.out) Tryd.underlying38 rfl (by kernel_rfl)) rfl ?_
            exact ⟨rfl, by repeat (first | (with_reducible first | exact HB2.out | apply below_alloc | apply pw_below_drewN | apply below_drew1 | refine below_set ?_ GW.out) | exact HB2.out)⟩
          · have k4 : ((numAt s : Int) == (numFrom s : Int)) = false := beq_eq_false_iff_ne.2 (by omega)
            rw [if_neg c2, HX.out] at HH'
            obtain ⟨⟨n1, n2⟩, hN, heq⟩ := Option.bind_eq_some_iff.1 HH'
            clear HH' c2
            have HN := Aside0.mk hN
            clear hN
            simp only [Option.some.injEq, Prod.mk.injEq] at heq
            obtain ⟨rfl, he2, rfl⟩ := heq
            have hfa : numFrom s ≤ numAt s := by unfold numAt; omega
            have j1 : ((0 : Int) ≤ (numFrom s : Int)) = True := eq_true (by omega)
            have j2 : ((numFrom s : Int) ≤ (numAt s : Int)) = True := eq_true (by omega)
            have j3 : ((numAt s : Int) ≤ (s.size : Int)) = True := eq_true (by omega)
            have hx0 : ∀ h : numAt s < s.size, ((s[numAt s]'h).toNat : Int) = bt s (numAt s : Int) := bt_at s (numAt s : Int)
            have j4 : ((0 : Int) ≤ (numAt s : Int)) = True := eq_true (by omega)
            have hw2 : IntKind.i64.wrap ((numAt s : Int) + 1) = (numAt s : Int) + 1 := IntWalk.i64_in _ (by omega)
            by_cases c4 : bt s (numAt s : Int) = 59
            · have k5 : (bt s (numAt s : Int) == 59) = true := beq_iff_eq.2 c4
              have hat : ((if numAt s < s.size ∧ bt s (numAt s : Nat) = 59 then numAt s + 1 else numAt s : Nat) : Int) = (numAt s : Int) + 1 := by rw [if_pos ⟨by omega, c4⟩]; omega
              rw [hat] at he2
              subst he2
              clear hat
              go_wp2_with (go_at_call 7; refine (charref_Number.calls k (s.extract (numFrom s) (numAt s)) true n1 n2 _ HN.out).mono ?_; rintro e1 w7 ⟨rfl, hb⟩; have BK3 := Aside0.mk (blk_below (g := gb) (o := .cells #[.string (⟨#[]⟩ : ByteArray), .int .i64 0, .bool false] 38 (0, 0)) BK2.out hb); have HB3 := Aside0.mk (below_step HB2.out hb); clear hb; have hcz0 : w7.cell? ⟨gb, 0, none⟩ = some (.string (⟨#[]⟩ : ByteArray)) := (blk_cell BK3.out 0).trans rfl; have hcz1 : w7.cell? ⟨gb, 1, none⟩ = some (.int .i64 0) := (blk_cell BK3.out 1).trans rfl; have hcz2 : w7.cell? ⟨gb, 2, none⟩ = some (.bool false) := (blk_cell BK3.out 2).trans rfl; have hfz0 := blk_frozen BK3.out 0; have hfz1 := blk_frozen BK3.out 1; have hfz2 := blk_frozen BK3.out 2)
              (try simp only [Exit.jump])
              refine bodyPost_ret (results_cell_row rfl _ _ gb 38 #[.string (Utf8.encode n1), .int .i64 ((numAt s : Int) + 1), .bool true] (0, 0) _ rfl (by (with_reducible repeat (first | refine blk_drewN ?_ _ | refine blk_drew ?_ | refine blk_alloc ?_ _)); refine blk_put (cs := #[.string (Utf8.encode n1), .int .i64 ((numAt s : Int) + 1), .bool false]) ?_ 2 _ rfl; (with_reducible repeat (first | refine blk_drewN ?_ _ | refine blk_drew ?_ | refine blk_alloc ?_ _)); refine blk_put (cs := #[.string (Utf8.encode n1), .int .i64 0, .bool false]) ?_ 1 _ rfl; (with_reducible repeat (first | refine blk_drewN ?_ _ | refine blk_drew ?_ | refine blk_alloc ?_ _)); refine blk_put (cs := #[.string (⟨#[]⟩ : ByteArray), .int .i64 0, .bool false]) ?_ 0 _ rfl; (with_reducible repeat (first | refine blk_drewN ?_ _ | refine blk_drew ?_ | refine blk_alloc ?_ _)); exact BK3.out) Tryd.underlying38 rfl (by kernel_rfl)) rfl ?_
              exact ⟨rfl, by repeat (first | (with_reducible first | exact HB3.out | apply below_alloc | apply pw_below_drewN | apply below_drew1 | refine below_set ?_ GW.out) | exact HB3.out)⟩
            · have k5 : (bt s (numAt s : Int) == 59) = false := beq_eq_false_iff_ne.2 c4
              have hat : ((if numAt s < s.size ∧ bt s (numAt s : Nat) = 59 then numAt s + 1 else numAt s : Nat) : Int) = (numAt s : Int) := by rw [if_neg (fun h => c4 h.2)]
              rw [hat] at he2
              subst he2
              clear hat
              go_wp2_with (go_at_call 7; refine (charref_Number.calls k (s.extract (numFrom s) (numAt s)) true n1 n2 _ HN.out).mono ?_; rintro e1 w7 ⟨rfl, hb⟩; have BK3 := Aside0.mk (blk_below (g := gb) (o := .cells #[.string (⟨#[]⟩ : ByteArray), .int .i64 0, .bool false] 38 (0, 0)) BK2.out hb); have HB3 := Aside0.mk (below_step HB2.out hb); clear hb; have hcz0 : w7.cell? ⟨gb, 0, none⟩ = some (.string (⟨#[]⟩ : ByteArray)) := (blk_cell BK3.out 0).trans rfl; have hcz1 : w7.cell? ⟨gb, 1, none⟩ = some (.int .i64 0) := (blk_cell BK3.out 1).trans rfl; have hcz2 : w7.cell? ⟨gb, 2, none⟩ = some (.bool false) := (blk_cell BK3.out 2).trans rfl; have hfz0 := blk_frozen BK3.out 0; have hfz1 := blk_frozen BK3.out 1; have hfz2 := blk_frozen BK3.out 2)
              (try simp only [Exit.jump])
              refine bodyPost_ret (results_cell_row rfl _ _ gb 38 #[.string (Utf8.encode n1), .int .i64 ((numAt s : Nat) : Int), .bool true] (0, 0) _ rfl (by (with_reducible repeat (first | refine blk_drewN ?_ _ | refine blk_drew ?_ | refine blk_alloc ?_ _)); refine blk_put (cs := #[.string (Utf8.encode n1), .int .i64 ((numAt s : Nat) : Int), .bool false]) ?_ 2 _ rfl; (with_reducible repeat (first | refine blk_drewN ?_ _ | refine blk_drew ?_ | refine blk_alloc ?_ _)); refine blk_put (cs := #[.string (Utf8.encode n1), .int .i64 0, .bool false]) ?_ 1 _ rfl; (with_reducible repeat (first | refine blk_drewN ?_ _ | refine blk_drew ?_ | refine blk_alloc ?_ _)); refine blk_put (cs := #[.string (⟨#[]⟩ : ByteArray), .int .i64 0, .bool false]) ?_ 0 _ rfl; (with_reducible repeat (first | refine blk_drewN ?_ _ | refine blk_drew ?_ | refine blk_alloc ?_ _)); exact BK3.out) Tryd.underlying38 rfl (by kernel_rfl)) rfl ?_
              exact ⟨rfl, by repeat (first | (with_reducible first | exact HB3.out | apply below_alloc | apply pw_below_drewN | apply below_drew1 | refine below_set ?_ GW.out) | exact HB3.out)⟩
    | false =>
      have HX := Aside0.mk hh
      clear hh
      go_cut [5] (fun v5 wc => v5 = .int .i64 (p : Nat) ∧ Aside0 (p = numAt s) ∧ Aside0 (wc.heap[gb]? = some (.cells #[.string (⟨#[]⟩ : ByteArray), .int .i64 0, .bool false] 38 (0, 0))) ∧ Aside0 (Below w.heap.size w wc))
      case first =>
        by_cases hlt : p < s.size
        · have hx0 : ∀ h : p < s.size, ((s[p]'h).toNat : Int) = bt s (p : Int) := bt_at s (p : Int)
          have hl1 : ((p : Int) < (s.size : Int)) = True := eq_true (by omega)
          have hl2 : ((0 : Int) ≤ (p : Int)) = True := eq_true (by omega)
          have hb := bt_list s p hlt
          have hnd1 := nDig_at s (numHex s) p hlt
          have hw1 : IntKind.i64.wrap ((p : Int) + 1) = ((p + 1 : Nat) : Int) := by rw [IntWalk.i64_in _ (by omega)]; omega
          have hval : names_Value.f 9 (wrap32 (bt s (p : Int))) = some (digV (s.data.toList.getD p 0).toNat) := by rw [hb]; exact digV_all ⟨_, UInt8.toNat_lt _⟩
          have hdig : isDig (numHex s) (s.data.toList.getD p 0) = (decide (0 ≤ digV (s.data.toList.getD p 0).toNat) && (numHex s || decide (digV (s.data.toList.getD p 0).toNat < 10))) := rfl
          generalize digV (s.data.toList.getD p 0).toNat = v at hval hdig
          have HVAL := Aside0.mk hval
          have HND1 := Aside0.mk hnd1
          have HDIG := Aside0.mk hdig
          clear hval hnd1 hdig hb
          by_cases cv : 0 ≤ v
          · have cv1 : decide (v ≥ 0) = true := decide_eq_true cv
            have cv2 : decide (0 ≤ v) = true := decide_eq_true cv
            by_cases cx : v < 10
            · have cx1 : decide (v < 10) = true := decide_eq_true cx
              have hd : isDig (numHex s) (s.data.toList.getD p 0) = true := by rw [HDIG.out, cv2, HX.out, cx1]; rfl
              have hpp := HND1.out
              rw [if_pos hd] at hpp
              have HPP := Aside0.mk hpp
              clear hpp hd
              go_wp2_with (go_at_call 17; refine (names_Value.calls 9 (wrap32 (bt s (p : Int))) v _ HVAL.out).mono ?_; rintro e1 w' ⟨rfl, ⟨nd, rfl⟩⟩)
              go_step3
              refine ⟨rfl, ?_, ?_⟩
              · refine numJ_of (p + 1) ?_ ⟨by omega, hp.out.2⟩ ?_ BK'.out (pw_below_drewN HB'.out nd)
                · rw [HX.out]
                  rfl
                · rw [← hnd.out, HPP.out]
              · simp [intOf]
                omega
            · have cx1 : decide (v < 10) = false := decide_eq_false cx
              have hd : isDig (numHex s) (s.data.toList.getD p 0) = false := by rw [HDIG.out, cv2, HX.out, cx1]; rfl
              have hpp := HND1.out
              rw [hd, if_neg (by decide), hnd.out] at hpp
              have HPE := Aside0.mk hpp.symm
              clear hpp hd
              go_wp2_with (go_at_call 17; refine (names_Value.calls 9 (wrap32 (bt s (p : Int))) v _ HVAL.out).mono ?_; rintro e1 w' ⟨rfl, ⟨nd, rfl⟩⟩)
              go_meet
              case rel => exact ⟨rfl, ⟨HPE.out⟩, ⟨BK'.out⟩, ⟨pw_below_drewN HB'.out nd⟩⟩
          · have cv1 : decide (v ≥ 0) = false := decide_eq_false cv
            have cv2 : decide (0 ≤ v) = false := decide_eq_false cv
            have hd : isDig (numHex s) (s.data.toList.getD p 0) = false := by rw [HDIG.out, cv2, Bool.false_and]
            have hpp := HND1.out
            rw [hd, if_neg (by decide), hnd.out] at hpp
            have HPE := Aside0.mk hpp.symm
            clear hpp hd
            go_wp2_with (go_at_call 17; refine (names_Value.calls 9 (wrap32 (bt s (p : Int))) v _ HVAL.out).mono ?_; rintro e1 w' ⟨rfl, ⟨nd, rfl⟩⟩)
            go_meet
            case rel => exact ⟨rfl, ⟨HPE.out⟩, ⟨BK'.out⟩, ⟨pw_below_drewN HB'.out nd⟩⟩
        · have hpe : p = s.size := by have := hp.out.1; omega
          have hpp := hnd.out
          rw [hpe, List.drop_eq_nil_of_le (by simp), nDig] at hpp
          have HPE := Aside0.mk ((hpe.trans hpp : p = numAt s))
          clear hpp hpe
          have hl1 : ((p : Int) < (s.size : Int)) = False := eq_false (by omega)
          go_wp2
          go_meet
          case rel => exact ⟨rfl, ⟨HPE.out⟩, BK', HB'⟩
      case rest =>
        obtain ⟨rfl, hpe, BK2, HB2⟩ := hcut
        have hpe := hpe.out
        have hp := hp.out
        subst hpe
        have HH' := HH.out
        rw [if_neg hp.2] at HH'
        clear HH
        refine hK _ _ ?_
        by_cases c1 : numAt s = s.size
        · have k1 : ((numAt s : Int) == (s.size : Int)) = true := beq_iff_eq.2 (by omega)
          have k3 : ((numAt s : Int) < (s.size : Int)) = False := eq_false (by omega)
          cases e with
          | false =>
            rw [if_pos ⟨c1, rfl⟩] at HH'
            simp only [Option.some.injEq, Prod.mk.injEq] at HH'
            obtain ⟨rfl, rfl, rfl⟩ := HH'
            clear c1
            have hcz0 : wc.cell? ⟨gb, 0, none⟩ = some (.string (⟨#[]⟩ : ByteArray)) := (blk_cell BK2.out 0).trans rfl
            have hcz1 : wc.cell? ⟨gb, 1, none⟩ = some (.int .i64 0) := (blk_cell BK2.out 1).trans rfl
            have hcz2 : wc.cell? ⟨gb, 2, none⟩ = some (.bool false) := (blk_cell BK2.out 2).trans rfl
            have hfz0 := blk_frozen BK2.out 0
            have hfz1 := blk_frozen BK2.out 1
            have hfz2 := blk_frozen BK2.out 2
            go_wp2
            (try simp only [Exit.jump])
            refine bodyPost_ret (results_cell_row rfl _ _ gb 38 #[.string (⟨#[]⟩ : ByteArray), .int .i64 0, .bool false] (0, 0) _ rfl (by (with_reducible repeat (first | refine blk_drewN ?_ _ | refine blk_drew ?_ | refine blk_alloc ?_ _)); refine blk_put (cs := #[.string (⟨#[]⟩ : ByteArray), .int .i64 0, .bool false]) ?_ 2 _ rfl; (with_reducible repeat (first | refine blk_drewN ?_ _ | refine blk_drew ?_ | refine blk_alloc ?_ _)); refine blk_put (cs := #[.string (⟨#[]⟩ : ByteArray), .int .i64 0, .bool false]) ?_ 1 _ rfl; (with_reducible repeat (first | refine blk_drewN ?_ _ | refine blk_drew ?_ | refine blk_alloc ?_ _)); refine blk_put (cs := #[.string (⟨#[]⟩ : ByteArray), .int .i64 0, .bool false]) ?_ 0 _ rfl; (with_reducible repeat (first | refine blk_drewN ?_ _ | refine blk_drew ?_ | refine blk_alloc ?_ _)); exact BK2.out) Tryd.underlying38 rfl (by kernel_rfl)) rfl ?_
            exact ⟨rfl, by repeat (first | (with_reducible first | exact HB2.out | apply below_alloc | apply pw_below_drewN | apply below_drew1 | refine below_set ?_ GW.out) | exact HB2.out)⟩
          | true =>
            rw [if_neg (by rintro ⟨_, h⟩; cases h)] at HH'
            by_cases c2 : numAt s = numFrom s
            · have k4 : ((numAt s : Int) == (numFrom s : Int)) = true := beq_iff_eq.2 (by omega)
              rw [if_pos c2] at HH'
              simp only [Option.some.injEq, Prod.mk.injEq] at HH'
              obtain ⟨rfl, rfl, rfl⟩ := HH'
              clear c2
              have hcz0 : wc.cell? ⟨gb, 0, none⟩ = some (.string (⟨#[]⟩ : ByteArray)) := (blk_cell BK2.out 0).trans rfl
              have hcz1 : wc.cell? ⟨gb, 1, none⟩ = some (.int .i64 0) := (blk_cell BK2.out 1).trans rfl
              have hcz2 : wc.cell? ⟨gb, 2, none⟩ = some (.bool false) := (blk_cell BK2.out 2).trans rfl
              have hfz0 := blk_frozen BK2.out 0
              have hfz1 := blk_frozen BK2.out 1
              have hfz2 := blk_frozen BK2.out 2
              go_wp2
              (try simp only [Exit.jump])
              refine bodyPost_ret (results_cell_row rfl _ _ gb 38 #[.string (⟨#[]⟩ : ByteArray), .int .i64 0, .bool true] (0, 0) _ rfl (by (with_reducible repeat (first | refine blk_drewN ?_ _ | refine blk_drew ?_ | refine blk_alloc ?_ _)); refine blk_put (cs := #[.string (⟨#[]⟩ : ByteArray), .int .i64 0, .bool false]) ?_ 2 _ rfl; (with_reducible repeat (first | refine blk_drewN ?_ _ | refine blk_drew ?_ | refine blk_alloc ?_ _)); refine blk_put (cs := #[.string (⟨#[]⟩ : ByteArray), .int .i64 0, .bool false]) ?_ 1 _ rfl; (with_reducible repeat (first | refine blk_drewN ?_ _ | refine blk_drew ?_ | refine blk_alloc ?_ _)); refine blk_put (cs := #[.string (⟨#[]⟩ : ByteArray), .int .i64 0, .bool false]) ?_ 0 _ rfl; (with_reducible repeat (first | refine blk_drewN ?_ _ | refine blk_drew ?_ | refine blk_alloc ?_ _)); exact BK2.out) Tryd.underlying38 rfl (by kernel_rfl)) rfl ?_
              exact ⟨rfl, by repeat (first | (with_reducible first | exact HB2.out | apply below_alloc | apply pw_below_drewN | apply below_drew1 | refine below_set ?_ GW.out) | exact HB2.out)⟩
            · have k4 : ((numAt s : Int) == (numFrom s : Int)) = false := beq_eq_false_iff_ne.2 (by omega)
              rw [if_neg c2, HX.out] at HH'
              obtain ⟨⟨n1, n2⟩, hN, heq⟩ := Option.bind_eq_some_iff.1 HH'
              clear HH' c2
              have HN := Aside0.mk hN
              clear hN
              simp only [Option.some.injEq, Prod.mk.injEq] at heq
              obtain ⟨rfl, he2, rfl⟩ := heq
              have hfa : numFrom s ≤ numAt s := by unfold numAt; omega
              have j1 : ((0 : Int) ≤ (numFrom s : Int)) = True := eq_true (by omega)
              have j2 : ((numFrom s : Int) ≤ (numAt s : Int)) = True := eq_true (by omega)
              have j3 : ((numAt s : Int) ≤ (s.size : Int)) = True := eq_true (by omega)
              have hat : ((if numAt s < s.size ∧ bt s (numAt s : Nat) = 59 then numAt s + 1 else numAt s : Nat) : Int) = (numAt s : Int) := by rw [if_neg (fun h => absurd h.1 (by omega))]
              rw [hat] at he2
              subst he2
              clear hat c1
              go_wp2_with (go_at_call 7; refine (charref_Number.calls k (s.extract (numFrom s) (numAt s)) false n1 n2 _ HN.out).mono ?_; rintro e1 w7 ⟨rfl, hb⟩; have BK3 := Aside0.mk (blk_below (g := gb) (o := .cells #[.string (⟨#[]⟩ : ByteArray), .int .i64 0, .bool false] 38 (0, 0)) BK2.out hb); have HB3 := Aside0.mk (below_step HB2.out hb); clear hb; have hcz0 : w7.cell? ⟨gb, 0, none⟩ = some (.string (⟨#[]⟩ : ByteArray)) := (blk_cell BK3.out 0).trans rfl; have hcz1 : w7.cell? ⟨gb, 1, none⟩ = some (.int .i64 0) := (blk_cell BK3.out 1).trans rfl; have hcz2 : w7.cell? ⟨gb, 2, none⟩ = some (.bool false) := (blk_cell BK3.out 2).trans rfl; have hfz0 := blk_frozen BK3.out 0; have hfz1 := blk_frozen BK3.out 1; have hfz2 := blk_frozen BK3.out 2)
              (try simp only [Exit.jump])
              refine bodyPost_ret (results_cell_row rfl _ _ gb 38 #[.string (Utf8.encode n1), .int .i64 ((numAt s : Nat) : Int), .bool true] (0, 0) _ rfl (by (with_reducible repeat (first | refine blk_drewN ?_ _ | refine blk_drew ?_ | refine blk_alloc ?_ _)); refine blk_put (cs := #[.string (Utf8.encode n1), .int .i64 ((numAt s : Nat) : Int), .bool false]) ?_ 2 _ rfl; (with_reducible repeat (first | refine blk_drewN ?_ _ | refine blk_drew ?_ | refine blk_alloc ?_ _)); refine blk_put (cs := #[.string (Utf8.encode n1), .int .i64 0, .bool false]) ?_ 1 _ rfl; (with_reducible repeat (first | refine blk_drewN ?_ _ | refine blk_drew ?_ | refine blk_alloc ?_ _)); refine blk_put (cs := #[.string (⟨#[]⟩ : ByteArray), .int .i64 0, .bool false]) ?_ 0 _ rfl; (with_reducible repeat (first | refine blk_drewN ?_ _ | refine blk_drew ?_ | refine blk_alloc ?_ _)); exact BK3.out) Tryd.underlying38 rfl (by kernel_rfl)) rfl ?_
              exact ⟨rfl, by repeat (first | (with_reducible first | exact HB3.out | apply below_alloc | apply pw_below_drewN | apply below_drew1 | refine below_set ?_ GW.out) | exact HB3.out)⟩
        · have k1 : ((numAt s : Int) == (s.size : Int)) = false := beq_eq_false_iff_ne.2 (by omega)
          have k3 : ((numAt s : Int) < (s.size : Int)) = True := eq_true (by omega)
          have k3' : (numAt s < s.size) = True := eq_true (by omega)
          rw [if_neg (fun h => c1 h.1)] at HH'
          by_cases c2 : numAt s = numFrom s
          · have k4 : ((numAt s : Int) == (numFrom s : Int)) = true := beq_iff_eq.2 (by omega)
            rw [if_pos c2] at HH'
            simp only [Option.some.injEq, Prod.mk.injEq] at HH'
            obtain ⟨rfl, rfl, rfl⟩ := HH'
            clear c2
            have hcz0 : wc.cell? ⟨gb, 0, none⟩ = some (.string (⟨#[]⟩ : ByteArray)) := (blk_cell BK2.out 0).trans rfl
            have hcz1 : wc.cell? ⟨gb, 1, none⟩ = some (.int .i64 0) := (blk_cell BK2.out 1).trans rfl
            have hcz2 : wc.cell? ⟨gb, 2, none⟩ = some (.bool false) := (blk_cell BK2.out 2).trans rfl
            have hfz0 := blk_frozen BK2.out 0
            have hfz1 := blk_frozen BK2.out 1
            have hfz2 := blk_frozen BK2.out 2
            go_wp2
            (try simp only [Exit.jump])
            refine bodyPost_ret (results_cell_row rfl _ _ gb 38 #[.string (⟨#[]⟩ : ByteArray), .int .i64 0, .bool true] (0, 0) _ rfl (by (with_reducible repeat (first | refine blk_drewN ?_ _ | refine blk_drew ?_ | refine blk_alloc ?_ _)); refine blk_put (cs := #[.string (⟨#[]⟩ : ByteArray), .int .i64 0, .bool false]) ?_ 2 _ rfl; (with_reducible repeat (first | refine blk_drewN ?_ _ | refine blk_drew ?_ | refine blk_alloc ?_ _)); refine blk_put (cs := #[.string (⟨#[]⟩ : ByteArray), .int .i64 0, .bool false]) ?_ 1 _ rfl; (with_reducible repeat (first | refine blk_drewN ?_ _ | refine blk_drew ?_ | refine blk_alloc ?_ _)); refine blk_put (cs := #[.string (⟨#[]⟩ : ByteArray), .int .i64 0, .bool false]) ?_ 0 _ rfl; (with_reducible repeat (first | refine blk_drewN ?_ _ | refine blk_drew ?_ | refine blk_alloc ?_ _)); exact BK2.out) Tryd.underlying38 rfl (by kernel_rfl)) rfl ?_
            exact ⟨rfl, by repeat (first | (with_reducible first | exact HB2.out | apply below_alloc | apply pw_below_drewN | apply below_drew1 | refine below_set ?_ GW.out) | exact HB2.out)⟩
          · have k4 : ((numAt s : Int) == (numFrom s : Int)) = false := beq_eq_false_iff_ne.2 (by omega)
            rw [if_neg c2, HX.out] at HH'
            obtain ⟨⟨n1, n2⟩, hN, heq⟩ := Option.bind_eq_some_iff.1 HH'
            clear HH' c2
            have HN := Aside0.mk hN
            clear hN
            simp only [Option.some.injEq, Prod.mk.injEq] at heq
            obtain ⟨rfl, he2, rfl⟩ := heq
            have hfa : numFrom s ≤ numAt s := by unfold numAt; omega
            have j1 : ((0 : Int) ≤ (numFrom s : Int)) = True := eq_true (by omega)
            have j2 : ((numFrom s : Int) ≤ (numAt s : Int)) = True := eq_true (by omega)
            have j3 : ((numAt s : Int) ≤ (s.size : Int)) = True := eq_true (by omega)
            have hx0 : ∀ h : numAt s < s.size, ((s[numAt s]'h).toNat : Int) = bt s (numAt s : Int) := bt_at s (numAt s : Int)
            have j4 : ((0 : Int) ≤ (numAt s : Int)) = True := eq_true (by omega)
            have hw2 : IntKind.i64.wrap ((numAt s : Int) + 1) = (numAt s : Int) + 1 := IntWalk.i64_in _ (by omega)
            by_cases c4 : bt s (numAt s : Int) = 59
            · have k5 : (bt s (numAt s : Int) == 59) = true := beq_iff_eq.2 c4
              have hat : ((if numAt s < s.size ∧ bt s (numAt s : Nat) = 59 then numAt s + 1 else numAt s : Nat) : Int) = (numAt s : Int) + 1 := by rw [if_pos ⟨by omega, c4⟩]; omega
              rw [hat] at he2
              subst he2
              clear hat
              go_wp2_with (go_at_call 7; refine (charref_Number.calls k (s.extract (numFrom s) (numAt s)) false n1 n2 _ HN.out).mono ?_; rintro e1 w7 ⟨rfl, hb⟩; have BK3 := Aside0.mk (blk_below (g := gb) (o := .cells #[.string (⟨#[]⟩ : ByteArray), .int .i64 0, .bool false] 38 (0, 0)) BK2.out hb); have HB3 := Aside0.mk (below_step HB2.out hb); clear hb; have hcz0 : w7.cell? ⟨gb, 0, none⟩ = some (.string (⟨#[]⟩ : ByteArray)) := (blk_cell BK3.out 0).trans rfl; have hcz1 : w7.cell? ⟨gb, 1, none⟩ = some (.int .i64 0) := (blk_cell BK3.out 1).trans rfl; have hcz2 : w7.cell? ⟨gb, 2, none⟩ = some (.bool false) := (blk_cell BK3.out 2).trans rfl; have hfz0 := blk_frozen BK3.out 0; have hfz1 := blk_frozen BK3.out 1; have hfz2 := blk_frozen BK3.out 2)
              (try simp only [Exit.jump])
              refine bodyPost_ret (results_cell_row rfl _ _ gb 38 #[.string (Utf8.encode n1), .int .i64 ((numAt s : Int) + 1), .bool true] (0, 0) _ rfl (by (with_reducible repeat (first | refine blk_drewN ?_ _ | refine blk_drew ?_ | refine blk_alloc ?_ _)); refine blk_put (cs := #[.string (Utf8.encode n1), .int .i64 ((numAt s : Int) + 1), .bool false]) ?_ 2 _ rfl; (with_reducible repeat (first | refine blk_drewN ?_ _ | refine blk_drew ?_ | refine blk_alloc ?_ _)); refine blk_put (cs := #[.string (Utf8.encode n1), .int .i64 0, .bool false]) ?_ 1 _ rfl; (with_reducible repeat (first | refine blk_drewN ?_ _ | refine blk_drew ?_ | refine blk_alloc ?_ _)); refine blk_put (cs := #[.string (⟨#[]⟩ : ByteArray), .int .i64 0, .bool false]) ?_ 0 _ rfl; (with_reducible repeat (first | refine blk_drewN ?_ _ | refine blk_drew ?_ | refine blk_alloc ?_ _)); exact BK3.out) Tryd.underlying38 rfl (by kernel_rfl)) rfl ?_
              exact ⟨rfl, by repeat (first | (with_reducible first | exact HB3.out | apply below_alloc | apply pw_below_drewN | apply below_drew1 | refine below_set ?_ GW.out) | exact HB3.out)⟩
            · have k5 : (bt s (numAt s : Int) == 59) = false := beq_eq_false_iff_ne.2 c4
              have hat : ((if numAt s < s.size ∧ bt s (numAt s : Nat) = 59 then numAt s + 1 else numAt s : Nat) : Int) = (numAt s : Int) := by rw [if_neg (fun h => c4 h.2)]
              rw [hat] at he2
              subst he2
              clear hat
              go_wp2_with (go_at_call 7; refine (charref_Number.calls k (s.extract (numFrom s) (numAt s)) false n1 n2 _ HN.out).mono ?_; rintro e1 w7 ⟨rfl, hb⟩; have BK3 := Aside0.mk (blk_below (g := gb) (o := .cells #[.string (⟨#[]⟩ : ByteArray), .int .i64 0, .bool false] 38 (0, 0)) BK2.out hb); have HB3 := Aside0.mk (below_step HB2.out hb); clear hb; have hcz0 : w7.cell? ⟨gb, 0, none⟩ = some (.string (⟨#[]⟩ : ByteArray)) := (blk_cell BK3.out 0).trans rfl; have hcz1 : w7.cell? ⟨gb, 1, none⟩ = some (.int .i64 0) := (blk_cell BK3.out 1).trans rfl; have hcz2 : w7.cell? ⟨gb, 2, none⟩ = some (.bool false) := (blk_cell BK3.out 2).trans rfl; have hfz0 := blk_frozen BK3.out 0; have hfz1 := blk_frozen BK3.out 1; have hfz2 := blk_frozen BK3.out 2)
              (try simp only [Exit.jump])
              refine bodyPost_ret (results_cell_row rfl _ _ gb 38 #[.string (Utf8.encode n1), .int .i64 ((numAt s : Nat) : Int), .bool true] (0, 0) _ rfl (by (with_reducible repeat (first | refine blk_drewN ?_ _ | refine blk_drew ?_ | refine blk_alloc ?_ _)); refine blk_put (cs := #[.string (Utf8.encode n1), .int .i64 ((numAt s : Nat) : Int), .bool false]) ?_ 2 _ rfl; (with_reducible repeat (first | refine blk_drewN ?_ _ | refine blk_drew ?_ | refine blk_alloc ?_ _)); refine blk_put (cs := #[.string (Utf8.encode n1), .int .i64 0, .bool false]) ?_ 1 _ rfl; (with_reducible repeat (first | refine blk_drewN ?_ _ | refine blk_drew ?_ | refine blk_alloc ?_ _)); refine blk_put (cs := #[.string (⟨#[]⟩ : ByteArray), .int .i64 0, .bool false]) ?_ 0 _ rfl; (with_reducible repeat (first | refine blk_drewN ?_ _ | refine blk_drew ?_ | refine blk_alloc ?_ _)); exact BK3.out) Tryd.underlying38 rfl (by kernel_rfl)) rfl ?_
              exact ⟨rfl, by repeat (first | (with_reducible first | exact HB3.out | apply below_alloc | apply pw_below_drewN | apply below_drew1 | refine below_set ?_ GW.out) | exact HB3.out)⟩
  case first =>
    intro PASS
    have PASS' := Aside0.mk PASS
    clear PASS
    by_cases h1 : s.size = 1
    · have HH' := HH.out
      rw [if_pos h1] at HH'
      simp only [Option.some.injEq, Prod.mk.injEq] at HH'
      obtain ⟨rfl, rfl, rfl⟩ := HH'
      clear HH
      have hcz0 : w5.cell? ⟨gb, 0, none⟩ = some (.string (⟨#[]⟩ : ByteArray)) := (blk_cell BK.out 0).trans rfl
      have hcz1 : w5.cell? ⟨gb, 1, none⟩ = some (.int .i64 0) := (blk_cell BK.out 1).trans rfl
      have hcz2 : w5.cell? ⟨gb, 2, none⟩ = some (.bool false) := (blk_cell BK.out 2).trans rfl
      have hfz0 := blk_frozen BK.out 0
      have hfz1 := blk_frozen BK.out 1
      have hfz2 := blk_frozen BK.out 2
      have hk : ((1 : Int) == (s.size : Int)) = true := beq_iff_eq.2 (by omega)
      go_wp2
      (try simp only [Exit.jump])
      refine bodyPost_ret (results_cell_row rfl _ _ gb 38 #[.string (⟨#[]⟩ : ByteArray), .int .i64 0, .bool e] (0, 0) _ rfl (by (with_reducible repeat (first | refine blk_drewN ?_ _ | refine blk_drew ?_ | refine blk_alloc ?_ _)); refine blk_put (cs := #[.string (⟨#[]⟩ : ByteArray), .int .i64 0, .bool false]) ?_ 2 _ rfl; (with_reducible repeat (first | refine blk_drewN ?_ _ | refine blk_drew ?_ | refine blk_alloc ?_ _)); refine blk_put (cs := #[.string (⟨#[]⟩ : ByteArray), .int .i64 0, .bool false]) ?_ 1 _ rfl; (with_reducible repeat (first | refine blk_drewN ?_ _ | refine blk_drew ?_ | refine blk_alloc ?_ _)); refine blk_put (cs := #[.string (⟨#[]⟩ : ByteArray), .int .i64 0, .bool false]) ?_ 0 _ rfl; (with_reducible repeat (first | refine blk_drewN ?_ _ | refine blk_drew ?_ | refine blk_alloc ?_ _)); exact BK.out) Tryd.underlying38 rfl (by kernel_rfl)) rfl ?_
      exact ⟨rfl, by repeat (first | (with_reducible first | exact HB.out | apply below_alloc | apply pw_below_drewN | apply below_drew1 | refine below_set ?_ GW.out) | exact HB.out)⟩
    · have hk : ((1 : Int) == (s.size : Int)) = false := beq_eq_false_iff_ne.2 (by omega)
      have hx0 : ∀ h : 1 < s.size, ((s[1]'h).toNat : Int) = bt s 1 := bt_at s 1
      have hlt : ((1 : Int) < (s.size : Int)) = True := eq_true (by omega)
      have hlt' : (1 < s.size) = True := eq_true (by omega)
      by_cases c1 : bt s 1 = 120
      · have hh : numHex s = true := by simp [numHex, c1]
        have hf : numFrom s = 2 := by simp [numFrom, hh]
        have k1 : (bt s 1 == 120) = true := beq_iff_eq.2 c1
        go_wp2
        go_step3
        simp only [Exit.then]
        apply_assumption
        refine PASS'.out _ _ ?_
        refine numJ_of 2 ?_ ⟨by omega, h1⟩ (by unfold numAt; rw [hf]) BK.out HB.out
        rw [hh, hf]
        rfl
      have k1 : (bt s 1 == 120) = false := beq_eq_false_iff_ne.2 c1
      by_cases c2 : bt s 1 = 88
      · have hh : numHex s = true := by simp [numHex, c2]
        have hf : numFrom s = 2 := by simp [numFrom, hh]
        have k2 : (bt s 1 == 88) = true := beq_iff_eq.2 c2
        go_wp2
        go_step3
        simp only [Exit.then]
        apply_assumption
        refine PASS'.out _ _ ?_
        refine numJ_of 2 ?_ ⟨by omega, h1⟩ (by unfold numAt; rw [hf]) BK.out HB.out
        rw [hh, hf]
        rfl
      · have k2 : (bt s 1 == 88) = false := beq_eq_false_iff_ne.2 c2
        have hh : numHex s = false := by simp [numHex, c1, c2]
        have hf : numFrom s = 1 := by simp [numFrom, hh]
        go_wp2
        go_step3
        simp only [Exit.then]
        apply_assumption
        refine PASS'.out _ _ ?_
        refine numJ_of 1 ?_ ⟨by omega, h1⟩ (by unfold numAt; rw [hf]) BK.out HB.out
        rw [hh, hf]
        rfl
end Go.Proofs.YthmbbkbmlnaghaaDoor.P
end
section
namespace Go.Proofs.YthmbbkbmlnaghaaDoor.P
open Go.RowKit Go.Proofs.YthmbbkbmlnaghaaDoorW.PrintWords Go.Proofs.YthmbbkbmlnaghaaDoorW.PrintLast Go.Proofs.YthmbbkbmlnaghaaDoorW.PrintMore
attribute [local go_sem] max2_int min2_int max_two min_two max_three min_three max_four min_four   -- for this text's walks alone
set_option linter.unusedVariables false
set_option linter.unusedSimpArgs false

/-! ### charref_next: function 22 -/
def charref_next.j0 : Nat → ByteArray → Bool → Bool → Bool → Option (ByteArray × Int × Bool)
 | 0, _, _, _, _ => none
 | k + 1, x0, x1, x2, x13 => if x13 = true then ((charref_numeric.f k x0 x2).bind fun bt278 => (some (bt278.1, bt278.2.1, bt278.2.2))) else ((charref_named.f k x0 x1 x2).bind fun bt281 => (some (bt281.1, bt281.2.1, bt281.2.2)))
def charref_next.f (k : Nat) (a0 : ByteArray) (a1 : Bool) (a2 : Bool) : Option (ByteArray × Int × Bool) := if a0.toList = ([] : List UInt8) then (charref_next.j0 k a0 a1 a2 false) else (if 0 < (a0.size : Int) then (charref_next.j0 k a0 a1 a2 ((bt a0 0) == 35)) else (none))
theorem charref_next.mono_l : ∀ k, (∀ y0 y1 y2 y3, LeO (charref_next.j0 k y0 y1 y2 y3) (charref_next.j0 (k + 1) y0 y1 y2 y3))
 | 0 => fun _ _ _ _ r h => by simp [charref_next.j0] at h
 | k + 1 => by
  have ih0 := charref_next.mono_l k
  ·intro y0 y1 y2 y3
   unfold charref_next.j0
   repeat' first
   | (with_reducible exact ih0 _ _ _ _)
   | (with_reducible exact charref_named.mono _ _ _ _)
   | (with_reducible exact charref_numeric.mono _ _ _)
   | (with_reducible exact LeO.refl _)
   | (with_reducible exact LeO.none _)
   | (with_reducible refine LeO.ite ?_ ?_)
   | (with_reducible refine LeO.bind ?_ (fun _ => ?_))
   | exact ih0 _ _ _ _
   | exact charref_named.mono _ _ _ _
   | exact charref_numeric.mono _ _ _
   | exact LeO.none _
   | refine LeO.ite ?_ ?_
   | refine LeO.bind ?_ (fun _ => ?_)
theorem charref_next.mono : ∀ a0 a1 a2 k, LeO (charref_next.f k a0 a1 a2) (charref_next.f (k + 1) a0 a1 a2) := by
 intro a0 a1 a2 k
 have ih0 := charref_next.mono_l k
 unfold charref_next.f
 repeat' first
   | (with_reducible exact ih0 _ _ _ _)
   | (with_reducible exact charref_named.mono _ _ _ _)
   | (with_reducible exact charref_numeric.mono _ _ _)
   | (with_reducible exact LeO.refl _)
   | (with_reducible exact LeO.none _)
   | (with_reducible refine LeO.ite ?_ ?_)
   | (with_reducible refine LeO.bind ?_ (fun _ => ?_))
   | exact ih0 _ _ _ _
   | exact charref_named.mono _ _ _ _
   | exact charref_numeric.mono _ _ _
   | exact LeO.none _
   | refine LeO.ite ?_ ?_
   | refine LeO.bind ?_ (fun _ => ?_)
set_option maxHeartbeats 8000000 in
set_option maxRecDepth 100000 in
theorem charref_next.calls (k : Nat) (a0 : ByteArray) (a1 : Bool) (a2 : Bool) (r1 : ByteArray) (r2 : Int) (r3 : Bool) (w : World) (h : charref_next.f k a0 a1 a2 = some (r1, r2, r3)) :
  Calls Tryd.prog 22 #[.string a0, .bool a1, .bool a2] w fun e w' => e = .returned (.agg #[.string r1, .int .i64 r2, .bool r3]) ∧ Below w.heap.size w w' := by
 have hu38 := Tryd.underlying38
 have HB := Aside0.mk (Below.refl w.heap.size w)
 have H : (if a0.toList = ([] : List UInt8) then (charref_next.j0 k a0 a1 a2 false) else (if 0 < (a0.size : Int) then (charref_next.j0 k a0 a1 a2 ((bt a0 0) == 35)) else (none))) = some (r1, r2, r3) := h
 clear h
 have HC4 := Aside0.mk H
 clear H
 go_enter Tryd.func22, Tryd.ntmps22
 go_upto_region 1 with (first | ((with_reducible refine gate_dst (N := 6) rfl ?_); refine box_event ?hg (N := 6) ?hd (cs := #[.string (⟨#[]⟩ : ByteArray), .int .i64 0, .bool false]) (t := 38) ?hr ?_; (case hd => rfl); (case hg => rfl); (case hr => first | (go_simp; done) | (go_simp; rfl)); intro gb277 hg w5 hbox hb; have n0_ := Aside0.mk (below_step (by repeat (first | (with_reducible first | exact HB.out | apply below_alloc | apply pw_below_drewN | apply below_drew1) | exact HB.out)) hb); have n1_ := Aside0.mk (hbox); have n2_ := Aside0.mk ((by rw [hg]; exact (below_size (by repeat (first | (with_reducible first | exact HB.out | apply below_alloc | apply pw_below_drewN | apply below_drew1) | exact HB.out))) : w.heap.size ≤ gb277)); have n3_ := Aside0.mk ((by rw [hg]; exact (below_size (by repeat (first | (with_reducible first | exact HB.out | apply below_alloc | apply pw_below_drewN | apply below_drew1) | exact HB.out))) : w.heap.size ≤ gb277)); clear HB; have HB := n0_; have BK277 := n1_; have GW277 := n2_; have GE277 := n3_; clear n0_ n1_ n2_ n3_; clear hb hbox hg))
 (try simp only [Act.put, List.setIfInBounds_toArray, List.set_cons_zero, List.set_cons_succ])
 go_cut [13] (fun v13 wc => ∃ (kq : Nat) (x13_3 : Bool), v13 = .bool x13_3 ∧ Aside0 (charref_next.j0 kq a0 a1 a2 x13_3 = some (r1, r2, r3)) ∧ Aside0 (kq ≤ k) ∧ Aside0 (wc.heap[gb277]? = some (.cells #[.string (⟨#[]⟩ : ByteArray), .int .i64 0, .bool false] 38 (0, 0))) ∧ Aside0 (Below w.heap.size w wc))
 case first =>
  have H := HC4.out
  clear HC4
  by_cases c6 : a0.toList = ([] : List UInt8)
  ·rw [if_pos c6] at H
   have c6b0 : (a0.toList == ([] : List UInt8)) = true := beq_iff_eq.mpr c6
   have c6b1 : (a0.toList != ([] : List UInt8)) = false := bne_eq_false_iff_eq.mpr c6
   clear c6
   (first | rw [c6b0] | (simp only [i64_w, i32_w]; rw [c6b0]) | skip)
   have H' := Aside0.mk H
   clear H
   go_wp2
   go_meet
   case rel => exact ⟨_, (false), (by first | rfl | (simp; done) | (simp [*]; done) | (unfold bt; split <;> first | rfl | (exfalso; simp_all; done) | (exfalso; simp_all; omega))), H', ⟨by first | omega | exact Nat.le_refl _⟩, ⟨by (with_reducible repeat (first | refine blk_drewN ?_ _ | refine blk_drew ?_ | refine blk_alloc ?_ _)); exact BK277.out⟩, ⟨by repeat (first | (with_reducible first | exact HB.out | apply below_alloc | apply pw_below_drewN | apply below_drew1 | refine below_set ?_ GE277.out) | exact HB.out)⟩⟩
  ·rw [if_neg c6] at H
   have c6b0 : (a0.toList == ([] : List UInt8)) = false := beq_eq_false_iff_ne.mpr c6
   have c6b1 : (a0.toList != ([] : List UInt8)) = true := bne_iff_ne.mpr c6
   (first | rw [c6b0] | (simp only [i64_w, i32_w]; rw [c6b0]) | skip)
   by_cases c7 : 0 < (a0.size : Int)
   ·rw [if_pos c7] at H
    have c7b0 : decide (0 < (a0.size : Int)) = true := decide_eq_true c7
    have c7b1 : decide (0 < a0.size) = true := decide_eq_true (by omega)
    clear c7
    have H' := Aside0.mk H
    clear H
    have p8 : 0 ≤ (0 : Int) := (by omega)
    have q8 : 0 < a0.size := (by have : (0 : Int) < (a0.size : Int) := of_decide_eq_true (by first | (with_reducible assumption) | assumption); omega)
    have hx8 : ∀ h : 0 < a0.size, ((a0[0]'h).toNat : Int) = bt a0 0 := bt_at a0 0
    clear p8
    have qi8 : (0 < (a0.size : Int)) = True := eq_true (of_decide_eq_true (by first | (with_reducible assumption) | assumption))
    replace q8 := eq_true q8
    go_wp2
    go_meet
    case rel => exact ⟨_, (((bt a0 0) == 35)), (by first | rfl | (simp; done) | (simp [*]; done) | (unfold bt; split <;> first | rfl | (exfalso; simp_all; done) | (exfalso; simp_all; omega))), H', ⟨by first | omega | exact Nat.le_refl _⟩, ⟨by (with_reducible repeat (first | refine blk_drewN ?_ _ | refine blk_drew ?_ | refine blk_alloc ?_ _)); exact BK277.out⟩, ⟨by repeat (first | (with_reducible first | exact HB.out | apply below_alloc | apply pw_below_drewN | apply below_drew1 | refine below_set ?_ GE277.out) | exact HB.out)⟩⟩
   ·rw [if_neg c7] at H
    exact absurd H (by simp)
 case rest =>
  clear HC4
  try clear c2
  try clear p2
  try clear c6
  try clear c6b0
  try clear c6b1
  try clear c7
  try clear c7b0
  try clear c7b1
  try clear p8
  try clear q8
  try clear hx8
  try clear qi8
  try clear p8
  try clear q8
  obtain ⟨kq, x13_3, rfl, HA, HJ3, BK277, HB⟩ := hcut
  cases kq with
  | zero => exact absurd HA.out (by simp [charref_next.j0])
  | succ kj3 =>
   have H := HA.out
   clear HA
   simp only [charref_next.j0] at H
   by_cases c9 : x13_3 = true
   ·subst c9
    have H1 : ((charref_numeric.f kj3 a0 a2).bind fun bt278 => (some (bt278.1, bt278.2.1, bt278.2.2))) = some (r1, r2, r3) := by rw [if_pos rfl] at H; exact H
    clear H
    have H := H1
    clear H1
    replace H := Option.bind_eq_some_iff.mp H
    obtain ⟨⟨t278, t279, t280⟩, A100, H⟩ := H
    replace H : (some (t278, t279, t280)) = some (r1, r2, r3) := H
    have A10 := Aside0.mk A100
    clear A100
    simp only [Option.some.injEq, Prod.mk.injEq] at H
    obtain ⟨rfl, rfl, rfl⟩ := H
    go_wp2_with (first | ((with_reducible refine gate_callee (f := 40) rfl ?_); refine goesL_ (some 16) rfl rfl Tryd.func40 (by kernel_rfl) rfl #[.string a0, .bool a2] rfl (by (try simp only [List.map_toArray, List.map_cons, List.map_nil]); first | done | rfl | (simp only [List.length_drop, List.length_take]; rfl) | (simp [*] <;> rfl)) ?_; (with_reducible refine (charref_numeric.calls kj3 a0 a2 t278 t279 t280 _ A10.out).mono ?_); rintro e w11 ⟨rfl, hb⟩; refine ⟨_, rfl, ?_⟩; have n0_ := Aside0.mk (blk_below (g := gb277) (o := .cells #[.string (⟨#[]⟩ : ByteArray), .int .i64 0, .bool false] 38 (0, 0)) (by (with_reducible repeat (first | refine blk_drewN ?_ _ | refine blk_drew ?_ | refine blk_alloc ?_ _)); exact BK277.out) hb); have n1_ := Aside0.mk (below_step (by repeat (first | (with_reducible first | exact HB.out | apply below_alloc | apply pw_below_drewN | apply below_drew1 | refine below_set ?_ GE277.out) | exact HB.out)) hb); clear BK277; clear HB; have BK277 := n0_; have HB := n1_; clear n0_ n1_; (try clear hb); (try clear hb2); (try clear hk); (try clear hi); have hcz12_0 : w11.cell? ⟨gb277, 0, none⟩ = some (.string (⟨#[]⟩ : ByteArray)) := (blk_cell BK277.out 0).trans rfl; have hcz12_1 : w11.cell? ⟨gb277, 1, none⟩ = some (.int .i64 0) := (blk_cell BK277.out 1).trans rfl; have hcz12_2 : w11.cell? ⟨gb277, 2, none⟩ = some (.bool false) := (blk_cell BK277.out 2).trans rfl; have hfz12_0 := blk_frozen BK277.out 0; have hfz12_1 := blk_frozen BK277.out 1; have hfz12_2 := blk_frozen BK277.out 2))
    refine bodyPost_ret (results_cell_row rfl _ _ gb277 38 #[.string t278, .int .i64 t279, .bool t280] (0, 0) _ rfl (by (with_reducible repeat (first | refine blk_drewN ?_ _ | refine blk_drew ?_ | refine blk_alloc ?_ _)); refine blk_put (cs := #[.string t278, .int .i64 t279, .bool false]) ?_ 2 _ rfl; (with_reducible repeat (first | refine blk_drewN ?_ _ | refine blk_drew ?_ | refine blk_alloc ?_ _)); refine blk_put (cs := #[.string t278, .int .i64 0, .bool false]) ?_ 1 _ rfl; (with_reducible repeat (first | refine blk_drewN ?_ _ | refine blk_drew ?_ | refine blk_alloc ?_ _)); refine blk_put (cs := #[.string (⟨#[]⟩ : ByteArray), .int .i64 0, .bool false]) ?_ 0 _ rfl; (with_reducible repeat (first | refine blk_drewN ?_ _ | refine blk_drew ?_ | refine blk_alloc ?_ _)); exact BK277.out) Tryd.underlying38 rfl (by kernel_rfl)) rfl ?_
    exact ⟨by first | rfl | (simp [errW_none, errW_some] <;> rfl) | (simp [*, errW_none, errW_some] <;> rfl), by repeat (first | (with_reducible first | exact HB.out | apply below_alloc | apply pw_below_drewN | apply below_drew1 | refine below_set ?_ GE277.out) | exact HB.out)⟩
   ·replace c9 := Bool.eq_false_iff.mpr c9
    subst c9
    have H1 : ((charref_named.f kj3 a0 a1 a2).bind fun bt281 => (some (bt281.1, bt281.2.1, bt281.2.2))) = some (r1, r2, r3) := by rw [if_neg (show ¬ (false = true) by decide)] at H; exact H
    clear H
    have H := H1
    clear H1
    replace H := Option.bind_eq_some_iff.mp H
    obtain ⟨⟨t281, t282, t283⟩, A130, H⟩ := H
    replace H : (some (t281, t282, t283)) = some (r1, r2, r3) := H
    have A13 := Aside0.mk A130
    clear A130
    simp only [Option.some.injEq, Prod.mk.injEq] at H
    obtain ⟨rfl, rfl, rfl⟩ := H
    go_wp2_with (first | ((with_reducible refine gate_callee (f := 41) rfl ?_); refine goesL_ (some 20) rfl rfl Tryd.func41 (by kernel_rfl) rfl #[.string a0, .bool a1, .bool a2] rfl (by (try simp only [List.map_toArray, List.map_cons, List.map_nil]); first | done | rfl | (simp only [List.length_drop, List.length_take]; rfl) | (simp [*] <;> rfl)) ?_; (with_reducible refine (charref_named.calls kj3 a0 a1 a2 t281 t282 t283 _ A13.out).mono ?_); rintro e w14 ⟨rfl, hb⟩; refine ⟨_, rfl, ?_⟩; have n0_ := Aside0.mk (blk_below (g := gb277) (o := .cells #[.string (⟨#[]⟩ : ByteArray), .int .i64 0, .bool false] 38 (0, 0)) (by (with_reducible repeat (first | refine blk_drewN ?_ _ | refine blk_drew ?_ | refine blk_alloc ?_ _)); exact BK277.out) hb); have n1_ := Aside0.mk (below_step (by repeat (first | (with_reducible first | exact HB.out | apply below_alloc | apply pw_below_drewN | apply below_drew1 | refine below_set ?_ GE277.out) | exact HB.out)) hb); clear BK277; clear HB; have BK277 := n0_; have HB := n1_; clear n0_ n1_; (try clear hb); (try clear hb2); (try clear hk); (try clear hi); have hcz15_0 : w14.cell? ⟨gb277, 0, none⟩ = some (.string (⟨#[]⟩ : ByteArray)) := (blk_cell BK277.out 0).trans rfl; have hcz15_1 : w14.cell? ⟨gb277, 1, none⟩ = some (.int .i64 0) := (blk_cell BK277.out 1).trans rfl; have hcz15_2 : w14.cell? ⟨gb277, 2, none⟩ = some (.bool false) := (blk_cell BK277.out 2).trans rfl; have hfz15_0 := blk_frozen BK277.out 0; have hfz15_1 := blk_frozen BK277.out 1; have hfz15_2 := blk_frozen BK277.out 2))
    refine bodyPost_ret (results_cell_row rfl _ _ gb277 38 #[.string t281, .int .i64 t282, .bool t283] (0, 0) _ rfl (by (with_reducible repeat (first | refine blk_drewN ?_ _ | refine blk_drew ?_ | refine blk_alloc ?_ _)); refine blk_put (cs := #[.string t281, .int .i64 t282, .bool false]) ?_ 2 _ rfl; (with_reducible repeat (first | refine blk_drewN ?_ _ | refine blk_drew ?_ | refine blk_alloc ?_ _)); refine blk_put (cs := #[.string t281, .int .i64 0, .bool false]) ?_ 1 _ rfl; (with_reducible repeat (first | refine blk_drewN ?_ _ | refine blk_drew ?_ | refine blk_alloc ?_ _)); refine blk_put (cs := #[.string (⟨#[]⟩ : ByteArray), .int .i64 0, .bool false]) ?_ 0 _ rfl; (with_reducible repeat (first | refine blk_drewN ?_ _ | refine blk_drew ?_ | refine blk_alloc ?_ _)); exact BK277.out) Tryd.underlying38 rfl (by kernel_rfl)) rfl ?_
    exact ⟨by first | rfl | (simp [errW_none, errW_some] <;> rfl) | (simp [*, errW_none, errW_some] <;> rfl), by repeat (first | (with_reducible first | exact HB.out | apply below_alloc | apply pw_below_drewN | apply below_drew1 | refine below_set ?_ GE277.out) | exact HB.out)⟩

end Go.Proofs.YthmbbkbmlnaghaaDoor.P
end
section
/-
  charref.each: the references of a text, one by one, each handed to a function value.
-/
namespace Go.Proofs.YthmbbkbmlnaghaaDoor.P
open Go.RowKit Go.Proofs.YthmbbkbmlnaghaaDoorW.PrintWords Go.Proofs.YthmbbkbmlnaghaaDoorW.PrintLast Go.Proofs.YthmbbkbmlnaghaaDoorW.PrintMore
set_option linter.unusedVariables false
set_option linter.unusedSimpArgs false

/-- the references from place i on: where the & stands, what is said, how many bytes stand behind the & -/
def refsGo (attr : Bool) (s : ByteArray) : Nat → Nat → Option (List (Nat × ByteArray × Nat))
  | 0, _ => none
  | k + 1, i =>
    if i < s.size then
      (if bt s i = 38 then
        (charref_next.f k (s.extract (i + 1) s.size) attr true).bind fun n =>
          if 0 ≤ n.2.1 ∧ i + 1 + n.2.1.toNat ≤ s.size then
            (if n.2.1 = 0 then refsGo attr s k (i + 1)
             else (refsGo attr s k (i + 1 + n.2.1.toNat)).bind fun t => some ((i, n.1, n.2.1.toNat) :: t))
          else none
       else refsGo attr s k (i + 1))
    else some []

set_option maxRecDepth 100000 in
set_option maxHeartbeats 8000000 in
theorem charref_each_calls (k : Nat) (s : ByteArray) (attr : Bool) (fv : Array Value) (refs : List (Nat × ByteArray × Nat)) (I : List (Nat × ByteArray × Nat) → World → Prop) (w : World)
    (hs : s.size ≤ 35184372088831) (h : refsGo attr s k 0 = some refs)
    (hI : ∀ pre W W', I pre W → Below W.heap.size W W' → I pre W')
    (hdo : ∀ (pre : List (Nat × ByteArray × Nat)) (x : Nat × ByteArray × Nat) (W : World) (b : Bool), I pre W → (∃ post, pre ++ [x] ++ post = refs) → Calls Tryd.prog 43 (#[.int .i64 (x.1 : Nat), .agg #[.string x.2.1, .int .i64 (x.2.2 : Nat), .bool b]] ++ fv) W fun e W' =>
      e = .returned (.bool true) ∧ I (pre ++ [x]) W' ∧ ∀ (j : Nat) (cs : Array Value), W.heap[j]? = some (Obj.cells cs 38 (0, 0)) → W'.heap[j]? = some (Obj.cells cs 38 (0, 0)))
    (h0 : I [] w) :
    Calls Tryd.prog 42 #[.string s, .bool attr, .func (.func 43) #[] fv] w fun e w' => e = .returned (.tuple #[]) ∧ I refs w' := by
  have HDO := Aside0.mk hdo
  have HI := Aside0.mk hI
  have HR := Aside0.mk h
  clear hdo
  clear hI
  clear h
  have hu60 := Tryd.underlying38
  go_enter Tryd.func42, Tryd.ntmps42
  go_wp2
  go_loopw [6] (fun v wr => ∃ (i kk : Nat) (pre rest : List (Nat × ByteArray × Nat)), v = .int .i64 (i : Nat) ∧ i ≤ s.size ∧ Aside0 (refsGo attr s kk i = some rest) ∧ Aside0 (pre ++ rest = refs) ∧ Aside0 (I pre wr)) (fun v _ => s.size - (intOf v).toNat)
  case atStart => exact ⟨0, k, [], refs, rfl, Nat.zero_le _, HR, ⟨rfl⟩, ⟨h0⟩⟩
  case round =>
    obtain ⟨i, kk, pre, rest, rfl, hi, hrest, hpre, hinv⟩ := hrel
    by_cases hlt : i < s.size
    · have hl1 : ((i : Int) < (s.size : Int)) = True := eq_true (by omega)
      have hl2 : ((0 : Int) ≤ (i : Int)) = True := eq_true (by omega)
      have hx0 : ∀ h : i < s.size, ((s[i]'h).toNat : Int) = bt s (i : Int) := bt_at s (i : Int)
      have hw1 : IntKind.i64.wrap ((i : Int) + 1) = (i : Int) + 1 := IntWalk.i64_in _ (by omega)
      cases kk with
      | zero => exact absurd hrest.out (by simp [refsGo])
      | succ kk =>
        have hr := hrest.out
        clear hrest
        unfold refsGo at hr
        rw [if_pos hlt] at hr
        by_cases c : bt s (i : Int) = 38
        · rw [if_pos c] at hr
          obtain ⟨⟨n1, n2, n3⟩, hn, hr⟩ := Option.bind_eq_some_iff.1 hr
          have HN := Aside0.mk hn
          clear hn
          by_cases hb : 0 ≤ n2 ∧ i + 1 + n2.toNat ≤ s.size
          · rw [if_pos hb] at hr
            obtain ⟨m, rfl⟩ : ∃ m : Nat, n2 = m := ⟨n2.toNat, by omega⟩
            obtain ⟨_, hm⟩ := hb
            simp only [Int.toNat_natCast] at hm hr
            have HRR := Aside0.mk hr
            clear hr
            have kc : (bt s (i : Int) != 38) = false := bne_eq_false_iff_eq.2 c
            have s1 : ((0 : Int) ≤ (i : Int) + 1) = True := eq_true (by omega)
            have s2 : ((i : Int) + 1 ≤ (s.size : Int)) = True := eq_true (by omega)
            have s3 : ((i : Int) + 1).toNat = i + 1 := by omega
            have hw2 : IntKind.i64.wrap (1 + (m : Int)) = 1 + (m : Int) := IntWalk.i64_in _ (by omega)
            have hw3 : IntKind.i64.wrap ((i : Int) + (1 + (m : Int))) = ((i + 1 + m : Nat) : Int) := by rw [IntWalk.i64_in _ (by omega)]; omega
            by_cases hm0 : m = 0
            · have HM0 := Aside0.mk hm0
              have hrr := HRR.out
              rw [if_pos (by omega)] at hrr
              have HREST := Aside0.mk hrr
              clear hrr
              have g1 : decide ((m : Int) > 0) = false := decide_eq_false (by omega)
              have g2 : decide ((0 : Int) < (m : Int)) = false := decide_eq_false (by omega)
              have g3 : (0 < m) = False := eq_false (by omega)
              have g4 : ((0 : Int) < (m : Int)) = False := eq_false (by omega)
              have hw4 : ((i + 1 + m : Nat) : Int) = ((i + 1 : Nat) : Int) := by omega
              have HW4 := Aside0.mk hw4
              clear hw4 hm0
              go_wp2_with (first | (go_at_call 22; refine (charref_next.calls kk (s.extract (i + 1) s.size) attr true n1 (m : Int) n3 _ HN.out).mono ?_; rintro e w1 ⟨rfl, hb1⟩; have HB1 := Aside0.mk hb1; clear hb1) | ((with_reducible refine gate_dst (N := 7) rfl ?_); refine box_event ?hg (N := 7) ?hd (cs := #[.string (⟨#[]⟩ : ByteArray), .int .i64 0, .bool false]) (t := 38) ?hr ?_; (case hd => rfl); (case hg => rfl); (case hr => first | (go_simp; done) | (go_simp; rfl)); intro gb hg w5 hbox hb; have HB5 := Aside0.mk (below_step HB1.out hb); have BK5 := Aside0.mk hbox; have GE5 := Aside0.mk ((by rw [hg]; exact (below_size HB1.out)) : wr.heap.size ≤ gb); clear hb hbox hg; have hcz0 : w5.cell? ⟨gb, 0, none⟩ = some (.string (⟨#[]⟩ : ByteArray)) := (blk_cell BK5.out 0).trans rfl; have hcz1 : w5.cell? ⟨gb, 1, none⟩ = some (.int .i64 0) := (blk_cell BK5.out 1).trans rfl; have hcz2 : w5.cell? ⟨gb, 2, none⟩ = some (.bool false) := (blk_cell BK5.out 2).trans rfl; have hfz0 := blk_frozen BK5.out 0; have hfz1 := blk_frozen BK5.out 1; have hfz2 := blk_frozen BK5.out 2))
              go_roundw
              case rel => exact ⟨i + 1, kk, pre, rest, by rw [← HW4.out]; rfl, by omega, HREST, hpre, ⟨HI.out pre wr _ hinv.out (below_set (below_set (below_set HB5.out GE5.out) GE5.out) GE5.out)⟩⟩
              case measure => simp [intOf]; omega
            · have hrr := HRR.out
              rw [if_neg (by omega)] at hrr
              obtain ⟨t2, ht2, heq⟩ := Option.bind_eq_some_iff.1 hrr
              have heq := Option.some.inj heq
              have HREST := Aside0.mk ht2
              clear hrr ht2
              have hpre2 : pre ++ [(i, n1, m)] ++ t2 = refs := by rw [← hpre.out, ← heq, List.append_assoc]; rfl
              have HPRE2 := Aside0.mk hpre2
              clear hpre2 heq
              have g1 : decide ((m : Int) > 0) = true := decide_eq_true (by omega)
              have g2 : decide ((0 : Int) < (m : Int)) = true := decide_eq_true (by omega)
              go_wp2_with (first | (go_at_call 22; refine (charref_next.calls kk (s.extract (i + 1) s.size) attr true n1 (m : Int) n3 _ HN.out).mono ?_; rintro e w1 ⟨rfl, hb1⟩; have HB1 := Aside0.mk hb1; clear hb1) | ((with_reducible refine gate_dst (N := 7) rfl ?_); refine box_event ?hg (N := 7) ?hd (cs := #[.string (⟨#[]⟩ : ByteArray), .int .i64 0, .bool false]) (t := 38) ?hr ?_; (case hd => rfl); (case hg => rfl); (case hr => first | (go_simp; done) | (go_simp; rfl)); intro gb hg w5 hbox hb; have HB5 := Aside0.mk (below_step HB1.out hb); have BK5 := Aside0.mk hbox; have GE5 := Aside0.mk ((by rw [hg]; exact (below_size HB1.out)) : wr.heap.size ≤ gb); clear hb hbox hg; have hcz0 : w5.cell? ⟨gb, 0, none⟩ = some (.string (⟨#[]⟩ : ByteArray)) := (blk_cell BK5.out 0).trans rfl; have hcz1 : w5.cell? ⟨gb, 1, none⟩ = some (.int .i64 0) := (blk_cell BK5.out 1).trans rfl; have hcz2 : w5.cell? ⟨gb, 2, none⟩ = some (.bool false) := (blk_cell BK5.out 2).trans rfl; have hfz0 := blk_frozen BK5.out 0; have hfz1 := blk_frozen BK5.out 1; have hfz2 := blk_frozen BK5.out 2) | (go_at_call 43; refine (HDO.out pre (i, n1, m) _ n3 (HI.out pre wr _ hinv.out (below_set (below_set (below_set HB5.out GE5.out) GE5.out) GE5.out)) ⟨t2, HPRE2.out⟩).mono ?_; rintro e w7 ⟨rfl, hinv7, hk7⟩; have HINV7 := Aside0.mk hinv7; have BK7 := Aside0.mk (hk7 gb #[.string n1, .int .i64 (m : Nat), .bool n3] (blk_put (cs := #[.string n1, .int .i64 (m : Nat), .bool false]) (blk_put (cs := #[.string n1, .int .i64 0, .bool false]) (blk_put (cs := #[.string (⟨#[]⟩ : ByteArray), .int .i64 0, .bool false]) BK5.out 0 _ rfl) 1 _ rfl) 2 _ rfl)); clear hinv7 hk7; have hcy1 : w7.cell? ⟨gb, 1, none⟩ = some (.int .i64 (m : Nat)) := (blk_cell BK7.out 1).trans rfl))
              go_roundw
              case rel => exact ⟨i + 1 + m, kk, pre ++ [(i, n1, m)], t2, rfl, hm, HREST, HPRE2, HINV7⟩
              case measure => simp [intOf]; omega
          · rw [if_neg hb] at hr
            cases hr
        · rw [if_neg c] at hr
          have HREST := Aside0.mk hr
          clear hr
          have kc : (bt s (i : Int) != 38) = true := bne_iff_ne.2 c
          clear c
          go_wp2
          go_roundw
          case rel => exact ⟨i + 1, kk, pre, rest, rfl, by omega, HREST, hpre, hinv⟩
          case measure => simp [intOf]; omega
    · have hl1 : ((i : Int) < (s.size : Int)) = False := eq_false (by omega)
      have hrr : rest = [] := by
        have := hrest.out
        cases kk with
        | zero => simp [refsGo] at this
        | succ kk =>
          unfold refsGo at this
          rw [if_neg hlt] at this
          exact (Option.some.inj this).symm
      subst hrr
      have hp := hpre.out
      rw [List.append_nil] at hp
      subst hp
      go_wp2
      go_end0
      exact ⟨rfl, hinv.out⟩
end Go.Proofs.YthmbbkbmlnaghaaDoor.P
end
section
/-
 charref.replaced, the plain part: what is written, reference by reference.
-/
namespace Go.Proofs.YthmbbkbmlnaghaaDoor.P
open Go.RowKit Go.Shelf Go.Proofs.YthmbbkbmlnaghaaDoorW.PrintWords Go.Proofs.YthmbbkbmlnaghaaDoorW.PrintLast Go.Proofs.YthmbbkbmlnaghaaDoorW.PrintMore
set_option linter.unusedVariables false
set_option linter.unusedSimpArgs false

def repStep (g : ByteArray → ByteArray) (m : List UInt8) (st : Nat × List UInt8) (x : Nat × ByteArray × Nat) : Nat × List UInt8 :=
 (x.1 + 1 + x.2.2, st.2 ++ ((m.drop st.1).take (x.1 - st.1) ++ (g x.2.1).data.toList))
def repSt (g : ByteArray → ByteArray) (m : List UInt8) (l : List (Nat × ByteArray × Nat)) : Nat × List UInt8 := l.foldl (repStep g m) (0, [])
theorem repSt_snoc (g : ByteArray → ByteArray) (m : List UInt8) (l : List (Nat × ByteArray × Nat)) (x : Nat × ByteArray × Nat) : repSt g m (l ++ [x]) = repStep g m (repSt g m l) x := by
 unfold repSt
 rw [List.foldl_append]
 rfl
def repText (g : ByteArray → ByteArray) (m : List UInt8) (refs : List (Nat × ByteArray × Nat)) : List UInt8 := (repSt g m refs).2 ++ m.drop (repSt g m refs).1

/-- the places go up -/
def Asc (n : Nat) : Nat → List (Nat × ByteArray × Nat) → Prop
 | _, [] => True
 | i, x :: t => i ≤ x.1 ∧ x.1 + 1 + x.2.2 ≤ n ∧ Asc n (x.1 + 1 + x.2.2) t
theorem Asc.weak {n : Nat} : ∀ {i j : Nat} {l : List (Nat × ByteArray × Nat)}, j ≤ i → Asc n i l → Asc n j l
 | _, _, [], _, _ => trivial
 | _, _, _ :: _, h, ⟨h1, h2, h3⟩ => ⟨Nat.le_trans h h1, h2, h3⟩
theorem refsGo_asc (attr : Bool) (s : ByteArray) : ∀ (k i : Nat) (l : List (Nat × ByteArray × Nat)), refsGo attr s k i = some l → Asc s.size i l
 | 0, i, l, h => by simp [refsGo] at h
 | k + 1, i, l, h => by
  unfold refsGo at h
  by_cases c1 : i < s.size
  ·rw [if_pos c1] at h
   by_cases c2 : bt s i = 38
   ·rw [if_pos c2] at h
    obtain ⟨n, _, h⟩ := Option.bind_eq_some_iff.1 h
    by_cases c3 : 0 ≤ n.2.1 ∧ i + 1 + n.2.1.toNat ≤ s.size
    ·rw [if_pos c3] at h
     by_cases c4 : n.2.1 = 0
     ·rw [if_pos c4] at h
      exact (refsGo_asc attr s k _ l h).weak (by omega)
     ·rw [if_neg c4] at h
      obtain ⟨t, ht, h⟩ := Option.bind_eq_some_iff.1 h
      have := Option.some.inj h
      subst this
      exact ⟨Nat.le_refl _, c3.2, refsGo_asc attr s k _ t ht⟩
    ·rw [if_neg c3] at h
     cases h
   ·rw [if_neg c2] at h
    exact (refsGo_asc attr s k _ l h).weak (by omega)
  ·rw [if_neg c1] at h
   have := Option.some.inj h
   subst this
   trivial
theorem Asc.mid {n : Nat} (g : ByteArray → ByteArray) (m : List UInt8) : ∀ (pre : List (Nat × ByteArray × Nat)) (st : Nat × List UInt8) (x : Nat × ByteArray × Nat) (post : List (Nat × ByteArray × Nat)), Asc n st.1 (pre ++ x :: post) →
  (pre.foldl (repStep g m) st).1 ≤ x.1 ∧ x.1 + 1 + x.2.2 ≤ n ∧ pre.length + st.1 ≤ (pre.foldl (repStep g m) st).1
 | [], st, x, post, h => ⟨h.1, h.2.1, by simp⟩
 | y :: t, st, x, post, h => by
  have := Asc.mid g m t (repStep g m st y) x post (h.2.2)
  refine ⟨this.1, this.2.1, ?_⟩
  have h3 := this.2.2
  have h1 := h.1
  simp only [List.foldl_cons, List.length_cons]
  have e : (repStep g m st y).1 = y.1 + 1 + y.2.2 := rfl
  omega
theorem Asc.end_ {n : Nat} (g : ByteArray → ByteArray) (m : List UInt8) : ∀ (pre : List (Nat × ByteArray × Nat)) (st : Nat × List UInt8), st.1 ≤ n → Asc n st.1 pre → (pre.foldl (repStep g m) st).1 ≤ n ∧ pre.length + st.1 ≤ (pre.foldl (repStep g m) st).1
 | [], st, h0, h => ⟨h0, by simp⟩
 | y :: t, st, h0, h => by
  have := Asc.end_ g m t (repStep g m st y) h.2.1 h.2.2
  refine ⟨this.1, ?_⟩
  have h3 := this.2
  have h1 := h.1
  simp only [List.foldl_cons, List.length_cons]
  have e : (repStep g m st y).1 = y.1 + 1 + y.2.2 := rfl
  omega
theorem repFold_len (g : ByteArray → ByteArray) (m : List UInt8) : ∀ (l : List (Nat × ByteArray × Nat)) (st : Nat × List UInt8), st.2.length ≤ (l.foldl (repStep g m) st).2.length
 | [], st => Nat.le_refl _
 | y :: t, st => by
  have := repFold_len g m t (repStep g m st y)
  have e : (repStep g m st y).2.length = st.2.length + ((m.drop st.1).take (y.1 - st.1) ++ (g y.2.1).data.toList).length := by simp only [repStep, List.length_append]
  simp only [List.foldl_cons]
  omega
theorem repSt_len (g : ByteArray → ByteArray) (m : List UInt8) (a b : List (Nat × ByteArray × Nat)) : (repSt g m a).2.length ≤ (repSt g m (a ++ b)).2.length := by
 have := repFold_len g m b (repSt g m a)
 unfold repSt at this ⊢
 rw [List.foldl_append]
 exact this

/-- A builder is kept where its own block and the rows of bytes are kept. -/
theorem bld_kept {T e : TypeId} {B b : Nat} {bs : List Value} {w w' : World} (h : Lib.IsBuilderF T e B b bs w)
  (hk : ∀ k o, w.heap[k]? = some o → (k = b ∨ ∃ c fz, o = Obj.cells c e fz) → w'.heap[k]? = some o) : Lib.IsBuilderF T e B b bs w' := by
 have key : ∀ p, Lib.BuilderAtF T e B b p bs w → Lib.BuilderAtF T e B b p bs w' := by
  rintro p ⟨hB, v, hb, hown, hne⟩
  refine ⟨hB, v, hk _ _ hb (.inl rfl), ⟨hown.1, ?_⟩, hne⟩
  rcases hown.2 with hn | ⟨g, cap, cur, fz, hv, hbg, hg, rest⟩
  ·exact .inl hn
  ·exact .inr ⟨g, cap, cur, fz, hv, hbg, hk _ _ hg (.inr ⟨_, _, rfl⟩), rest⟩
 exact h.elim (fun x => .inl (key _ x)) (fun x => .inr (key _ x))
theorem bld_below {T e : TypeId} {B b : Nat} {bs : List Value} {w w' : World} (h : Lib.IsBuilderF T e B b bs w) (hb : Below w.heap.size w w') : Lib.IsBuilderF T e B b bs w' :=
 bld_kept h fun k o ho _ => by
  have hlt : k < w.heap.size := (Array.getElem?_eq_some_iff.1 ho).1
  rw [hb.block k hlt]
  exact ho
theorem blk_kept {w w' : World} {k : Nat} {o : Obj} (hb : Below w.heap.size w w') (h : w.heap[k]? = some o) : w'.heap[k]? = some o := by
 rw [hb.block k (Array.getElem?_eq_some_iff.1 h).1]
 exact h

/-- what stands between two references: the five variables that 'replaced' and its literal share -/
def RepI (BY b0 : Nat) (m : ByteArray) (g : ByteArray → ByteArray) (W0 : World) (pre : List (Nat × ByteArray × Nat)) (W : World) : Prop :=
 Lib.IsBuilderF 49 5 b0 (b0 + 2) (Lib.byteCells (repSt g m.data.toList pre).2) W ∧ W.heap[b0]? = some (.cells #[.string m] 9 (0, 0)) ∧
  W.heap[b0 + 1]? = some (.cells #[.func (.func BY) #[] #[]] 42 (0, 0)) ∧ W.heap[b0 + 3]? = some (.cells #[.int .i64 ((repSt g m.data.toList pre).1 : Nat)] 3 (0, 0)) ∧
  W.heap[b0 + 4]? = some (.cells #[.int .i64 (pre.length : Nat)] 3 (0, 0)) ∧ Below b0 W0 W
theorem RepI.below {BY b0 : Nat} {m : ByteArray} {g : ByteArray → ByteArray} {W0 : World} {pre : List (Nat × ByteArray × Nat)} {W W' : World} (h : RepI BY b0 m g W0 pre W) (hb : Below W.heap.size W W') : RepI BY b0 m g W0 pre W' := by
 obtain ⟨hI, hS, hBy, hF, hN, hB⟩ := h
 have hlt : b0 < W.heap.size := (Array.getElem?_eq_some_iff.1 hS).1
 exact ⟨bld_below hI hb, blk_kept hb hS, blk_kept hb hBy, blk_kept hb hF, blk_kept hb hN, hB.trans (hb.mono (by omega))⟩
end Go.Proofs.YthmbbkbmlnaghaaDoor.P
end
section
/-
  Named references in plain Lean: what the program's loops over the table tell.
-/
namespace Go.Proofs.YthmbbkbmlnaghaaDoor.P
open Go.RowKit Go.Proofs.YthmbbkbmlnaghaaDoorW.PrintWords Go.Proofs.YthmbbkbmlnaghaaDoorW.PrintLast Go.Proofs.YthmbbkbmlnaghaaDoorW.PrintMore
set_option linter.unusedVariables false
set_option linter.unusedSimpArgs false

abbrev Ent := S75
def nameL (x : Ent) : List UInt8 := x.f0.data.toList
def saysE (x : Ent) : List Int := if x.f2 = 0 then [x.f1] else [x.f1, x.f2]
def stepL (l : List UInt8) (acc : Nat × List Int) (x : Ent) : Nat × List Int :=
  if (nameL x).isPrefixOf l = true then
    (if (nameL x).length < l.length ∧ l.getD (nameL x).length 0 = 59 then (if acc.1 < (nameL x).length + 1 then ((nameL x).length + 1, saysE x) else acc)
     else if x.f3 = true then (if acc.1 < (nameL x).length then ((nameL x).length, saysE x) else acc) else acc)
  else acc
def longL (l : List UInt8) : Nat × List Int := ents.foldl (stepL l) (0, [])
def begL (l : List UInt8) : Bool := ents.any fun x => l.isPrefixOf (nameL x)

theorem ents_small : ∀ x ∈ ents, x.f0.size ≤ 100 := by decide +kernel
theorem ents_len : ents.length = 301 := by decide +kernel
theorem nameL_len (x : Ent) : (nameL x).length = x.f0.size := by simp [nameL]

theorem prefix_take (a p : List UInt8) : (p.isPrefixOf a = true) ↔ (p.length ≤ a.length ∧ a.take p.length = p) := by
  rw [List.isPrefixOf_iff_prefix, List.prefix_iff_eq_take]
  constructor
  · intro h
    refine ⟨?_, h.symm⟩
    have := congrArg List.length h
    rw [List.length_take] at this
    omega
  · exact fun h => h.2.symm
theorem hasPrefix_f (a b : ByteArray) : strings_HasPrefix.f a b = some (b.data.toList.isPrefixOf a.data.toList) := by
  unfold strings_HasPrefix.f stringslite_HasPrefix.f
  have ha : a.data.toList.length = a.size := by simp
  have hb : b.data.toList.length = b.size := by simp
  have e2 : b.toList = b.data.toList := ByteArray.toList_eq b
  by_cases h : b.size ≤ a.size
  · rw [if_pos (by omega), if_pos (by omega), if_pos (by omega)]
    show some _ = some _
    congr 1
    rw [Lib.extract_toList, e2, Bool.eq_iff_iff, beq_iff_eq, prefix_take, hb]
    simp only [Int.toNat_natCast, Nat.sub_zero, List.drop_zero]
    rw [ha]
    exact ⟨fun e => ⟨h, e⟩, fun e => e.2⟩
  · rw [if_neg (by omega)]
    show some false = some _
    congr 1
    symm
    rw [Bool.eq_false_iff, ne_eq, prefix_take, hb, ha]
    omega
theorem rdT_at (es : List Ent) (i : Nat) (h : i < es.length) : rd_T75 es (i : Int) = es[i] := by
  unfold rd_T75
  rw [Int.toNat_natCast, List.getD_eq_getElem?_getD, List.getElem?_eq_getElem h]
  rfl
theorem bt_l (s : ByteArray) (p : Nat) (h : p < s.size) : bt s (p : Int) = ((s.data.toList.getD p 0).toNat : Int) := by
  have hl : p < s.data.toList.length := by simpa using h
  have : s.data.toList.getD p 0 = s.data.toList[p] := by rw [List.getD_eq_getElem?_getD, List.getElem?_eq_getElem hl]; rfl
  rw [this]
  unfold bt
  simp only [Int.toNat_natCast]
  rw [dif_pos h]
  rfl
theorem u8_eq (b : UInt8) (n : Nat) (h : n < 256) : ((b.toNat : Int) = (n : Int)) ↔ b = UInt8.ofNat n := by
  constructor
  · intro e
    apply UInt8.toNat_inj.1
    rw [UInt8.toNat_ofNat_of_lt' h]
    omega
  · rintro rfl
    rw [UInt8.toNat_ofNat_of_lt' h]

theorem says_f (x : Ent) : entity_says.f x.f0 x.f1 x.f2 x.f3 = some (saysE x) := by
  unfold entity_says.f saysE
  split <;> rfl

set_option maxHeartbeats 4000000 in
theorem longest_l0 (s : ByteArray) (es : List Ent) (hes : es.length ≤ 100000) (hsm : ∀ x ∈ es, x.f0.size ≤ 100) : ∀ (d i k n : Nat) (out : List Int), es.length - i = d → i ≤ es.length → 2 * d + 1 ≤ k →
    entity_Longest.l0 k s (n : Int) out es (es.length : Int) (i : Int) = some ((((es.drop i).foldl (stepL s.data.toList) (n, out)).1 : Int), ((es.drop i).foldl (stepL s.data.toList) (n, out)).2)
  | 0, i, k, n, out, hd, hi, hk => by
    obtain ⟨k, rfl⟩ : ∃ j, k = j + 1 := ⟨k - 1, by omega⟩
    obtain rfl : i = es.length := by omega
    rw [entity_Longest.l0, if_neg (by omega), List.drop_length]
    rfl
  | d + 1, i, k, n, out, hd, hi, hk => by
    obtain ⟨k, rfl⟩ : ∃ j, k = j + 2 := ⟨k - 2, by omega⟩
    have hlt : i < es.length := by omega
    have HW := Aside0.mk (show wrap64 ((i : Int) + 1) = ((i + 1 : Nat) : Int) by unfold wrap64; omega)
    rw [List.drop_eq_getElem_cons hlt, List.foldl_cons]
    have hx := hsm es[i] (List.getElem_mem hlt)
    generalize hxe : es[i] = x at hx
    have hnl := nameL_len x
    have hsl : s.data.toList.length = s.size := by simp
    have ih1 := fun (n : Nat) (out : List Int) => longest_l0 s es hes hsm d (i + 1) (k + 1) n out (by omega) (by omega) (by omega)
    have ih2 := fun (n : Nat) (out : List Int) => longest_l0 s es hes hsm d (i + 1) k n out (by omega) (by omega) (by omega)
    rw [entity_Longest.l0, if_pos (by omega), if_pos (by omega), if_pos (by omega), rdT_at es i hlt, hxe, hasPrefix_f, HW.out]
    rw [Option.bind_some]
    by_cases hp : x.f0.data.toList.isPrefixOf s.data.toList = true
    · rw [if_pos hp]
      have hp' : (nameL x).isPrefixOf s.data.toList = true := hp
      have hle := ((prefix_take _ _).1 hp').1
      have HW2 := Aside0.mk (show wrap64 ((x.f0.size : Int) + 1) = ((x.f0.size + 1 : Nat) : Int) by unfold wrap64; omega)
      -- the test for a semicolon
      have hj : ∀ b : Bool, b = decide ((nameL x).length < s.data.toList.length ∧ s.data.toList.getD (nameL x).length 0 = 59) →
          entity_Longest.j1 (k + 1) s (n : Int) out (x.f0.size : Int) es (es.length : Int) (i : Int) b x.f0 x.f1 x.f2 x.f3 =
            some ((((es.drop (i + 1)).foldl (stepL s.data.toList) (stepL s.data.toList (n, out) x)).1 : Int), ((es.drop (i + 1)).foldl (stepL s.data.toList) (stepL s.data.toList (n, out) x)).2) := by
        rintro b hb
        rw [entity_Longest.j1, HW2.out, says_f, HW.out]
        have hs : stepL s.data.toList (n, out) x = (if (nameL x).length < s.data.toList.length ∧ s.data.toList.getD (nameL x).length 0 = 59 then (if n < (nameL x).length + 1 then ((nameL x).length + 1, saysE x) else (n, out))
            else if x.f3 = true then (if n < (nameL x).length then ((nameL x).length, saysE x) else (n, out)) else (n, out)) := by
          unfold stepL
          rw [if_pos hp']
        rw [hs]
        by_cases hc : (nameL x).length < s.data.toList.length ∧ s.data.toList.getD (nameL x).length 0 = 59
        · rw [hb, if_pos (decide_eq_true hc), if_pos hc]
          by_cases hm : n < (nameL x).length + 1
          · have hm1 : ((x.f0.size + 1 : Nat) : Int) > (n : Int) := by omega
            rw [if_pos hm1, if_pos hm]
            rw [Option.bind_some]
            rw [ih2, hnl]
          · rw [if_neg (by omega), if_neg hm, ih2]
        · rw [hb, if_neg (by simpa using hc), if_neg hc]
          by_cases h3 : x.f3 = true
          · rw [if_pos h3, if_pos h3]
            by_cases hm : n < (nameL x).length
            · rw [if_pos (by omega), if_pos hm]
              rw [Option.bind_some]
              rw [ih2, hnl]
            · rw [if_neg (by omega), if_neg hm, ih2]
          · rw [if_neg h3, if_neg h3, ih2]
      by_cases hc1 : x.f0.size < s.size
      · rw [if_pos (by omega), if_pos (by omega)]
        refine hj _ ?_
        rw [bt_l s _ hc1, Bool.eq_iff_iff, beq_iff_eq, decide_eq_true_iff, hnl, hsl]
        have := u8_eq (s.data.toList.getD x.f0.size 0) 59 (by decide)
        exact ⟨fun e => ⟨hc1, this.1 e⟩, fun e => this.2 e.2⟩
      · rw [if_neg (by omega)]
        refine hj _ ?_
        symm
        rw [decide_eq_false_iff_not, hnl, hsl]
        omega
    · rw [if_neg hp]
      have hp' : ¬ (nameL x).isPrefixOf s.data.toList = true := hp
      have hstep : stepL s.data.toList (n, out) x = (n, out) := by unfold stepL; rw [if_neg hp']
      rw [hstep, ih1]
theorem longest_f (s : ByteArray) (k : Nat) (hk : 603 ≤ k) : entity_Longest.f k s = some (((longL s.data.toList).1 : Int), (longL s.data.toList).2) := by
  unfold entity_Longest.f
  show entity_Longest.l0 k s ((0 : Nat) : Int) [] ents (ents.length : Int) ((0 : Nat) : Int) = _
  rw [longest_l0 s ents (by rw [ents_len]; omega) ents_small ents.length 0 k 0 [] (by omega) (by omega) (by rw [ents_len]; omega)]
  rfl

theorem begins_l0 (s : ByteArray) (es : List Ent) (hes : es.length ≤ 100000) : ∀ (d i k : Nat), es.length - i = d → i ≤ es.length → d + 1 ≤ k →
    entity_Begins.l0 k s es (es.length : Int) (i : Int) = some ((es.drop i).any fun x => s.data.toList.isPrefixOf (nameL x))
  | 0, i, k, hd, hi, hk => by
    obtain ⟨k, rfl⟩ : ∃ j, k = j + 1 := ⟨k - 1, by omega⟩
    obtain rfl : i = es.length := by omega
    rw [entity_Begins.l0, if_neg (by omega), List.drop_length]
    rfl
  | d + 1, i, k, hd, hi, hk => by
    obtain ⟨k, rfl⟩ : ∃ j, k = j + 1 := ⟨k - 1, by omega⟩
    have hlt : i < es.length := by omega
    have HW := Aside0.mk (show wrap64 ((i : Int) + 1) = ((i + 1 : Nat) : Int) by unfold wrap64; omega)
    have ih := begins_l0 s es hes d (i + 1) k (by omega) (by omega) (by omega)
    rw [List.drop_eq_getElem_cons hlt, List.any_cons]
    rw [entity_Begins.l0, if_pos (by omega), if_pos (by omega), if_pos (by omega), rdT_at es i hlt, HW.out]
    generalize es[i] = x
    have hnl := nameL_len x
    have hsl : s.data.toList.length = s.size := by simp
    by_cases hc : s.size ≤ x.f0.size
    · rw [if_pos (by omega), hasPrefix_f]
      rw [Option.bind_some]
      by_cases hp : s.data.toList.isPrefixOf x.f0.data.toList = true
      · rw [if_pos hp]
        have : s.data.toList.isPrefixOf (nameL x) = true := hp
        rw [this]
        rfl
      · rw [if_neg hp, ih]
        have : s.data.toList.isPrefixOf (nameL x) = false := Bool.eq_false_iff.2 hp
        rw [this]
        rfl
    · rw [if_neg (by omega), ih]
      have : s.data.toList.isPrefixOf (nameL x) = false := by
        rw [Bool.eq_false_iff, ne_eq, prefix_take]
        omega
      rw [this]
      rfl
theorem begins_f (s : ByteArray) (k : Nat) (hk : 302 ≤ k) : entity_Begins.f k s = some (begL s.data.toList) := by
  unfold entity_Begins.f
  show entity_Begins.l0 k s ents (ents.length : Int) ((0 : Nat) : Int) = _
  rw [begins_l0 s ents (by rw [ents_len]; omega) ents.length 0 k (by omega) (by omega) (by rw [ents_len]; omega)]
  rfl
end Go.Proofs.YthmbbkbmlnaghaaDoor.P
end
section
/-
  charref.named in plain Lean.
-/
namespace Go.Proofs.YthmbbkbmlnaghaaDoor.P
open Go.RowKit Go.Proofs.YthmbbkbmlnaghaaDoorW.PrintWords Go.Proofs.YthmbbkbmlnaghaaDoorW.PrintLast Go.Proofs.YthmbbkbmlnaghaaDoorW.PrintMore
set_option linter.unusedVariables false
set_option linter.unusedSimpArgs false

def wordB (b : Nat) : Bool := decide ((65 ≤ b ∧ b ≤ 90) ∨ (97 ≤ b ∧ b ≤ 122) ∨ (48 ≤ b ∧ b ≤ 57))
theorem word_all : ∀ b : Fin 256, charref_word.f ((b.val : Nat) : Int) = some (wordB b.val) := by decide +kernel

theorem stepL_le (l : List UInt8) (acc : Nat × List Int) (x : Ent) (h : acc.1 ≤ l.length) : (stepL l acc x).1 ≤ l.length := by
  unfold stepL
  by_cases hp : (nameL x).isPrefixOf l = true
  · rw [if_pos hp]
    have := ((prefix_take _ _).1 hp).1
    by_cases hc : (nameL x).length < l.length ∧ l.getD (nameL x).length 0 = 59
    · rw [if_pos hc]
      split
      · exact hc.1
      · exact h
    · rw [if_neg hc]
      split
      · split
        · exact this
        · exact h
      · exact h
  · rw [if_neg hp]
    exact h
theorem foldL_le (l : List UInt8) : ∀ (es : List Ent) (acc : Nat × List Int), acc.1 ≤ l.length → (es.foldl (stepL l) acc).1 ≤ l.length
  | [], acc, h => h
  | x :: t, acc, h => foldL_le l t _ (stepL_le l acc x h)
theorem longL_le (l : List UInt8) : (longL l).1 ≤ l.length := foldL_le l ents (0, []) (Nat.zero_le _)

theorem foldL_small (l : List UInt8) : ∀ (es : List Ent) (acc : Nat × List Int), acc.1 ≤ 101 → (∀ x ∈ es, x.f0.size ≤ 100) → (es.foldl (stepL l) acc).1 ≤ 101
  | [], acc, h, _ => h
  | x :: t, acc, h, hs => by
    refine foldL_small l t _ ?_ (fun y hy => hs y (List.mem_cons_of_mem _ hy))
    have hx := hs x List.mem_cons_self
    have hn := nameL_len x
    unfold stepL
    split
    · split
      · split
        · show (nameL x).length + 1 ≤ 101
          omega
        · exact h
      · split
        · split
          · show (nameL x).length ≤ 101
            omega
          · exact h
        · exact h
    · exact h
theorem longL_small (l : List UInt8) : (longL l).1 ≤ 101 := foldL_small l ents (0, []) (Nat.zero_le _) ents_small

def emp : ByteArray := ⟨#[]⟩
def namedL (l : List UInt8) (attr e : Bool) : ByteArray × Int × Bool :=
  if e = false ∧ begL l = true then (emp, 0, false)
  else if (longL l).1 = 0 then (emp, 0, true)
  else if attr = true ∧ l.getD ((longL l).1 - 1) 0 ≠ 59 then
    (if (longL l).1 = l.length then (if e = true then (Hc_text (longL l).2, ((longL l).1 : Int), true) else (emp, 0, false))
     else if wordB (l.getD (longL l).1 0).toNat = true then (emp, 0, true)
     else if l.getD (longL l).1 0 = 61 then (emp, 0, true) else (Hc_text (longL l).2, ((longL l).1 : Int), true))
  else (Hc_text (longL l).2, ((longL l).1 : Int), true)

theorem named_j1 (k : Nat) (s : ByteArray) (e : Bool) (n : Nat) (o : List Int) (b : Bool) (hn : n ≤ s.size) :
    charref_named.j1 (k + 1) s e (n : Int) o b = some (if b = true then
      (if n = s.data.toList.length then (if e = true then (Hc_text o, (n : Int), true) else (emp, 0, false))
       else if wordB (s.data.toList.getD n 0).toNat = true then (emp, 0, true)
       else if s.data.toList.getD n 0 = 61 then (emp, 0, true) else (Hc_text o, (n : Int), true))
      else (Hc_text o, (n : Int), true)) := by
  have hsl : s.data.toList.length = s.size := by simp
  rw [charref_named.j1]
  by_cases hb : b = true
  · rw [if_pos hb, if_pos hb, hsl]
    by_cases h1 : n = s.size
    · rw [if_pos (by omega), if_pos h1]
      split <;> rfl
    · rw [if_neg (by omega), if_neg h1, if_pos (by omega), if_pos (by omega), bt_l s n (by omega)]
      have hw := word_all ⟨_, UInt8.toNat_lt (s.data.toList.getD n 0)⟩
      simp only at hw
      rw [hw, Option.bind_some]
      have hq : ((s.data.toList.getD n 0).toNat : Int) = 61 ↔ s.data.toList.getD n 0 = 61 := u8_eq (s.data.toList.getD n 0) 61 (by decide)
      by_cases h2 : wordB (s.data.toList.getD n 0).toNat = true
      · rw [if_pos h2, if_pos h2]
        rfl
      · rw [if_neg h2, if_neg h2]
        by_cases h3 : s.data.toList.getD n 0 = 61
        · rw [if_pos h3, if_pos (hq.2 h3)]
          rfl
        · rw [if_neg h3, if_neg (fun e => h3 (hq.1 e))]
  · rw [if_neg hb, if_neg hb]
theorem named_j0 (k : Nat) (hk : 603 ≤ k) (s : ByteArray) (attr e b : Bool) :
    charref_named.j0 (k + 2) s attr e b = some (if b = true then (emp, 0, false) else if (longL s.data.toList).1 = 0 then (emp, 0, true)
      else if attr = true ∧ s.data.toList.getD ((longL s.data.toList).1 - 1) 0 ≠ 59 then
        (if (longL s.data.toList).1 = s.data.toList.length then (if e = true then (Hc_text (longL s.data.toList).2, ((longL s.data.toList).1 : Int), true) else (emp, 0, false))
         else if wordB (s.data.toList.getD (longL s.data.toList).1 0).toNat = true then (emp, 0, true)
         else if s.data.toList.getD (longL s.data.toList).1 0 = 61 then (emp, 0, true) else (Hc_text (longL s.data.toList).2, ((longL s.data.toList).1 : Int), true))
      else (Hc_text (longL s.data.toList).2, ((longL s.data.toList).1 : Int), true)) := by
  have hle := longL_le s.data.toList
  have hsm := longL_small s.data.toList
  have hsl : s.data.toList.length = s.size := by simp
  rw [charref_named.j0]
  by_cases hb : b = true
  · rw [if_pos hb, if_pos hb]
    rfl
  rw [if_neg hb, if_neg hb, longest_f s (k + 1) (by omega), Option.bind_some]
  generalize longL s.data.toList = q at hle hsm
  obtain ⟨n, o⟩ := q
  simp only at hle hsm ⊢
  by_cases h0 : n = 0
  · rw [if_pos (by omega), if_pos h0]
    rfl
  rw [if_neg (by omega), if_neg h0]
  by_cases ha : attr = true
  · have HW := Aside0.mk (show wrap64 ((n : Int) - 1) = ((n - 1 : Nat) : Int) by unfold wrap64; omega)
    rw [if_pos ha, HW.out, if_pos (by omega), if_pos (by omega), named_j1 k s e n o _ (by omega), bt_l s (n - 1) (by omega)]
    have hq : ((s.data.toList.getD (n - 1) 0).toNat : Int) = 59 ↔ s.data.toList.getD (n - 1) 0 = 59 := u8_eq (s.data.toList.getD (n - 1) 0) 59 (by decide)
    by_cases h59 : s.data.toList.getD (n - 1) 0 = 59
    · rw [if_neg (by rw [bne_iff_ne]; exact fun h => h (hq.2 h59)), if_neg (fun h => h.2 h59)]
    · rw [if_pos (by rw [bne_iff_ne]; exact fun h => h59 (hq.1 h)), if_pos (show attr = true ∧ s.data.toList.getD (n - 1) 0 ≠ 59 from ⟨ha, h59⟩)]
  · rw [if_neg ha, named_j1 k s e n o _ (by omega), if_neg (by decide), if_neg (fun h => ha h.1)]
theorem named_f (k : Nat) (hk : 605 ≤ k) (s : ByteArray) (attr e : Bool) : charref_named.f k s attr e = some (namedL s.data.toList attr e) := by
  obtain ⟨j, rfl⟩ : ∃ j, k = j + 2 := ⟨k - 2, by omega⟩
  unfold charref_named.f namedL
  cases e with
  | true =>
    rw [if_pos rfl, named_j0 j (by omega), if_neg (show ¬ (false = true) by decide), if_neg (show ¬ (true = false ∧ begL s.data.toList = true) from fun h => by cases h.1)]
  | false =>
    rw [if_neg (by decide), begins_f s _ (by omega), Option.bind_some, named_j0 j (by omega)]
    by_cases hb : begL s.data.toList = true
    · rw [if_pos hb, if_pos (show false = false ∧ begL s.data.toList = true from ⟨rfl, hb⟩)]
    · rw [if_neg hb, if_neg (show ¬ (false = false ∧ begL s.data.toList = true) from fun h => hb h.2)]
end Go.Proofs.YthmbbkbmlnaghaaDoor.P
end
section
/-
 charref.Number in plain Lean.
-/
namespace Go.Proofs.YthmbbkbmlnaghaaDoor.P
open Go.RowKit Go.Proofs.YthmbbkbmlnaghaaDoorW.PrintWords Go.Proofs.YthmbbkbmlnaghaaDoorW.PrintLast Go.Proofs.YthmbbkbmlnaghaaDoorW.PrintMore
set_option linter.unusedVariables false
set_option linter.unusedSimpArgs false

theorem digV_range : ∀ b : Fin 256, -1 ≤ digV b.val ∧ digV b.val ≤ 15 := by decide +kernel
theorem value_f (k : Nat) (b : UInt8) : names_Value.f (k + 1) (wrap32 (b.toNat : Int)) = some (digV b.toNat) := by
 have h := digV_all ⟨b.toNat, UInt8.toNat_lt b⟩
 exact (show names_Value.f (k + 1) (wrap32 (b.toNat : Int)) = names_Value.f 9 (wrap32 (b.toNat : Int)) from rfl).trans h
/-- what digits say so far -/
def numStep (base : Nat) (n : Nat) (b : UInt8) : Nat := min (n * base + (digV b.toNat).toNat) 1114112
def numL (hex : Bool) (l : List UInt8) : Int × Bool :=
 if l.all (isDig hex) = true then (if l = [] then (65533, false) else saysF ((l.foldl (numStep (if hex = true then 16 else 10)) 0 : Nat) : Int)) else (65533, false)

theorem num_step10 (n v : Nat) (hn : n ≤ 1114112) (hv : v ≤ 15) : mn (wrap64 ((wrap64 ((n : Int) * 10)) + (v : Int))) 1114112 = ((min (n * 10 + v) 1114112 : Nat) : Int) := by
 have e1 : wrap64 ((n : Int) * 10) = (n : Int) * 10 := by unfold wrap64; omega
 rw [e1]
 have e2 : wrap64 ((n : Int) * 10 + (v : Int)) = (n : Int) * 10 + (v : Int) := by clear e1; unfold wrap64; omega
 rw [e2]
 clear e1 e2
 unfold mn
 split <;> omega
theorem num_step16 (n v : Nat) (hn : n ≤ 1114112) (hv : v ≤ 15) : mn (wrap64 ((wrap64 ((n : Int) * 16)) + (v : Int))) 1114112 = ((min (n * 16 + v) 1114112 : Nat) : Int) := by
 have e1 : wrap64 ((n : Int) * 16) = (n : Int) * 16 := by unfold wrap64; omega
 rw [e1]
 have e2 : wrap64 ((n : Int) * 16 + (v : Int)) = (n : Int) * 16 + (v : Int) := by clear e1; unfold wrap64; omega
 rw [e2]
 clear e1 e2
 unfold mn
 split <;> omega

theorem number_l0 (s : ByteArray) (hs : s.size ≤ 9223372036854775807) (hex : Bool) (base : Nat) (hb : base = if hex = true then 16 else 10) (ok : Bool) : ∀ (d i k n : Nat), s.size - i = d → i ≤ s.size → n ≤ 1114112 → d + 2 ≤ k →
  charref_Number.l0 k s (base : Int) (n : Int) ok (s.size : Int) (i : Int) =
   some (if (s.data.toList.drop i).all (isDig hex) = true then (if ok = true then saysF (((s.data.toList.drop i).foldl (numStep base) n : Nat) : Int) else (65533, false)) else (65533, false))
 | 0, i, k, n, hd, hi, hn, hk => by
  obtain ⟨k, rfl⟩ : ∃ j, k = j + 1 := ⟨k - 1, by omega⟩
  obtain rfl : i = s.size := by omega
  have he : s.data.toList.drop s.size = [] := List.drop_eq_nil_of_le (by simp)
  rw [charref_Number.l0, if_neg (by omega), he]
  simp only [List.all_nil, List.foldl_nil, if_true]
  by_cases ho : ok = true
  ·rw [if_pos ho, if_pos ho]
   have : charref_says.f (n : Int) = some (saysF (n : Int)) := by unfold charref_says.f; rw [if_pos (by omega)]
   rw [this]
   rfl
  ·rw [if_neg ho, if_neg ho]
 | d + 1, i, k, n, hd, hi, hn, hk => by
  obtain ⟨k, rfl⟩ : ∃ j, k = j + 2 := ⟨k - 2, by omega⟩
  have hlt : i < s.size := by omega
  have hl : i < s.data.toList.length := by simpa using hlt
  have hdr := List.drop_eq_getElem_cons hl
  have hg : s.data.toList.getD i 0 = s.data.toList[i] := by rw [List.getD_eq_getElem?_getD, List.getElem?_eq_getElem hl]; rfl
  have ih := fun (n : Nat) (hn : n ≤ 1114112) => number_l0 s hs hex base hb ok d (i + 1) (k + 1) n (by omega) (by omega) hn (by omega)
  rw [hdr, List.all_cons, List.foldl_cons]
  rw [charref_Number.l0, if_pos (by omega), if_pos (by omega), if_pos (by omega), bt_l s i hlt, hg, value_f, Option.bind_some]
  generalize s.data.toList[i] = b
  have hr := digV_range ⟨b.toNat, UInt8.toNat_lt b⟩
  simp only at hr
  have hbase : base = 10 ∨ base = 16 := by subst hb; split <;> simp
  by_cases h0 : digV b.toNat < 0
  ·have hd0 : isDig hex b = false := by unfold isDig; rw [decide_eq_false (by omega), Bool.false_and]
   rw [if_pos h0, hd0, Bool.false_and, if_neg (by decide)]
  rw [if_neg h0]
  by_cases h1 : digV b.toNat ≥ (base : Int)
  ·have hd0 : isDig hex b = false := by
    unfold isDig
    cases hex with
    | true => simp at hb; omega
    | false => simp at hb; rw [Bool.false_or, decide_eq_false (by omega : ¬ digV b.toNat < 10), Bool.and_false]
   rw [if_pos h1, hd0, Bool.false_and, if_neg (by decide)]
  rw [if_neg h1]
  have hd1 : isDig hex b = true := by
   unfold isDig
   rw [decide_eq_true (by omega), Bool.true_and]
   cases hex with
   | true => rfl
   | false => simp at hb; rw [Bool.false_or, decide_eq_true (by omega)]
  have HM := Aside0.mk (show mn (wrap64 ((wrap64 ((n : Int) * (base : Int))) + digV b.toNat)) 1114112 = ((numStep base n b : Nat) : Int) by
   obtain ⟨v, hv⟩ : ∃ v : Nat, digV b.toNat = v := ⟨(digV b.toNat).toNat, by omega⟩
   unfold numStep
   rw [hv, Int.toNat_natCast]
   rcases hbase with hb2 | hb2
   ·rw [hb2]; exact num_step10 n v hn (by omega)
   ·rw [hb2]; exact num_step16 n v hn (by omega))
  have HW := Aside0.mk (show wrap64 ((i : Int) + 1) = ((i + 1 : Nat) : Int) by unfold wrap64; omega)
  rw [HM.out, HW.out, ih _ (by unfold numStep; omega), hd1, Bool.true_and]
theorem number_f (k : Nat) (s : ByteArray) (hs : s.size ≤ 9223372036854775807) (hk : s.size + 4 ≤ k) (hex : Bool) : charref_Number.f k s hex = some (numL hex s.data.toList) := by
 obtain ⟨j, rfl⟩ : ∃ j, k = j + 1 := ⟨k - 1, by omega⟩
 have hne : (s.toList != ([] : List UInt8)) = decide (s.data.toList ≠ []) := by rw [ByteArray.toList_eq, Bool.eq_iff_iff, bne_iff_ne, decide_eq_true_iff]
 have key : ∀ base : Nat, base = (if hex = true then 16 else 10) → charref_Number.j0 (j + 1) s (base : Int) = some (numL hex s.data.toList) := by
  intro base hb
  rw [charref_Number.j0]
  have := number_l0 s hs hex base hb (s.toList != ([] : List UInt8)) s.size 0 j 0 (by omega) (by omega) (by omega) (by omega)
  rw [List.drop_zero] at this
  refine Eq.trans this ?_
  unfold numL
  rw [hne, hb]
  by_cases h : s.data.toList = []
  ·simp [h]
  ·simp [h]
 unfold charref_Number.f
 cases hex with
 | true => rw [if_pos rfl]; exact key 16 rfl
 | false => rw [if_neg (by decide)]; exact key 10 rfl
end Go.Proofs.YthmbbkbmlnaghaaDoor.P
end
section
/-
 charref.next in plain Lean: total on every text that is not too long.
-/
namespace Go.Proofs.YthmbbkbmlnaghaaDoor.P
open Go.RowKit Go.Proofs.YthmbbkbmlnaghaaDoorW.PrintWords Go.Proofs.YthmbbkbmlnaghaaDoorW.PrintLast Go.Proofs.YthmbbkbmlnaghaaDoorW.PrintMore
set_option linter.unusedVariables false
set_option linter.unusedSimpArgs false

/-- what a numeric reference says -/
def numericP (s : ByteArray) (e : Bool) : ByteArray × Int × Bool :=
 if s.size = 1 then (emp, 0, e)
 else if numAt s = s.size ∧ e = false then (emp, 0, false)
 else if numAt s = numFrom s then (emp, 0, true)
 else (Utf8.encode (numL (numHex s) (s.extract (numFrom s) (numAt s)).data.toList).1, ((if numAt s < s.size ∧ bt s (numAt s : Nat) = 59 then numAt s + 1 else numAt s : Nat) : Int), true)
theorem numeric_f (k : Nat) (s : ByteArray) (e : Bool) (hs : s.size ≤ 35184372088831) (h1 : 1 ≤ s.size) (hk : s.size + 4 ≤ k) : charref_numeric.f k s e = some (numericP s e) := by
 unfold charref_numeric.f numericP
 rw [if_pos ⟨hs, h1⟩]
 by_cases c1 : s.size = 1
 ·rw [if_pos c1, if_pos c1]
  rfl
 rw [if_neg c1, if_neg c1]
 by_cases c2 : numAt s = s.size ∧ e = false
 ·rw [if_pos c2, if_pos c2]
  rfl
 rw [if_neg c2, if_neg c2]
 by_cases c3 : numAt s = numFrom s
 ·rw [if_pos c3, if_pos c3]
  rfl
 rw [if_neg c3, if_neg c3, number_f k _ (by simp; omega) (by simp; omega), Option.bind_some]
def nextP (s : ByteArray) (attr e : Bool) : ByteArray × Int × Bool :=
 if s.data.toList ≠ [] ∧ s.data.toList.getD 0 0 = 35 then numericP s e else namedL s.data.toList attr e
theorem next_f (k : Nat) (s : ByteArray) (attr e : Bool) (hs : s.size ≤ 35184372088831) (hk : s.size + 610 ≤ k) : charref_next.f k s attr e = some (nextP s attr e) := by
 obtain ⟨j, rfl⟩ : ∃ j, k = j + 1 := ⟨k - 1, by omega⟩
 unfold charref_next.f nextP
 have hsl : s.data.toList.length = s.size := by simp
 rw [ByteArray.toList_eq]
 by_cases h0 : s.data.toList = []
 ·rw [if_pos h0, if_neg (show ¬ (s.data.toList ≠ [] ∧ _) from fun h => h.1 h0), charref_next.j0, if_neg (by decide), named_f j (by omega), Option.bind_some]
 ·have hpos : 0 < s.size := by rw [← hsl]; exact List.length_pos_iff.2 h0
  have hb : bt s 0 = ((s.data.toList.getD 0 0).toNat : Int) := bt_l s 0 hpos
  have hq : ((s.data.toList.getD 0 0).toNat : Int) = 35 ↔ s.data.toList.getD 0 0 = 35 := u8_eq _ 35 (by decide)
  rw [if_neg h0, if_pos (by omega), hb, charref_next.j0]
  by_cases c : s.data.toList.getD 0 0 = 35
  ·rw [if_pos (beq_iff_eq.2 (hq.2 c)), if_pos (show s.data.toList ≠ [] ∧ s.data.toList.getD 0 0 = 35 from ⟨h0, c⟩), numeric_f j s e hs (by omega) (by omega), Option.bind_some]
  ·rw [if_neg (by rw [beq_iff_eq]; exact fun h => c (hq.1 h)), if_neg (show ¬ (s.data.toList ≠ [] ∧ s.data.toList.getD 0 0 = 35) from fun h => c h.2), named_f j (by omega), Option.bind_some]
end Go.Proofs.YthmbbkbmlnaghaaDoor.P
end
section
/-
  UTF-8 in plain Lean: the runes of bytes, the bytes of runes, there and back.
-/
set_option linter.unusedVariables false
namespace Go.Proofs.YthmbbkbmlnaghaaDoor.P
open Go.Lib

/-- the rune at the head, its width, and 0: whole, 1: wrong, 2: begun -/
def rdN (n b0 b1 b2 b3 : Nat) : Nat × Nat × Nat :=
  if b0 < 128 then (b0, 1, 0)
  else if b0 < 194 then (65533, 1, 1)
  else if b0 < 224 then
    (if n ≤ 1 then (65533, 1, 2) else if b1 < 128 ∨ 191 < b1 then (65533, 1, 1) else (b0 % 32 * 64 + b1 % 64, 2, 0))
  else if b0 < 240 then
    (if n ≤ 1 then (65533, 1, 2) else if b1 < 128 ∨ 191 < b1 ∨ (b0 = 224 ∧ b1 < 160) ∨ (b0 = 237 ∧ 159 < b1) then (65533, 1, 1)
     else if n ≤ 2 then (65533, 2, 2) else if b2 < 128 ∨ 191 < b2 then (65533, 2, 1)
     else (b0 % 16 * 4096 + b1 % 64 * 64 + b2 % 64, 3, 0))
  else if b0 < 245 then
    (if n ≤ 1 then (65533, 1, 2) else if b1 < 128 ∨ 191 < b1 ∨ (b0 = 240 ∧ b1 < 144) ∨ (b0 = 244 ∧ 143 < b1) then (65533, 1, 1)
     else if n ≤ 2 then (65533, 2, 2) else if b2 < 128 ∨ 191 < b2 then (65533, 2, 1)
     else if n ≤ 3 then (65533, 3, 2) else if b3 < 128 ∨ 191 < b3 then (65533, 3, 1)
     else (b0 % 8 * 262144 + b1 % 64 * 4096 + b2 % 64 * 64 + b3 % 64, 4, 0))
  else (65533, 1, 1)

def goodR (r : Int) : Prop := (0 ≤ r ∧ r < 55296) ∨ (57344 ≤ r ∧ r ≤ 1114111)
instance (r : Int) : Decidable (goodR r) := by unfold goodR; infer_instance

theorem ite_ok {α : Type} {P : α → Prop} {c : Prop} [Decidable c] {a b : α} (hp : c → P a) (hn : ¬ c → P b) : P (if c then a else b) := by
  split
  · exact hp ‹_›
  · exact hn ‹_›

def FactsN (n : Nat) (r : Nat × Nat × Nat) : Prop :=
  1 ≤ r.2.1 ∧ r.2.1 ≤ n ∧ r.2.1 ≤ 4 ∧ r.2.2 ≤ 2 ∧ (r.1 < 55296 ∨ (57344 ≤ r.1 ∧ r.1 ≤ 1114111)) ∧ (r.2.2 ≠ 0 → r.1 = 65533)

theorem rdN_facts (n b0 b1 b2 b3 : Nat) (hn : 1 ≤ n) (h0 : b0 < 256) (h1 : b1 < 256) (h2 : b2 < 256) (h3 : b3 < 256) : FactsN n (rdN n b0 b1 b2 b3) := by
  unfold rdN
  repeat' (refine ite_ok (fun _ => ?_) (fun _ => ?_))
  all_goals (refine ⟨?_, ?_, ?_, ?_, ?_, fun _ => ?_⟩ <;> simp only at * <;> omega)

def DecN (n b0 b1 b2 b3 : Nat) (r : Nat × Nat × Nat) : Prop := decodeN n b0 b1 b2 b3 = if r.2.2 = 0 then (r.1, r.2.1) else (65533, 1)
set_option maxHeartbeats 2000000 in
set_option maxRecDepth 100000 in
/-- against the model's own decode -/
theorem rdN_decode (n b0 b1 b2 b3 : Nat) (hn : 1 ≤ n) (h0 : b0 < 256) (h1 : b1 < 256) (h2 : b2 < 256) (h3 : b3 < 256) : DecN n b0 b1 b2 b3 (rdN n b0 b1 b2 b3) := by
  unfold rdN
  repeat' (with_reducible refine ite_ok (P := DecN n b0 b1 b2 b3) (fun _ => ?_) (fun _ => ?_))
  all_goals (unfold DecN decodeN; simp only [Nat.succ_ne_zero, if_true, if_false])
  all_goals (repeat' split)
  all_goals first | rfl | (exfalso; omega) | omega

/-! ### lists of bytes -/
def rdL (l : List UInt8) : Nat × Nat × Nat := rdN l.length (l.getD 0 0).toNat (l.getD 1 0).toNat (l.getD 2 0).toNat (l.getD 3 0).toNat

theorem rdL_facts (l : List UInt8) (h : l ≠ []) : FactsN l.length (rdL l) :=
  rdN_facts _ _ _ _ _ (List.length_pos_iff.2 h) (UInt8.toNat_lt _) (UInt8.toNat_lt _) (UInt8.toNat_lt _) (UInt8.toNat_lt _)

theorem rdL_decode (l : List UInt8) (h : l ≠ []) : decodeL l = if (rdL l).2.2 = 0 then ((rdL l).1, (rdL l).2.1) else (65533, 1) := by
  rw [decodeL_N]
  exact rdN_decode _ _ _ _ _ (List.length_pos_iff.2 h) (UInt8.toNat_lt _) (UInt8.toNat_lt _) (UInt8.toNat_lt _) (UInt8.toNat_lt _)

/-- the runes of bytes -/
def runesGo : Nat → List UInt8 → List Int
  | 0, _ => []
  | n + 1, l => if l = [] then [] else ((rdL l).1 : Int) :: runesGo n (l.drop (rdL l).2.1)
def runes (l : List UInt8) : List Int := runesGo l.length l

theorem runesGo_nil (n : Nat) : runesGo n [] = [] := by cases n <;> simp [runesGo]
theorem runesGo_fuel : ∀ (n m : Nat) (l : List UInt8), l.length ≤ n → l.length ≤ m → runesGo n l = runesGo m l
  | 0, m, l, hn, _ => by
    obtain rfl : l = [] := List.eq_nil_of_length_eq_zero (by omega)
    rw [runesGo_nil, runesGo_nil]
  | n + 1, 0, l, _, hm => by
    obtain rfl : l = [] := List.eq_nil_of_length_eq_zero (by omega)
    rw [runesGo_nil, runesGo_nil]
  | n + 1, m + 1, l, hn, hm => by
    unfold runesGo
    by_cases hne : l = []
    · simp [hne]
    · have hw := (rdL_facts l hne).1
      have hl : 0 < l.length := List.length_pos_iff.2 hne
      rw [if_neg hne, if_neg hne, runesGo_fuel n m (l.drop (rdL l).2.1) (by rw [List.length_drop]; omega) (by rw [List.length_drop]; omega)]
theorem runes_nil : runes [] = [] := rfl
theorem runes_step (l : List UInt8) (hne : l ≠ []) : runes l = ((rdL l).1 : Int) :: runes (l.drop (rdL l).2.1) := by
  have hl : 0 < l.length := List.length_pos_iff.2 hne
  have hw := (rdL_facts l hne).1
  obtain ⟨n, hn⟩ : ∃ n, l.length = n + 1 := ⟨l.length - 1, by omega⟩
  unfold runes
  rw [hn]
  show (if l = [] then [] else _) = _
  rw [if_neg hne, runesGo_fuel n (l.drop (rdL l).2.1).length _ (by rw [List.length_drop]; omega) (Nat.le_refl _)]

/-- all is whole -/
def validGo : Nat → List UInt8 → Bool
  | 0, _ => true
  | n + 1, l => if l = [] then true else if (rdL l).2.2 = 0 then validGo n (l.drop (rdL l).2.1) else false
def valid (l : List UInt8) : Bool := validGo l.length l
theorem validGo_nil (n : Nat) : validGo n [] = true := by cases n <;> simp [validGo]
theorem validGo_fuel : ∀ (n m : Nat) (l : List UInt8), l.length ≤ n → l.length ≤ m → validGo n l = validGo m l
  | 0, m, l, hn, _ => by
    obtain rfl : l = [] := List.eq_nil_of_length_eq_zero (by omega)
    rw [validGo_nil, validGo_nil]
  | n + 1, 0, l, _, hm => by
    obtain rfl : l = [] := List.eq_nil_of_length_eq_zero (by omega)
    rw [validGo_nil, validGo_nil]
  | n + 1, m + 1, l, hn, hm => by
    unfold validGo
    by_cases hne : l = []
    · simp [hne]
    · have hw := (rdL_facts l hne).1
      have hl : 0 < l.length := List.length_pos_iff.2 hne
      rw [if_neg hne, if_neg hne, validGo_fuel n m (l.drop (rdL l).2.1) (by rw [List.length_drop]; omega) (by rw [List.length_drop]; omega)]
theorem valid_nil : valid [] = true := rfl
theorem valid_step (l : List UInt8) (hne : l ≠ []) : valid l = if (rdL l).2.2 = 0 then valid (l.drop (rdL l).2.1) else false := by
  have hl : 0 < l.length := List.length_pos_iff.2 hne
  have hw := (rdL_facts l hne).1
  obtain ⟨n, hn⟩ : ∃ n, l.length = n + 1 := ⟨l.length - 1, by omega⟩
  unfold valid
  rw [hn]
  show (if l = [] then true else _) = _
  rw [if_neg hne, validGo_fuel n (l.drop (rdL l).2.1).length _ (by rw [List.length_drop]; omega) (Nat.le_refl _)]

/-! ### there and back -/
def text (rs : List Int) : List UInt8 := rs.flatMap encodeRune
theorem text_nil : text [] = [] := rfl
theorem text_cons (r : Int) (rs : List Int) : text (r :: rs) = encodeRune r ++ text rs := by simp [text]
theorem tob (b : UInt8) (z : Int) (h : z = (b.toNat : Int)) : (z.toNat).toUInt8 = b := by subst h; simp

theorem lenS {l : List UInt8} (k : Nat) (h : k < l.length) : l.drop k = l.getD k 0 :: l.drop (k + 1) := by
  rw [List.drop_eq_getElem_cons h]; simp [List.getD_eq_getElem?_getD, List.getElem?_eq_getElem h]

/-- what is whole is its rune's own bytes -/
theorem rdL_whole (l : List UInt8) (h : (rdL l).2.2 = 0) (hne : l ≠ []) : l = encodeRune ((rdL l).1 : Nat) ++ l.drop (rdL l).2.1 := by
  have hl : 0 < l.length := List.length_pos_iff.2 hne
  have q0 := (l.getD 0 0).toNat_lt
  have q1 := (l.getD 1 0).toNat_lt
  have q2 := (l.getD 2 0).toNat_lt
  have q3 := (l.getD 3 0).toNat_lt
  have e0 := lenS (l := l) 0 hl
  rw [List.drop_zero] at e0
  revert h
  unfold rdL rdN
  by_cases c0 : (l.getD 0 0).toNat < 128
  · rw [if_pos c0]
    intro _
    simp only [encodeRune]
    rw [encodeRuneZ_one (by omega) (by omega)]
    simp only [List.map_cons, List.map_nil]
    rw [tob (l.getD 0 0) _ rfl]
    exact e0
  rw [if_neg c0]
  by_cases c1 : (l.getD 0 0).toNat < 194
  · rw [if_pos c1]; intro h; exact absurd h (by simp)
  rw [if_neg c1]
  by_cases c2 : (l.getD 0 0).toNat < 224
  · rw [if_pos c2]
    by_cases d1 : l.length ≤ 1
    · rw [if_pos d1]; intro h; exact absurd h (by simp)
    rw [if_neg d1]
    have e1 := lenS (l := l) 1 (by omega)
    by_cases d2 : (l.getD 1 0).toNat < 128 ∨ 191 < (l.getD 1 0).toNat
    · rw [if_pos d2]; intro h; exact absurd h (by simp)
    rw [if_neg d2]
    intro _
    simp only [encodeRune]
    rw [encodeRuneZ_two (by omega) (by omega)]
    simp only [List.map_cons, List.map_nil]
    rw [tob (l.getD 0 0) _ (by omega), tob (l.getD 1 0) _ (by omega)]
    rw [e1] at e0
    exact e0
  rw [if_neg c2]
  by_cases c3 : (l.getD 0 0).toNat < 240
  · rw [if_pos c3]
    by_cases d1 : l.length ≤ 1
    · rw [if_pos d1]; intro h; exact absurd h (by simp)
    rw [if_neg d1]
    have e1 := lenS (l := l) 1 (by omega)
    by_cases d2 : (l.getD 1 0).toNat < 128 ∨ 191 < (l.getD 1 0).toNat ∨ ((l.getD 0 0).toNat = 224 ∧ (l.getD 1 0).toNat < 160) ∨ ((l.getD 0 0).toNat = 237 ∧ 159 < (l.getD 1 0).toNat)
    · rw [if_pos d2]; intro h; exact absurd h (by simp)
    rw [if_neg d2]
    by_cases d3 : l.length ≤ 2
    · rw [if_pos d3]; intro h; exact absurd h (by simp)
    rw [if_neg d3]
    have e2 := lenS (l := l) 2 (by omega)
    by_cases d4 : (l.getD 2 0).toNat < 128 ∨ 191 < (l.getD 2 0).toNat
    · rw [if_pos d4]; intro h; exact absurd h (by simp)
    rw [if_neg d4]
    intro _
    simp only [encodeRune]
    rw [encodeRuneZ_three (by omega)]
    simp only [List.map_cons, List.map_nil]
    rw [tob (l.getD 0 0) _ (by omega), tob (l.getD 1 0) _ (by omega), tob (l.getD 2 0) _ (by omega)]
    rw [e1, e2] at e0
    exact e0
  rw [if_neg c3]
  by_cases c4 : (l.getD 0 0).toNat < 245
  · rw [if_pos c4]
    by_cases d1 : l.length ≤ 1
    · rw [if_pos d1]; intro h; exact absurd h (by simp)
    rw [if_neg d1]
    have e1 := lenS (l := l) 1 (by omega)
    by_cases d2 : (l.getD 1 0).toNat < 128 ∨ 191 < (l.getD 1 0).toNat ∨ ((l.getD 0 0).toNat = 240 ∧ (l.getD 1 0).toNat < 144) ∨ ((l.getD 0 0).toNat = 244 ∧ 143 < (l.getD 1 0).toNat)
    · rw [if_pos d2]; intro h; exact absurd h (by simp)
    rw [if_neg d2]
    by_cases d3 : l.length ≤ 2
    · rw [if_pos d3]; intro h; exact absurd h (by simp)
    rw [if_neg d3]
    have e2 := lenS (l := l) 2 (by omega)
    by_cases d4 : (l.getD 2 0).toNat < 128 ∨ 191 < (l.getD 2 0).toNat
    · rw [if_pos d4]; intro h; exact absurd h (by simp)
    rw [if_neg d4]
    by_cases d5 : l.length ≤ 3
    · rw [if_pos d5]; intro h; exact absurd h (by simp)
    rw [if_neg d5]
    have e3 := lenS (l := l) 3 (by omega)
    by_cases d6 : (l.getD 3 0).toNat < 128 ∨ 191 < (l.getD 3 0).toNat
    · rw [if_pos d6]; intro h; exact absurd h (by simp)
    rw [if_neg d6]
    intro _
    simp only [encodeRune]
    rw [encodeRuneZ_four (by omega) (by omega)]
    simp only [List.map_cons, List.map_nil]
    rw [tob (l.getD 0 0) _ (by omega), tob (l.getD 1 0) _ (by omega), tob (l.getD 2 0) _ (by omega), tob (l.getD 3 0) _ (by omega)]
    rw [e1, e2, e3] at e0
    exact e0
  · rw [if_neg c4]; intro h; exact absurd h (by simp)
end Go.Proofs.YthmbbkbmlnaghaaDoor.P
end
section
/-
 Mended text in plain Lean: what stands for a text's bytes, and that a text and its mended form agree in all that ASCII asks of them.
-/
set_option linter.unusedVariables false
set_option linter.unusedSimpArgs false
namespace Go.Proofs.YthmbbkbmlnaghaaDoor.P
open Go.Lib

/-! ### the model's own conversion is the same -/
theorem encode_list (r : Int) : (Utf8.encode r).data.toList = encodeRune r := by
 unfold encodeRune
 by_cases hb : r < 0 ∨ (55296 ≤ r ∧ r ≤ 57343) ∨ 1114111 < r
 ·have v : Utf8.valid r = false := by simp [Utf8.valid]; omega
  rw [encodeRuneZ_bad hb]
  simp [Utf8.encode, v, Utf8.runeError]
 have v : Utf8.valid r = true := by simp [Utf8.valid]; omega
 obtain ⟨n, rfl⟩ : ∃ n : Nat, r = n := ⟨r.toNat, by omega⟩
 by_cases c1 : n < 128
 ·rw [encodeRuneZ_one (by omega) (by omega)]
  simp [Utf8.encode, v, c1]
 by_cases c2 : n < 2048
 ·rw [encodeRuneZ_two (by omega) (by omega)]
  simp only [Utf8.encode, v, List.map_cons, List.map_nil]
  have e1 : ((192 : Int) + (n : Int) / 64).toNat = 192 + n / 64 := by omega
  have e2 : ((128 : Int) + (n : Int) % 64).toNat = 128 + n % 64 := by omega
  simp [c1, c2, e1, e2]
 by_cases c3 : n < 65536
 ·rw [encodeRuneZ_three (by omega)]
  simp only [Utf8.encode, v, List.map_cons, List.map_nil]
  have e1 : ((224 : Int) + (n : Int) / 4096).toNat = 224 + n / 4096 := by omega
  have e2 : ((128 : Int) + (n : Int) / 64 % 64).toNat = 128 + n / 64 % 64 := by omega
  have e3 : ((128 : Int) + (n : Int) % 64).toNat = 128 + n % 64 := by omega
  simp [c1, c2, c3, e1, e2, e3]
 ·rw [encodeRuneZ_four (by omega) (by omega)]
  simp only [Utf8.encode, v, List.map_cons, List.map_nil]
  have e0 : ((240 : Int) + (n : Int) / 262144).toNat = 240 + n / 262144 := by omega
  have e1 : ((128 : Int) + (n : Int) / 4096 % 64).toNat = 128 + n / 4096 % 64 := by omega
  have e2 : ((128 : Int) + (n : Int) / 64 % 64).toNat = 128 + n / 64 % 64 := by omega
  have e3 : ((128 : Int) + (n : Int) % 64).toNat = 128 + n % 64 := by omega
  simp [c1, c2, c3, e0, e1, e2, e3]
theorem runesBytes_go (xs : List Int) : ∀ a : ByteArray, (xs.foldl (fun r n => r ++ Utf8.encode n) a).data.toList = a.data.toList ++ text xs := by
 induction xs with
 | nil => intro a; simp [text_nil]
 | cons x t ih =>
  intro a
  rw [List.foldl_cons, ih, ByteArray.data_append, Array.toList_append, encode_list, text_cons, List.append_assoc]
theorem runesBytes_list (xs : List Int) : (runesBytes xs).data.toList = text xs := by
 unfold runesBytes
 rw [runesBytes_go]
 rfl

/-! ### mended -/
def mendL (l : List UInt8) : List UInt8 := text (runes l)
theorem rdL_ascii (b : UInt8) (l : List UInt8) (h : b.toNat < 128) : rdL (b :: l) = (b.toNat, 1, 0) := by
 unfold rdL rdN
 simp only [List.getD_cons_zero]
 rw [if_pos h]
theorem encode_ascii (b : UInt8) (h : b.toNat < 128) : encodeRune ((b.toNat : Nat) : Int) = [b] := by
 simp only [encodeRune]
 rw [encodeRuneZ_one (by omega) (by omega)]
 simp only [List.map_cons, List.map_nil]
 rw [tob b _ rfl]
theorem mendL_ascii (b : UInt8) (l : List UInt8) (h : b.toNat < 128) : mendL (b :: l) = b :: mendL l := by
 unfold mendL
 rw [runes_step _ (by simp), rdL_ascii b l h, text_cons, encode_ascii b h]
 rfl
/-! ### two texts that agree in their ASCII beginning, and in whether something stands behind it -/
inductive Agr : List UInt8 → List UInt8 → Prop
 | nil : Agr [] []
 | asc (b : UInt8) (l m : List UInt8) : b.toNat < 128 → Agr l m → Agr (b :: l) (b :: m)
 | hi (b c : UInt8) (l m : List UInt8) : 128 ≤ b.toNat → 128 ≤ c.toNat → Agr (b :: l) (c :: m)
theorem Agr.nil_iff {l m : List UInt8} (h : Agr l m) : l = [] ↔ m = [] := by cases h <;> simp
/-- an ASCII byte at the head -/
theorem Agr.head_iff {l m : List UInt8} (h : Agr l m) (c : UInt8) (hc : c.toNat < 128) : l.getD 0 0 = c ↔ m.getD 0 0 = c := by
 cases h with
 | nil => exact Iff.rfl
 | asc b l m hb h => exact Iff.rfl
 | hi b d l m hb hd =>
  simp only [List.getD_cons_zero]
  constructor
  ·rintro rfl; omega
  ·rintro rfl; omega
def asciiL (l : List UInt8) : Prop := ∀ b ∈ l, b.toNat < 128
theorem asciiL_tail {b : UInt8} {l : List UInt8} (h : asciiL (b :: l)) : asciiL l := fun x hx => h x (List.mem_cons_of_mem _ hx)
/-- up to place n both are the same, and behind it they agree -/
def Upto (n : Nat) (l m : List UInt8) : Prop := l.take n = m.take n ∧ Agr (l.drop n) (m.drop n) ∧ n ≤ l.length
theorem Upto.zero {l m : List UInt8} (h : Agr l m) : Upto 0 l m := ⟨by simp, by simpa using h, Nat.zero_le _⟩
theorem Upto.len {n : Nat} {l m : List UInt8} (h : Upto n l m) : n ≤ m.length := by
 have := congrArg List.length h.1
 rw [List.length_take, List.length_take] at this
 have := h.2.2
 omega
theorem getD_drop0 (l : List UInt8) (n : Nat) : (l.drop n).getD 0 0 = l.getD n 0 := by
 simp [List.getD_eq_getElem?_getD, List.getElem?_drop]
theorem Upto.len_iff {n : Nat} {l m : List UInt8} (h : Upto n l m) : n = l.length ↔ n = m.length := by
 have h1 := h.2.1.nil_iff
 have h2 := h.len
 have h3 := h.2.2
 rw [List.drop_eq_nil_iff, List.drop_eq_nil_iff] at h1
 omega
theorem Upto.lt_iff {n : Nat} {l m : List UInt8} (h : Upto n l m) : n < l.length ↔ n < m.length := by
 have h1 := h.len_iff
 have h2 := h.len
 have h3 := h.2.2
 omega
theorem Upto.at_iff {n : Nat} {l m : List UInt8} (h : Upto n l m) (c : UInt8) (hc : c.toNat < 128) : l.getD n 0 = c ↔ m.getD n 0 = c := by
 have := h.2.1.head_iff c hc
 rwa [getD_drop0, getD_drop0] at this
theorem Upto.before {n : Nat} {l m : List UInt8} (h : Upto n l m) (i : Nat) (hi : i < n) : l.getD i 0 = m.getD i 0 := by
 have e := congrArg (fun x : List UInt8 => x[i]?) h.1
 simp only [List.getElem?_take, if_pos hi] at e
 rw [List.getD_eq_getElem?_getD, List.getD_eq_getElem?_getD, e]
theorem Upto.succ {n : Nat} {l m : List UInt8} (h : Upto n l m) (hlt : n < l.length) (hb : (l.getD n 0).toNat < 128) : Upto (n + 1) l m := by
 have hm := h.lt_iff.1 hlt
 have e := (h.at_iff _ hb).1 rfl
 have a := h.2.1
 rw [lenS n hlt, lenS n hm, e] at a
 refine ⟨?_, ?_, hlt⟩
 ·rw [List.take_succ_eq_append_getElem hlt, List.take_succ_eq_append_getElem hm, h.1]
  have e1 : l.getD n 0 = l[n] := by rw [List.getD_eq_getElem?_getD, List.getElem?_eq_getElem hlt]; rfl
  have e2 : m.getD n 0 = m[n] := by rw [List.getD_eq_getElem?_getD, List.getElem?_eq_getElem hm]; rfl
  rw [← e1, ← e2, e]
 ·cases a with
  | asc b l m hb h => exact h
  | hi b c l m hb' hc => omega
end Go.Proofs.YthmbbkbmlnaghaaDoor.P
end
section
/-
 charref.next over lists of bytes, and that it is the same of a text and of the mended text.
-/
namespace Go.Proofs.YthmbbkbmlnaghaaDoor.P
open Go.RowKit Go.Proofs.YthmbbkbmlnaghaaDoorW.PrintWords Go.Proofs.YthmbbkbmlnaghaaDoorW.PrintLast Go.Proofs.YthmbbkbmlnaghaaDoorW.PrintMore
set_option linter.unusedVariables false
set_option linter.unusedSimpArgs false

/-! ### numbers -/
def hexL (l : List UInt8) : Bool := decide (l.getD 1 0 = 120) || decide (l.getD 1 0 = 88)
def fromL (l : List UInt8) : Nat := if hexL l = true then 2 else 1
def atL (l : List UInt8) : Nat := fromL l + nDig (hexL l) (l.drop (fromL l))
def numericL (l : List UInt8) (e : Bool) : ByteArray × Int × Bool :=
 if l.length = 1 then (emp, 0, e)
 else if atL l = l.length ∧ e = false then (emp, 0, false)
 else if atL l = fromL l then (emp, 0, true)
 else (Utf8.encode (numL (hexL l) ((l.take (atL l)).drop (fromL l))).1, ((if atL l < l.length ∧ l.getD (atL l) 0 = 59 then atL l + 1 else atL l : Nat) : Int), true)
theorem hexL_eq (s : ByteArray) : numHex s = hexL s.data.toList := by
 unfold numHex hexL
 have hl : s.data.toList.length = s.size := by simp
 by_cases h : 1 < s.size
 ·have hb : bt s 1 = ((s.data.toList.getD 1 0).toNat : Int) := bt_l s 1 h
  rw [hb]
  have q1 : ((s.data.toList.getD 1 0).toNat : Int) = 120 ↔ s.data.toList.getD 1 0 = 120 := u8_eq _ 120 (by decide)
  have q2 : ((s.data.toList.getD 1 0).toNat : Int) = 88 ↔ s.data.toList.getD 1 0 = 88 := u8_eq _ 88 (by decide)
  rw [Bool.eq_iff_iff, Bool.or_eq_true, Bool.or_eq_true, beq_iff_eq, beq_iff_eq, decide_eq_true_iff, decide_eq_true_iff, q1, q2]
 ·have e0 : bt s 1 = 0 := by
   unfold bt
   rw [dif_neg (by simpa using h)]
  have e1 : s.data.toList.getD 1 0 = 0 := by
   rw [List.getD_eq_getElem?_getD, List.getElem?_eq_none (by omega)]
   rfl
  rw [e0, e1]
  rfl
theorem fromL_eq (s : ByteArray) : numFrom s = fromL s.data.toList := by
 unfold numFrom fromL
 rw [hexL_eq]
theorem atL_eq (s : ByteArray) : numAt s = atL s.data.toList := by
 unfold numAt atL
 rw [hexL_eq, fromL_eq]
theorem numericP_eq (s : ByteArray) (e : Bool) : numericP s e = numericL s.data.toList e := by
 unfold numericP numericL
 have hl : s.data.toList.length = s.size := by simp
 rw [hexL_eq, fromL_eq, atL_eq, hl]
 have hx : (s.extract (fromL s.data.toList) (atL s.data.toList)).data.toList = (s.data.toList.take (atL s.data.toList)).drop (fromL s.data.toList) := by
  rw [← ByteArray.toList_eq, Lib.extract_toList, List.drop_take]
 rw [hx]
 have hs : (atL s.data.toList < s.size ∧ bt s (atL s.data.toList : Nat) = 59) ↔ (atL s.data.toList < s.size ∧ s.data.toList.getD (atL s.data.toList) 0 = 59) := by
  constructor
  ·rintro ⟨h, hb⟩
   rw [bt_l s _ h] at hb
   exact ⟨h, (u8_eq _ 59 (by decide)).1 hb⟩
  ·rintro ⟨h, hb⟩
   refine ⟨h, ?_⟩
   rw [bt_l s _ h]
   exact (u8_eq _ 59 (by decide)).2 hb
 by_cases c : atL s.data.toList < s.size ∧ s.data.toList.getD (atL s.data.toList) 0 = 59
 ·rw [if_pos c, if_pos (hs.2 c)]
 ·rw [if_neg c, if_neg (fun d => c (hs.1 d))]
def nextL (l : List UInt8) (attr e : Bool) : ByteArray × Int × Bool :=
 if l ≠ [] ∧ l.getD 0 0 = 35 then numericL l e else namedL l attr e
theorem nextP_eq (s : ByteArray) (attr e : Bool) : nextP s attr e = nextL s.data.toList attr e := by
 unfold nextP nextL
 rw [numericP_eq]

end Go.Proofs.YthmbbkbmlnaghaaDoor.P
end
section
/-
 What a & is, by what stands behind it: plain facts.
-/
namespace Go.Proofs.YthmbbkbmlnaghaaDoor.P
open Go.RowKit Go.Proofs.YthmbbkbmlnaghaaDoorW.PrintWords Go.Proofs.YthmbbkbmlnaghaaDoorW.PrintLast Go.Proofs.YthmbbkbmlnaghaaDoorW.PrintMore
set_option linter.unusedVariables false
set_option linter.unusedSimpArgs false

theorem atL_le (l : List UInt8) (h : fromL l ≤ l.length) : atL l ≤ l.length := by
 unfold atL
 have := nDig_le (hexL l) (l.drop (fromL l))
 rw [List.length_drop] at this
 omega
theorem hexL_len (l : List UInt8) (h : hexL l = true) : 1 < l.length := by
 refine Nat.lt_of_not_le fun hle => ?_
 have : l.getD 1 0 = 0 := by
  rw [List.getD_eq_getElem?_getD, List.getElem?_eq_none hle]
  rfl
 unfold hexL at h
 rw [this] at h
 exact absurd h (by decide)
theorem fromL_le (l : List UInt8) (h : 1 ≤ l.length) : fromL l ≤ l.length := by
 unfold fromL
 by_cases c : hexL l = true
 ·rw [if_pos c]
  have := hexL_len l c
  omega
 ·rw [if_neg c]
  exact h
theorem extract_list (s : ByteArray) (a b : Nat) : (s.extract a b).data.toList = (s.data.toList.drop a).take (b - a) := by
 rw [← ByteArray.toList_eq, Lib.extract_toList]
end Go.Proofs.YthmbbkbmlnaghaaDoor.P
end
section
/-
 What is sure stays, whatever follows: charref.next in plain Lean.
-/
namespace Go.Proofs.YthmbbkbmlnaghaaDoor.P
open Go.RowKit Go.Proofs.YthmbbkbmlnaghaaDoorW.PrintWords Go.Proofs.YthmbbkbmlnaghaaDoorW.PrintLast Go.Proofs.YthmbbkbmlnaghaaDoorW.PrintMore
set_option linter.unusedVariables false
set_option linter.unusedSimpArgs false

/-! ### sizes -/
theorem nextL_size (l : List UInt8) (attr e : Bool) : 0 ≤ (nextL l attr e).2.1 ∧ (nextL l attr e).2.1 ≤ (l.length : Int) := by
 have hn : 0 ≤ (namedL l attr e).2.1 ∧ (namedL l attr e).2.1 ≤ (l.length : Int) := by
  have hle := longL_le l
  unfold namedL
  generalize longL l = q at hle
  obtain ⟨n, o⟩ := q
  simp only at hle ⊢
  split
  ·exact ⟨Int.le_refl _, by simp only; omega⟩
  ·split
   ·exact ⟨Int.le_refl _, by simp only; omega⟩
   ·split
    ·split
     ·split
      ·exact ⟨by simp only; omega, by simp only; omega⟩
      ·exact ⟨Int.le_refl _, by simp only; omega⟩
     ·split
      ·exact ⟨Int.le_refl _, by simp only; omega⟩
      ·split
       ·exact ⟨Int.le_refl _, by simp only; omega⟩
       ·exact ⟨by simp only; omega, by simp only; omega⟩
    ·exact ⟨by simp only; omega, by simp only; omega⟩
 unfold nextL
 by_cases c : l ≠ [] ∧ l.getD 0 0 = 35
 ·rw [if_pos c]
  have hl0 : 0 < l.length := List.length_pos_iff.2 c.1
  have ha := atL_le l (fromL_le l (by omega))
  unfold numericL
  split
  ·exact ⟨Int.le_refl _, by simp only; omega⟩
  ·split
   ·exact ⟨Int.le_refl _, by simp only; omega⟩
   ·split
    ·exact ⟨Int.le_refl _, by simp only; omega⟩
    ·by_cases d : atL l < l.length ∧ l.getD (atL l) 0 = 59
     ·rw [if_pos d]
      exact ⟨by simp only; omega, by simp only; omega⟩
     ·rw [if_neg d]
      exact ⟨by simp only; omega, by simp only; omega⟩
 ·rw [if_neg c]
  exact hn
end Go.Proofs.YthmbbkbmlnaghaaDoor.P
end
section
/-
 Valid texts in plain Lean: runes of a text of good runes; what may be cut off a valid text.
-/
set_option linter.unusedVariables false
set_option linter.unusedSimpArgs false
namespace Go.Proofs.YthmbbkbmlnaghaaDoor.P
open Go.Lib

theorem u8n (z : Nat) (h : z < 256) : (((z : Int)).toNat.toUInt8).toNat = z := by
 rw [Int.toNat_natCast]
 have : (z.toUInt8).toNat = z % 256 := by simp
 omega
theorem rdL_encode (r : Nat) (hg : r < 55296 ∨ (57344 ≤ r ∧ r ≤ 1114111)) (t : List UInt8) : rdL (encodeRune ((r : Nat) : Int) ++ t) = (r, (encodeRune ((r : Nat) : Int)).length, 0) := by
 by_cases c1 : r < 128
 ·have e : encodeRune ((r : Nat) : Int) = [(((r : Nat) : Int)).toNat.toUInt8] := by
   simp only [encodeRune]
   rw [encodeRuneZ_one (by omega) (by omega)]
   rfl
  rw [e, List.singleton_append, rdL_ascii _ _ (by rw [u8n r (by omega)]; omega), u8n r (by omega)]
  rfl
 by_cases c2 : r < 2048
 ·have e : encodeRune ((r : Nat) : Int) = [(((192 + r / 64 : Nat) : Int)).toNat.toUInt8, (((128 + r % 64 : Nat) : Int)).toNat.toUInt8] := by
   simp only [encodeRune]
   rw [encodeRuneZ_two (by omega) (by omega)]
   simp only [List.map_cons, List.map_nil]
   rw [show (192 : Int) + (r : Int) / 64 = ((192 + r / 64 : Nat) : Int) by omega, show (128 : Int) + (r : Int) % 64 = ((128 + r % 64 : Nat) : Int) by omega]
  rw [e]
  unfold rdL
  simp only [List.cons_append, List.nil_append, List.getD_cons_zero, List.getD_cons_succ, List.length_cons, List.length_nil]
  rw [u8n _ (by omega), u8n _ (by omega)]
  unfold rdN
  rw [if_neg (by omega), if_neg (by omega), if_pos (by omega), if_neg (by omega), if_neg (by omega)]
  congr 1
  omega
 by_cases c3 : r < 65536
 ·have e : encodeRune ((r : Nat) : Int) = [(((224 + r / 4096 : Nat) : Int)).toNat.toUInt8, (((128 + r / 64 % 64 : Nat) : Int)).toNat.toUInt8, (((128 + r % 64 : Nat) : Int)).toNat.toUInt8] := by
   simp only [encodeRune]
   rw [encodeRuneZ_three (by omega)]
   simp only [List.map_cons, List.map_nil]
   rw [show (224 : Int) + (r : Int) / 4096 = ((224 + r / 4096 : Nat) : Int) by omega, show (128 : Int) + (r : Int) / 64 % 64 = ((128 + r / 64 % 64 : Nat) : Int) by omega, show (128 : Int) + (r : Int) % 64 = ((128 + r % 64 : Nat) : Int) by omega]
  rw [e]
  unfold rdL
  simp only [List.cons_append, List.nil_append, List.getD_cons_zero, List.getD_cons_succ, List.length_cons, List.length_nil]
  rw [u8n _ (by omega), u8n _ (by omega), u8n _ (by omega)]
  unfold rdN
  rw [if_neg (by omega), if_neg (by omega), if_neg (by omega), if_pos (by omega), if_neg (by omega), if_neg (by omega), if_neg (by omega), if_neg (by omega)]
  congr 1
  omega
 ·have e : encodeRune ((r : Nat) : Int) = [(((240 + r / 262144 : Nat) : Int)).toNat.toUInt8, (((128 + r / 4096 % 64 : Nat) : Int)).toNat.toUInt8, (((128 + r / 64 % 64 : Nat) : Int)).toNat.toUInt8, (((128 + r % 64 : Nat) : Int)).toNat.toUInt8] := by
   simp only [encodeRune]
   rw [encodeRuneZ_four (by omega) (by omega)]
   simp only [List.map_cons, List.map_nil]
   rw [show (240 : Int) + (r : Int) / 262144 = ((240 + r / 262144 : Nat) : Int) by omega, show (128 : Int) + (r : Int) / 4096 % 64 = ((128 + r / 4096 % 64 : Nat) : Int) by omega, show (128 : Int) + (r : Int) / 64 % 64 = ((128 + r / 64 % 64 : Nat) : Int) by omega, show (128 : Int) + (r : Int) % 64 = ((128 + r % 64 : Nat) : Int) by omega]
  rw [e]
  unfold rdL
  simp only [List.cons_append, List.nil_append, List.getD_cons_zero, List.getD_cons_succ, List.length_cons, List.length_nil]
  rw [u8n _ (by omega), u8n _ (by omega), u8n _ (by omega), u8n _ (by omega)]
  unfold rdN
  rw [if_neg (by omega), if_neg (by omega), if_neg (by omega), if_neg (by omega), if_pos (by omega), if_neg (by omega), if_neg (by omega), if_neg (by omega), if_neg (by omega), if_neg (by omega), if_neg (by omega)]
  congr 1
  omega
theorem encode_ne (r : Int) : encodeRune r ≠ [] := by
 intro h
 have := (encodeRuneZ_length r).1
 have h2 := congrArg List.length h
 unfold encodeRune at h2
 rw [List.length_map, List.length_nil] at h2
 omega
def goodsR (rs : List Int) : Prop := ∀ r ∈ rs, goodR r
theorem runes_good : ∀ (n : Nat) (l : List UInt8), l.length ≤ n → goodsR (runes l)
 | 0, l, h => by
  obtain rfl : l = [] := List.eq_nil_of_length_eq_zero (by omega)
  intro r hr
  rw [runes_nil] at hr
  cases hr
 | n + 1, l, h => by
  by_cases hne : l = []
  ·subst hne
   intro r hr
   rw [runes_nil] at hr
   cases hr
  ·have hf := rdL_facts l hne
   have hl : 0 < l.length := List.length_pos_iff.2 hne
   rw [runes_step l hne]
   intro r hr
   rcases List.mem_cons.1 hr with rfl | hr
   ·have := hf.2.2.2.2.1
    unfold goodR
    omega
   ·exact runes_good n (l.drop (rdL l).2.1) (by rw [List.length_drop]; have := hf.1; omega) r hr
theorem runes_encode (r : Int) (hg : goodR r) (t : List UInt8) : runes (encodeRune r ++ t) = r :: runes t := by
 obtain ⟨n, rfl⟩ : ∃ n : Nat, r = n := ⟨r.toNat, by unfold goodR at hg; omega⟩
 have h := rdL_encode n (by unfold goodR at hg; omega) t
 rw [runes_step _ (by simp [encode_ne]), h]
 simp only
 rw [List.drop_append_of_le_length (Nat.le_refl _), List.drop_length, List.nil_append]
theorem runes_text : ∀ rs : List Int, goodsR rs → runes (text rs) = rs
 | [], _ => rfl
 | r :: t, h => by
  rw [text_cons, runes_encode r (h r List.mem_cons_self), runes_text t (fun x hx => h x (List.mem_cons_of_mem _ hx))]
theorem valid_encode (r : Int) (hg : goodR r) (t : List UInt8) : valid (encodeRune r ++ t) = valid t := by
 obtain ⟨n, rfl⟩ : ∃ n : Nat, r = n := ⟨r.toNat, by unfold goodR at hg; omega⟩
 have h := rdL_encode n (by unfold goodR at hg; omega) t
 rw [valid_step _ (by simp [encode_ne]), h]
 simp only
 rw [if_pos trivial, List.drop_append_of_le_length (Nat.le_refl _), List.drop_length, List.nil_append]
theorem valid_text : ∀ rs : List Int, goodsR rs → valid (text rs) = true
 | [], _ => rfl
 | r :: t, h => by rw [text_cons, valid_encode r (h r List.mem_cons_self), valid_text t (fun x hx => h x (List.mem_cons_of_mem _ hx))]
theorem text_runes : ∀ (n : Nat) (l : List UInt8), l.length ≤ n → valid l = true → text (runes l) = l
 | 0, l, h, _ => by
  obtain rfl : l = [] := List.eq_nil_of_length_eq_zero (by omega)
  rfl
 | n + 1, l, h, hv => by
  by_cases hne : l = []
  ·subst hne
   rfl
  ·have hf := rdL_facts l hne
   have hl : 0 < l.length := List.length_pos_iff.2 hne
   rw [valid_step l hne] at hv
   by_cases h0 : (rdL l).2.2 = 0
   ·rw [if_pos h0] at hv
    rw [runes_step l hne, text_cons, text_runes n (l.drop (rdL l).2.1) (by rw [List.length_drop]; have := hf.1; omega) hv]
    exact (rdL_whole l h0 hne).symm
   ·rw [if_neg h0] at hv
    cases hv
theorem mendL_valid (l : List UInt8) : valid (mendL l) = true := valid_text _ (runes_good _ l (Nat.le_refl _))
theorem mendL_runes (l : List UInt8) : runes (mendL l) = runes l := runes_text _ (runes_good _ l (Nat.le_refl _))
theorem mendL_of_valid (l : List UInt8) (h : valid l = true) : mendL l = l := text_runes _ l (Nat.le_refl _) h
end Go.Proofs.YthmbbkbmlnaghaaDoor.P
end
section
/-
 charref.replaced over Decode's literal: the function's own literal, which writes a reference's text, and the whole.
-/
namespace Go.Proofs.YthmbbkbmlnaghaaDoor.P
open Go.RowKit Go.Shelf Go.Proofs.YthmbbkbmlnaghaaDoorW.PrintWords Go.Proofs.YthmbbkbmlnaghaaDoorW.PrintLast Go.Proofs.YthmbbkbmlnaghaaDoorW.PrintMore
set_option linter.unusedVariables false
set_option linter.unusedSimpArgs false

set_option maxRecDepth 100000 in
set_option maxHeartbeats 8000000 in
theorem D_rep1_calls (b0 : Nat) (m : ByteArray) (g : ByteArray → ByteArray) (W0 : World) (pre : List (Nat × ByteArray × Nat)) (x : Nat × ByteArray × Nat) (W : World) (b : Bool)
  (h : RepI 25 b0 m g W0 pre W) (hle : (repSt g m.data.toList pre).1 ≤ x.1) (hx : x.1 + 1 + x.2.2 ≤ m.size) (hm : m.size ≤ 35184372088831) (hp : pre.length ≤ m.size)
  (hlen : (repSt g m.data.toList (pre ++ [x])).2.length ≤ 140737488355328)
  (hby : ∀ (n : Int) (b : Bool) (W : World), Calls Tryd.prog 25 #[.agg #[.string x.2.1, .int .i64 n, .bool b]] W fun e W' => e = .returned (.string (g x.2.1)) ∧ Below W.heap.size W W') :
  Calls Tryd.prog 43 (#[.int .i64 (x.1 : Nat), .agg #[.string x.2.1, .int .i64 (x.2.2 : Nat), .bool b]] ++
    #[.pointer (some ⟨b0 + 2, 0, none⟩), .pointer (some ⟨b0, 0, none⟩), .pointer (some ⟨b0 + 3, 0, none⟩), .pointer (some ⟨b0 + 1, 0, none⟩), .pointer (some ⟨b0 + 4, 0, none⟩)]) W fun e W' =>
   e = .returned (.bool true) ∧ RepI 25 b0 m g W0 (pre ++ [x]) W' ∧ ∀ (j : Nat) (cs : Array Value), W.heap[j]? = some (Obj.cells cs 38 (0, 0)) → W'.heap[j]? = some (Obj.cells cs 38 (0, 0)) := by
 obtain ⟨hI, hS, hBy, hF, hN, hB⟩ := h
 have HI := Aside0.mk hI
 have HS := Aside0.mk hS
 have HBy := Aside0.mk hBy
 have HF := Aside0.mk hF
 have HN := Aside0.mk hN
 have HB := Aside0.mk hB
 have HBY := Aside0.mk hby
 have HLEN := Aside0.mk hlen
 have HN4 := Aside0.mk (show b0 + 4 < W.heap.size from (Array.getElem?_eq_some_iff.1 hN).1)
 clear hI hS hBy hF hN hB hby hlen
 obtain ⟨at_, says, size⟩ := x
 simp only at hle hx HBY
 have hstep := repSt_snoc g m.data.toList pre (at_, says, size)
 generalize hst : repSt g m.data.toList pre = st at hle HI HF hstep
 obtain ⟨fr, acc⟩ := st
 simp only at hle HI HF hstep
 have HST := Aside0.mk hst
 have HSTEP := Aside0.mk hstep
 clear hst hstep
 have hl1 : acc.length + (m.extract fr at_).size ≤ 140737488355328 := by
  have := HLEN.out
  rw [HSTEP.out] at this
  simp [repStep] at this
  have e : (m.extract fr at_).size = at_ - fr := by simp; omega
  omega
 have hl2 : (acc ++ (m.extract fr at_).data.toList).length + (g says).size ≤ 140737488355328 := by
  have := HLEN.out
  rw [HSTEP.out] at this
  simp [repStep] at this
  have e : (m.extract fr at_).size = at_ - fr := by simp; omega
  have e2 : (g says).data.size = (g says).size := rfl
  simp
  omega
 have HL1 := Aside0.mk hl1
 have HL2 := Aside0.mk hl2
 clear hl1 hl2
 have s1 : ((0 : Int) ≤ (fr : Int)) = True := eq_true (by omega)
 have s2 : ((fr : Int) ≤ (at_ : Int)) = True := eq_true (by omega)
 have s3 : ((at_ : Int) ≤ (m.size : Int)) = True := eq_true (by omega)
 have w1 : IntKind.i64.wrap ((at_ : Int) + 1) = (at_ : Int) + 1 := IntWalk.i64_in _ (by omega)
 have w2 : IntKind.i64.wrap ((at_ : Int) + 1 + (size : Int)) = ((at_ + 1 + size : Nat) : Int) := by rw [IntWalk.i64_in _ (by omega)]; omega
 have w3 : IntKind.i64.wrap ((pre.length : Int) + 1) = ((pre.length + 1 : Nat) : Int) := by rw [IntWalk.i64_in _ (by omega)]; omega
 have hu60 := Tryd.underlying38
 have HB0 := Aside0.mk (Below.refl W.heap.size W)
 go_enter Tryd.func43, Tryd.ntmps43
 go_wp2_with (first | ((with_reducible refine gate_dst (N := 8) rfl ?_); refine box_event ?hg (N := 8) ?hd (cs := #[.string says, .int .i64 (size : Nat), .bool b]) (t := 38) ?hr ?_; (case hd => rfl); (case hg => rfl); (case hr => first | (go_simp; done) | (go_simp; rfl)); intro gb hg w5 hbox hb; have HB5 := Aside0.mk (below_step HB0.out hb); have BK5 := Aside0.mk hbox; have NE5 : some gb ≠ some (b0 + 2) := (by intro e; have e := Option.some.inj e; have := HN4.out; rw [hg] at e; omega); clear hb hbox hg; have hcS5 : w5.cell? ⟨b0, 0, none⟩ = some (.string m) := (blk_cell (blk_kept HB5.out HS.out) 0).trans rfl; have hcF5 : w5.cell? ⟨b0 + 3, 0, none⟩ = some (.int .i64 (fr : Nat)) := (blk_cell (blk_kept HB5.out HF.out) 0).trans rfl) | (go_at_call 32; refine (bld_WriteString_k b0 (b0 + 2) (Lib.byteCells (acc ++ (m.extract fr at_).data.toList)) (g says) w7 (by rw [Lib.byteCells_append]; exact bld_below (.inr HI6.out) HBEL7.out) (by rw [Lib.byteCells_length]; exact HL2.out) (by have := HN4.out; have := HB5.out.size; have := HBEL6.out.size; have := HBEL7.out.size; omega)).mono ?_; rintro e w8 ⟨rfl, hb8, hbel8, hok8⟩; have HOK8 := Aside0.mk hok8; have HI8 := Aside0.mk hb8; have HBEL8 := Aside0.mk hbel8; clear hok8 hb8 hbel8; have KP := Aside0.mk (fun (k : Nat) (o : Obj) (h5 : w5.heap[k]? = some o) (hne : some k ≠ some (b0 + 2)) (ho : ∀ c fz, o ≠ Obj.cells c 5 fz) => HOK8.out k o (blk_kept HBEL7.out (HOK6.out k o h5 hne ho)) hne ho); have BK8 := Aside0.mk (KP.out gb _ BK5.out NE5 (fun c fz e => by cases e)); have BF8 := Aside0.mk (KP.out (b0 + 3) _ (blk_kept HB5.out HF.out) (by simp) (fun c fz e => by cases e)); have BN8 := Aside0.mk (KP.out (b0 + 4) _ (blk_kept HB5.out HN.out) (by simp) (fun c fz e => by cases e)); have hch8 : w8.cell? ⟨gb, 1, none⟩ = some (.int .i64 (size : Nat)) := (blk_cell BK8.out 1).trans rfl; have hcF8 : w8.cell? ⟨b0 + 3, 0, none⟩ = some (.int .i64 (fr : Nat)) := (blk_cell BF8.out 0).trans rfl; have hcN8 : w8.cell? ⟨b0 + 4, 0, none⟩ = some (.int .i64 (pre.length : Nat)) := (blk_cell BN8.out 0).trans rfl; have hfF8 := blk_frozen BF8.out 0; have hfN8 := blk_frozen BN8.out 0) | (go_at_call 25; refine (HBY.out (size : Nat) b w6).mono ?_; rintro e w7 ⟨rfl, hbel7⟩; have HBEL7 := Aside0.mk hbel7; clear hbel7) | (go_at_call 32; refine (bld_WriteString_k b0 (b0 + 2) (Lib.byteCells acc) (m.extract fr at_) w5 (bld_below HI.out HB5.out) (by rw [Lib.byteCells_length]; exact HL1.out) (by have := HN4.out; have := HB5.out.size; omega)).mono ?_; rintro e w6 ⟨rfl, hb6, hbel6, hok6⟩; have HOK6 := Aside0.mk hok6; have HI6 := Aside0.mk hb6; have HBEL6 := Aside0.mk hbel6; clear hok6 hb6 hbel6; have BK6 := Aside0.mk (HOK6.out gb _ BK5.out NE5 (fun c fz e => by cases e)); have hcB6 : w6.cell? ⟨b0 + 1, 0, none⟩ = some (.func (.func 25) #[] #[]) := (blk_cell (HOK6.out (b0 + 1) _ (blk_kept HB5.out HBy.out) (by simp) (fun c fz e => by cases e)) 0).trans rfl; have hcg6 : w6.cell? ⟨gb, 0, none⟩ = some (.string says) := (blk_cell BK6.out 0).trans rfl; have hch6 : w6.cell? ⟨gb, 1, none⟩ = some (.int .i64 (size : Nat)) := (blk_cell BK6.out 1).trans rfl; have hci6 : w6.cell? ⟨gb, 2, none⟩ = some (.bool b) := (blk_cell BK6.out 2).trans rfl))
 go_ret
 have hext : (m.extract fr at_).data.toList = (m.data.toList.drop fr).take (at_ - fr) := Lib.extract_data m fr at_
 have kS := KP.out b0 _ (blk_kept HB5.out HS.out) (by intro e; have e := Option.some.inj e; omega) (fun c fz e => by cases e)
 have kBy := KP.out (b0 + 1) _ (blk_kept HB5.out HBy.out) (by intro e; have e := Option.some.inj e; omega) (fun c fz e => by cases e)
 refine ⟨rfl, ⟨?_, ?_, ?_, ?_, ?_, ?_⟩, ?_⟩
 ·rw [HSTEP.out]
  show Lib.IsBuilderF _ _ _ _ (Lib.byteCells (acc ++ ((m.data.toList.drop fr).take (at_ - fr) ++ (g says).data.toList))) _
  rw [← hext, ← List.append_assoc, Lib.byteCells_append]
  refine bld_kept (.inr HI8.out) ?_
  intro k o ho hk
  have n3 : k ≠ b0 + 3 := by
   rintro rfl
   rcases hk with hk | ⟨c, fz, rfl⟩
   ·omega
   ·rw [BF8.out] at ho
    cases ho
  have n4 : k ≠ b0 + 4 := by
   rintro rfl
   rcases hk with hk | ⟨c, fz, rfl⟩
   ·omega
   ·rw [BN8.out] at ho
    cases ho
  rw [Below.heap_setCell _ _ _ _ n4, Below.heap_setCell _ _ _ _ n3]
  exact ho
 ·rw [Below.heap_setCell _ _ _ _ (show b0 ≠ b0 + 4 by omega), Below.heap_setCell _ _ _ _ (show b0 ≠ b0 + 3 by omega)]
  exact kS
 ·rw [Below.heap_setCell _ _ _ _ (show b0 + 1 ≠ b0 + 4 by omega), Below.heap_setCell _ _ _ _ (show b0 + 1 ≠ b0 + 3 by omega)]
  exact kBy
 ·rw [Below.heap_setCell _ _ _ _ (show b0 + 3 ≠ b0 + 4 by omega), HSTEP.out]
  exact blk_put (cs := #[.int .i64 (fr : Nat)]) BF8.out 0 _ rfl
 ·refine blk_put (cs := #[.int .i64 (pre.length : Nat)]) ?_ 0 _ ?_
  ·rw [Below.heap_setCell _ _ _ _ (show b0 + 4 ≠ b0 + 3 by omega)]
   exact BN8.out
  ·simp
 ·have l1 := HN4.out
  have l2 := HBEL6.out.size
  exact (((((HB.out.trans (HB5.out.mono (by omega))).trans HBEL6.out).trans (HBEL7.out.mono (by have := HB5.out.size; omega))).trans HBEL8.out).setCell (p := ⟨b0 + 3, 0, none⟩) (by show b0 ≤ b0 + 3; omega) _).setCell (p := ⟨b0 + 4, 0, none⟩) (by show b0 ≤ b0 + 4; omega) _
 ·intro j cs hj
  have hj5 := blk_kept HB5.out hj
  have n2 : j ≠ b0 + 2 := by
   rintro rfl
   obtain ⟨hB, v, hb, _⟩ := HI8.out
   have hlt : b0 + 2 < W.heap.size := (Array.getElem?_eq_some_iff.1 hj).1
   rcases HI.out with ⟨_, v, hb, _⟩ | ⟨_, v, hb, _⟩ <;> (rw [hj] at hb; cases hb)
  have n3 : j ≠ b0 + 3 := by
   rintro rfl
   rw [HF.out] at hj
   cases hj
  have n4 : j ≠ b0 + 4 := by
   rintro rfl
   rw [HN.out] at hj
   cases hj
  rw [Below.heap_setCell _ _ _ _ n4, Below.heap_setCell _ _ _ _ n3]
  exact KP.out j _ hj5 (fun e => n2 (Option.some.inj e)) (fun c fz e => by cases e)
end Go.Proofs.YthmbbkbmlnaghaaDoor.P
end
section
/-
 charref.replaced over Decode's literal.
-/
namespace Go.Proofs.YthmbbkbmlnaghaaDoor.P
open Go.RowKit Go.Shelf Go.Proofs.YthmbbkbmlnaghaaDoorW.PrintWords Go.Proofs.YthmbbkbmlnaghaaDoorW.PrintLast Go.Proofs.YthmbbkbmlnaghaaDoorW.PrintMore
set_option linter.unusedVariables false
set_option linter.unusedSimpArgs false

theorem D_alloc_get {w : World} {k : Nat} {x : Obj} (o : Obj) (h : w.heap[k]? = some x) : (w.alloc o).heap[k]? = some x :=
 (Lib.alloc_old w o k (Array.getElem?_eq_some_iff.1 h).1).trans h

set_option maxRecDepth 100000 in
set_option maxHeartbeats 2000000 in
theorem D_replaced_calls (k : Nat) (m : ByteArray) (attr : Bool) (g : ByteArray → ByteArray) (refs : List (Nat × ByteArray × Nat)) (w : World) (hm : m.size ≤ 35184372088831) (href : refsGo attr m k 0 = some refs)
  (hlen : (repText g m.data.toList refs).length ≤ 140737488355328)
  (hby : ∀ x ∈ refs, ∀ (n : Int) (b : Bool) (W : World), Calls Tryd.prog 25 #[.agg #[.string x.2.1, .int .i64 n, .bool b]] W fun e W' => e = .returned (.string (g x.2.1)) ∧ Below W.heap.size W W') :
  Calls Tryd.prog 23 #[.string m, .bool attr, .func (.func 25) #[] #[]] w fun e w' =>
   e = .returned (.tuple #[.string ⟨(repText g m.data.toList refs).toArray⟩, .int .i64 (refs.length : Nat)]) ∧ Below w.heap.size w w' := by
 have HBY := Aside0.mk hby
 have HREF := Aside0.mk href
 have HLEN := Aside0.mk hlen
 clear hby href hlen
 have hasc := refsGo_asc attr m k 0 refs HREF.out
 have hend := Asc.end_ g m.data.toList refs (0, []) (Nat.zero_le _) hasc
 have HEND := Aside0.mk hend
 have HASC := Aside0.mk hasc
 clear hasc hend
 -- the world when the references begin
 have hw5 : RepI 25 w.heap.size m g w [] (((((w.alloc (.cells #[.string m] 9)).alloc (.cells #[.func (.func 25) #[] #[]] 42)).alloc (.cells #[.pointer none, .slice none 0 0] 49)).alloc (.cells #[.int .i64 0] 3)).alloc (.cells #[.int .i64 0] 3)) := by
  have z1 : (w.alloc (.cells #[.string m] 9)).heap.size = w.heap.size + 1 := by simp
  have z2 : ((w.alloc (.cells #[.string m] 9)).alloc (.cells #[.func (.func 25) #[] #[]] 42)).heap.size = w.heap.size + 2 := by simp
  have z3 : (((w.alloc (.cells #[.string m] 9)).alloc (.cells #[.func (.func 25) #[] #[]] 42)).alloc (.cells #[.pointer none, .slice none 0 0] 49)).heap.size = w.heap.size + 3 := by simp
  have z4 : ((((w.alloc (.cells #[.string m] 9)).alloc (.cells #[.func (.func 25) #[] #[]] 42)).alloc (.cells #[.pointer none, .slice none 0 0] 49)).alloc (.cells #[.int .i64 0] 3)).heap.size = w.heap.size + 4 := by simp
  refine ⟨.inl ⟨by omega, .slice none 0 0, ?_, ⟨rfl, .inl ⟨rfl, rfl⟩⟩, by simp [Value.ownBlock]⟩, ?_, ?_, ?_, ?_, ?_⟩
  ·have := heap_alloc_new ((w.alloc (.cells #[.string m] 9)).alloc (.cells #[.func (.func 25) #[] #[]] 42)) (.cells #[.pointer none, .slice none 0 0] 49)
   rw [z2] at this
   exact D_alloc_get _ (D_alloc_get _ this)
  ·exact D_alloc_get _ (D_alloc_get _ (D_alloc_get _ (D_alloc_get _ (heap_alloc_new w _))))
  ·have := heap_alloc_new (w.alloc (.cells #[.string m] 9)) (.cells #[.func (.func 25) #[] #[]] 42)
   rw [z1] at this
   exact D_alloc_get _ (D_alloc_get _ (D_alloc_get _ this))
  ·have := heap_alloc_new (((w.alloc (.cells #[.string m] 9)).alloc (.cells #[.func (.func 25) #[] #[]] 42)).alloc (.cells #[.pointer none, .slice none 0 0] 49)) (.cells #[.int .i64 0] 3)
   rw [z3] at this
   exact D_alloc_get _ this
  ·have := heap_alloc_new ((((w.alloc (.cells #[.string m] 9)).alloc (.cells #[.func (.func 25) #[] #[]] 42)).alloc (.cells #[.pointer none, .slice none 0 0] 49)).alloc (.cells #[.int .i64 0] 3)) (.cells #[.int .i64 0] 3)
   rw [z4] at this
   exact this
  ·exact (((((Below.refl _ w).alloc (Nat.le_refl _) _).alloc (by omega) _).alloc (by omega) _).alloc (by omega) _).alloc (by omega) _
 have HW5 := Aside0.mk hw5
 clear hw5
 have heach := fun W5 (h5 : RepI 25 w.heap.size m g w [] W5) => charref_each_calls k m attr #[.pointer (some ⟨w.heap.size + 1 + 1, 0, none⟩), .pointer (some ⟨w.heap.size, 0, none⟩), .pointer (some ⟨w.heap.size + 1 + 1 + 1, 0, none⟩), .pointer (some ⟨w.heap.size + 1, 0, none⟩), .pointer (some ⟨w.heap.size + 1 + 1 + 1 + 1, 0, none⟩)]
  refs (RepI 25 w.heap.size m g w) W5 hm HREF.out (fun pre W W' h hb => h.below hb) (by
   rintro pre x W b hinv ⟨post, hpost⟩
   have hmid := Asc.mid (n := m.size) g m.data.toList pre (0, []) x post (by rw [← List.append_cons] at hpost; rw [hpost]; exact HASC.out)
   refine D_rep1_calls w.heap.size m g w pre x W b hinv hmid.1 hmid.2.1 hm ?_ ?_ (HBY.out x (by rw [← hpost]; simp))
   ·have h1 := hmid.2.2
    have h2 := hmid.1
    have h3 := hmid.2.1
    simp only [Nat.add_zero] at h1
    omega
   ·have h1 := repSt_len g m.data.toList (pre ++ [x]) post
    rw [hpost] at h1
    have h2 := HLEN.out
    unfold repText at h2
    rw [List.length_append] at h2
    omega) h5
 have HEACH := Aside0.mk heach
 clear heach
 have hend := HEND.out
 have hlen := HLEN.out
 unfold repText at hlen
 have htx : repText g m.data.toList refs = (repSt g m.data.toList refs).2 ++ m.data.toList.drop (repSt g m.data.toList refs).1 := rfl
 have HTX := Aside0.mk htx
 clear htx
 change (repSt g m.data.toList refs).1 ≤ m.size ∧ refs.length + 0 ≤ (repSt g m.data.toList refs).1 at hend
 obtain ⟨fr, acc, hst⟩ : ∃ fr acc, repSt g m.data.toList refs = (fr, acc) := ⟨_, _, rfl⟩
 have hri : ∀ W, RepI 25 w.heap.size m g w refs W → Lib.IsBuilderF 49 5 w.heap.size (w.heap.size + 1 + 1) (Lib.byteCells acc) W ∧ W.heap[w.heap.size]? = some (.cells #[.string m] 9 (0, 0)) ∧
   W.heap[w.heap.size + 1 + 1 + 1]? = some (.cells #[.int .i64 (fr : Nat)] 3 (0, 0)) ∧ W.heap[w.heap.size + 1 + 1 + 1 + 1]? = some (.cells #[.int .i64 (refs.length : Nat)] 3 (0, 0)) ∧ Below w.heap.size w W := by
  rintro W ⟨h1, h2, _, h3, h4, h5⟩
  rw [hst] at h1 h3
  exact ⟨h1, h2, h3, h4, h5⟩
 have HRI := Aside0.mk hri
 clear hri
 rw [hst] at hend hlen HTX
 simp only at hend hlen HTX
 clear hst
 rw [List.length_append, List.length_drop] at hlen
 have hml : m.data.toList.length = m.size := by simp
 have HL := Aside0.mk (show acc.length + (m.extract fr m.size).size ≤ 140737488355328 by
  have e : (m.extract fr m.size).size = m.size - fr := by simp
  omega)
 clear hlen hml
 have s1 : ((0 : Int) ≤ (fr : Int)) = True := eq_true (by omega)
 have s2 : ((fr : Int) ≤ (m.size : Int)) = True := eq_true (by omega)
 go_enter Tryd.func23, Tryd.ntmps23
 go_wp2_with (first | (go_at_call 42; refine (HEACH.out _ HW5.out).mono ?_; rintro e w6 ⟨rfl, hr6⟩; have hr6' := HRI.out w6 hr6; clear hr6; obtain ⟨hI6, hS6, hF6, hN6, hB6⟩ := hr6'; have HI6 := Aside0.mk hI6; have HS6 := Aside0.mk hS6; have HF6 := Aside0.mk hF6; have HN6 := Aside0.mk hN6; have HB6 := Aside0.mk hB6; clear hI6 hS6 hF6 hN6 hB6; have hcS6 : w6.cell? ⟨w.heap.size, 0, none⟩ = some (.string m) := (blk_cell HS6.out 0).trans rfl; have hcF6 : w6.cell? ⟨w.heap.size + 1 + 1 + 1, 0, none⟩ = some (.int .i64 (fr : Nat)) := (blk_cell HF6.out 0).trans rfl) | (go_at_call 32; refine (bld_WriteString_k w.heap.size (w.heap.size + 1 + 1) (Lib.byteCells acc) (m.extract fr m.size) w6 HI6.out (by rw [Lib.byteCells_length]; exact HL.out) HB6.out.size).mono ?_; rintro e w7 ⟨rfl, hb7, hbel7, hok7⟩; have HI7 := Aside0.mk hb7; have HBEL7 := Aside0.mk hbel7; have HN7 := Aside0.mk (hok7 (w.heap.size + 1 + 1 + 1 + 1) _ HN6.out (by intro e; have e := Option.some.inj e; omega) (fun c fz e => by cases e)); clear hb7 hbel7 hok7; have hcN7 : w7.cell? ⟨w.heap.size + 1 + 1 + 1 + 1, 0, none⟩ = some (.int .i64 (refs.length : Nat)) := (blk_cell HN7.out 0).trans rfl))
 have hb7 : Lib.IsBuilderF 49 5 w.heap.size (w.heap.size + 1 + 1) (Lib.byteCells (acc ++ m.data.toList.drop fr)) w7 := by
  have e : (m.extract fr m.size).data.toList = m.data.toList.drop fr := by
   rw [Lib.extract_data, List.take_of_length_le (by simp)]
  rw [Lib.byteCells_append, ← e]
  exact .inr HI7.out
 have HSTR := Aside0.mk (Tryd.Builder_String_any_k w.heap.size (w.heap.size + 1 + 1) (acc ++ m.data.toList.drop fr) w7.drew hb7 (Nat.le_trans HB6.out.size HBEL7.out.size))
 clear hb7
 go_region_with (go_at_call 35; refine HSTR.out.mono ?_; rintro e w8 ⟨rfl, _, hbel8, hok8⟩; have HBEL8 := Aside0.mk hbel8; have HN8 := Aside0.mk (hok8 (w.heap.size + 1 + 1 + 1 + 1) _ HN7.out (by intro e; have e := Option.some.inj e; omega) (fun c fz e => by cases e)); clear hbel8 hok8; have hcN8 : w8.cell? ⟨w.heap.size + 1 + 1 + 1 + 1, 0, none⟩ = some (.int .i64 (refs.length : Nat)) := (blk_cell HN8.out 0).trans rfl)
 all_goals (try go_wp2)
 all_goals go_ret2
 all_goals exact ⟨by rw [HTX.out]; rfl, (below_drew (HB6.out.trans HBEL7.out)).trans HBEL8.out⟩
end Go.Proofs.YthmbbkbmlnaghaaDoor.P
end
