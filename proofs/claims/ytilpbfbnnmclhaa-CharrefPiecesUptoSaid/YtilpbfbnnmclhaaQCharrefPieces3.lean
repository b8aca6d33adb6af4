/-
  Part 4 of 7 of the proof's texts, joined: PA4, PA1, Utf, Hall, Hread, Lmend, Lr01, Lr01b, Hrmend, Hconv.
  (Where a joined text began as one that the kit's print.sh printed, it is trimmed here to what this claim uses, by this session's pack.py.)
-/
import Derived.Test.YtilpbfbnnmclhaaQCharrefPieces0
import Derived.Test.YtilpbfbnnmclhaaQCharrefPieces1
import Derived.Test.YtilpbfbnnmclhaaQCharrefPieces2
import Derived.Lib.ValidLaws
import Derived.Lib.RuneBytes
import Derived.RangeFuncNested
import Derived.RangeFuncBound
import Derived.RangeFuncCalls
import Derived.RangeFuncLeaves
import Derived.RangeFuncBox
import Derived.Shelf.Abstract
import Derived.OwnWalkIn
import Derived.TacticsInMore
import Derived.LoopNIn
import Derived.LoopIn
import Derived.Lib.Hide
import Derived.Laws.BitsAllLaws
import Derived.Laws.Cover4
import Derived.Lib.AtoiErrMem
section
namespace Go.Proofs.Ytilpbfbnnmclhaa.P
open Go.RowKit Go.Proofs.YtilpbfbnnmclhaaW.PrintWords Go.Proofs.YtilpbfbnnmclhaaW.PrintLast Go.Proofs.YtilpbfbnnmclhaaW.PrintMore
attribute [local go_sem] max2_int min2_int max_two min_two max_three min_three max_four min_four   -- for this text's walks alone
set_option linter.unusedVariables false
set_option linter.unusedSimpArgs false

/-! ### sieveref01_Pieces: function 31 -/
mutual
def sieveref01_Pieces.l0 : Nat → List Int → List (S67) → Int → Option ((List (S67)))
 | 0, _, _, _ => none
 | k + 1, x0, x3, x4 => if x4 < (x0.length : Int) then (if 0 ≤ x4 then (if x4 ≤ (x0.length : Int) then ((sieveref01_good.f k (x0.drop (x4 : Int).toNat)).bind fun bt152 => (if bt152.1 = 0 then (sieveref01_Pieces.j1 k x0 x3 x4 bt152.1 bt152.2 65533 x4 1 bt152.2) else (sieveref01_Pieces.j1 k x0 x3 x4 bt152.1 bt152.2 65533 x4 bt152.1 bt152.2))) else (none)) else (none)) else (some x3)
def sieveref01_Pieces.j1 : Nat → List Int → List (S67) → Int → Int → Bool → Int → Int → Int → Bool → Option ((List (S67)))
 | 0, _, _, _, _, _, _, _, _, _ => none
 | k + 1, x0, x3, x4, x5, x6, x155000, x155001, x155002, x155003 => if x6 = true then (if 0 ≤ x4 then (if x4 < (x0.length : Int) then (if x5 = 2 then (sieveref01_Pieces.j2 k x0 x3 x4 x5 (Int.tmod (wrap32 (rd x0 x4)) 32) x155000 x155001 x155002 x155003) else (if x5 = 3 then (sieveref01_Pieces.j2 k x0 x3 x4 x5 (Int.tmod (wrap32 (rd x0 x4)) 16) x155000 x155001 x155002 x155003) else (if x5 = 4 then (sieveref01_Pieces.j2 k x0 x3 x4 x5 (Int.tmod (wrap32 (rd x0 x4)) 8) x155000 x155001 x155002 x155003) else (sieveref01_Pieces.j2 k x0 x3 x4 x5 (wrap32 (rd x0 x4)) x155000 x155001 x155002 x155003)))) else (none)) else (none)) else (if x3.length < 4398046511104 then (sieveref01_Pieces.l0 k x0 (x3 ++ [(⟨x155000, x155001, x155002, x155003⟩ : S67)]) (wrap64 (x4 + x155002))) else (none))
def sieveref01_Pieces.j2 : Nat → List Int → List (S67) → Int → Int → Int → Int → Int → Int → Bool → Option ((List (S67)))
 | 0, _, _, _, _, _, _, _, _, _ => none
 | k + 1, x0, x3, x4, x5, x8, x155000, x155001, x155002, x155003 => sieveref01_Pieces.l1 k x0 x3 x4 x5 x8 1 x155000 x155001 x155002 x155003
def sieveref01_Pieces.l1 : Nat → List Int → List (S67) → Int → Int → Int → Int → Int → Int → Int → Bool → Option ((List (S67)))
 | 0, _, _, _, _, _, _, _, _, _, _ => none
 | k + 1, x0, x3, x4, x5, x8, x9, x155000, x155001, x155002, x155003 => if x9 < x5 then (if 0 ≤ (wrap64 (x4 + x9)) then (if (wrap64 (x4 + x9)) < (x0.length : Int) then (sieveref01_Pieces.l1 k x0 x3 x4 x5 (wrap32 ((wrap32 (x8 * 64)) + (Int.tmod (wrap32 (rd x0 (wrap64 (x4 + x9)))) 64))) (wrap64 (x9 + 1)) x155000 x155001 x155002 x155003) else (none)) else (none)) else (if x3.length < 4398046511104 then (sieveref01_Pieces.l0 k x0 (x3 ++ [(⟨x8, x155001, x155002, x155003⟩ : S67)]) (wrap64 (x4 + x155002))) else (none))
end
def sieveref01_Pieces.f (k : Nat) (l0 : List Int) : Option ((List (S67))) := sieveref01_Pieces.l0 k l0 ([] : List (S67)) 0
theorem sieveref01_Pieces.mono_l : ∀ k, (∀ y0 y1 y2, LeO (sieveref01_Pieces.l0 k y0 y1 y2) (sieveref01_Pieces.l0 (k + 1) y0 y1 y2)) ∧ (∀ y0 y1 y2 y3 y4 y5 y6 y7 y8, LeO (sieveref01_Pieces.j1 k y0 y1 y2 y3 y4 y5 y6 y7 y8) (sieveref01_Pieces.j1 (k + 1) y0 y1 y2 y3 y4 y5 y6 y7 y8)) ∧ (∀ y0 y1 y2 y3 y4 y5 y6 y7 y8, LeO (sieveref01_Pieces.j2 k y0 y1 y2 y3 y4 y5 y6 y7 y8) (sieveref01_Pieces.j2 (k + 1) y0 y1 y2 y3 y4 y5 y6 y7 y8)) ∧ (∀ y0 y1 y2 y3 y4 y5 y6 y7 y8 y9, LeO (sieveref01_Pieces.l1 k y0 y1 y2 y3 y4 y5 y6 y7 y8 y9) (sieveref01_Pieces.l1 (k + 1) y0 y1 y2 y3 y4 y5 y6 y7 y8 y9))
 | 0 => ⟨fun _ _ _ r h => by simp [sieveref01_Pieces.l0] at h, fun _ _ _ _ _ _ _ _ _ r h => by simp [sieveref01_Pieces.j1] at h, fun _ _ _ _ _ _ _ _ _ r h => by simp [sieveref01_Pieces.j2] at h, fun _ _ _ _ _ _ _ _ _ _ r h => by simp [sieveref01_Pieces.l1] at h⟩
 | k + 1 => by
  obtain ⟨ih0, ih1, ih2, ih3⟩ := sieveref01_Pieces.mono_l k
  refine ⟨?_, ?_, ?_, ?_⟩
  ·intro y0 y1 y2
   unfold sieveref01_Pieces.l0
   repeat' first
   | (with_reducible exact ih0 _ _ _)
   | (with_reducible exact ih1 _ _ _ _ _ _ _ _ _)
   | (with_reducible exact ih2 _ _ _ _ _ _ _ _ _)
   | (with_reducible exact ih3 _ _ _ _ _ _ _ _ _ _)
   | (with_reducible exact sieveref01_good.mono _ _)
   | (with_reducible exact LeO.refl _)
   | (with_reducible exact LeO.none _)
   | (with_reducible refine LeO.ite ?_ ?_)
   | (with_reducible refine LeO.bind ?_ (fun _ => ?_))
   | exact ih0 _ _ _
   | exact ih1 _ _ _ _ _ _ _ _ _
   | exact ih2 _ _ _ _ _ _ _ _ _
   | exact ih3 _ _ _ _ _ _ _ _ _ _
   | exact sieveref01_good.mono _ _
   | exact LeO.none _
   | refine LeO.ite ?_ ?_
   | refine LeO.bind ?_ (fun _ => ?_)
  ·intro y0 y1 y2 y3 y4 y5 y6 y7 y8
   unfold sieveref01_Pieces.j1
   repeat' first
   | (with_reducible exact ih0 _ _ _)
   | (with_reducible exact ih1 _ _ _ _ _ _ _ _ _)
   | (with_reducible exact ih2 _ _ _ _ _ _ _ _ _)
   | (with_reducible exact ih3 _ _ _ _ _ _ _ _ _ _)
   | (with_reducible exact sieveref01_good.mono _ _)
   | (with_reducible exact LeO.refl _)
   | (with_reducible exact LeO.none _)
   | (with_reducible refine LeO.ite ?_ ?_)
   | (with_reducible refine LeO.bind ?_ (fun _ => ?_))
   | exact ih0 _ _ _
   | exact ih1 _ _ _ _ _ _ _ _ _
   | exact ih2 _ _ _ _ _ _ _ _ _
   | exact ih3 _ _ _ _ _ _ _ _ _ _
   | exact sieveref01_good.mono _ _
   | exact LeO.none _
   | refine LeO.ite ?_ ?_
   | refine LeO.bind ?_ (fun _ => ?_)
  ·intro y0 y1 y2 y3 y4 y5 y6 y7 y8
   unfold sieveref01_Pieces.j2
   repeat' first
   | (with_reducible exact ih0 _ _ _)
   | (with_reducible exact ih1 _ _ _ _ _ _ _ _ _)
   | (with_reducible exact ih2 _ _ _ _ _ _ _ _ _)
   | (with_reducible exact ih3 _ _ _ _ _ _ _ _ _ _)
   | (with_reducible exact sieveref01_good.mono _ _)
   | (with_reducible exact LeO.refl _)
   | (with_reducible exact LeO.none _)
   | (with_reducible refine LeO.ite ?_ ?_)
   | (with_reducible refine LeO.bind ?_ (fun _ => ?_))
   | exact ih0 _ _ _
   | exact ih1 _ _ _ _ _ _ _ _ _
   | exact ih2 _ _ _ _ _ _ _ _ _
   | exact ih3 _ _ _ _ _ _ _ _ _ _
   | exact sieveref01_good.mono _ _
   | exact LeO.none _
   | refine LeO.ite ?_ ?_
   | refine LeO.bind ?_ (fun _ => ?_)
  ·intro y0 y1 y2 y3 y4 y5 y6 y7 y8 y9
   unfold sieveref01_Pieces.l1
   repeat' first
   | (with_reducible exact ih0 _ _ _)
   | (with_reducible exact ih1 _ _ _ _ _ _ _ _ _)
   | (with_reducible exact ih2 _ _ _ _ _ _ _ _ _)
   | (with_reducible exact ih3 _ _ _ _ _ _ _ _ _ _)
   | (with_reducible exact sieveref01_good.mono _ _)
   | (with_reducible exact LeO.refl _)
   | (with_reducible exact LeO.none _)
   | (with_reducible refine LeO.ite ?_ ?_)
   | (with_reducible refine LeO.bind ?_ (fun _ => ?_))
   | exact ih0 _ _ _
   | exact ih1 _ _ _ _ _ _ _ _ _
   | exact ih2 _ _ _ _ _ _ _ _ _
   | exact ih3 _ _ _ _ _ _ _ _ _ _
   | exact sieveref01_good.mono _ _
   | exact LeO.none _
   | refine LeO.ite ?_ ?_
   | refine LeO.bind ?_ (fun _ => ?_)
theorem sieveref01_Pieces.mono : ∀ a0 k, LeO (sieveref01_Pieces.f k a0) (sieveref01_Pieces.f (k + 1) a0) := by
 intro a0 k
 obtain ⟨ih0, ih1, ih2, ih3⟩ := sieveref01_Pieces.mono_l k
 unfold sieveref01_Pieces.f
 repeat' first
   | (with_reducible exact ih0 _ _ _)
   | (with_reducible exact ih1 _ _ _ _ _ _ _ _ _)
   | (with_reducible exact ih2 _ _ _ _ _ _ _ _ _)
   | (with_reducible exact ih3 _ _ _ _ _ _ _ _ _ _)
   | (with_reducible exact sieveref01_good.mono _ _)
   | (with_reducible exact LeO.refl _)
   | (with_reducible exact LeO.none _)
   | (with_reducible refine LeO.ite ?_ ?_)
   | (with_reducible refine LeO.bind ?_ (fun _ => ?_))
   | exact ih0 _ _ _
   | exact ih1 _ _ _ _ _ _ _ _ _
   | exact ih2 _ _ _ _ _ _ _ _ _
   | exact ih3 _ _ _ _ _ _ _ _ _ _
   | exact sieveref01_good.mono _ _
   | exact LeO.none _
   | refine LeO.ite ?_ ?_
   | refine LeO.bind ?_ (fun _ => ?_)
set_option maxHeartbeats 8000000 in
set_option maxRecDepth 100000 in
theorem sieveref01_Pieces.calls (k : Nat) (A0 : Option Addr) (c0 : Nat) (l0 : List Int) (r : List (S67)) (w : World) (hr0 : Kd.C (Kd.int .u8) w A0 l0.length l0) (hc0 : l0.length ≤ c0) (h : sieveref01_Pieces.f k l0 = some r) :
  Calls Try.prog 31 #[.slice A0 l0.length c0] w fun e w' => ∃ v0_ : Value, e = .returned (v0_) ∧ Kd.R k67 67 w' w.heap.size (fun _ => True) v0_ r ∧ Below w.heap.size w w' := by
 have hu67 := Try.underlying67
 have HR0 := Aside0.mk hr0
 have HC0 := Aside0.mk hc0
 clear hr0 hc0
 have HB := Aside0.mk (Below.refl w.heap.size w)
 have H : (sieveref01_Pieces.l0 k l0 ([] : List (S67)) 0) = some r := h
 clear h
 have H' := Aside0.mk H
 clear H
 go_enter Try.func31, Try.ntmps31
 go_wp2
 go_loopg [3, 4] k (fun kq v3 v4 w' => ∃ (x3_1 : List (S67)) (x4_1 : Int), v4 = .int .i64 x4_1 ∧ Aside0 (sieveref01_Pieces.l0 kq l0 x3_1 x4_1 = some r) ∧ Aside0 (kq ≤ k) ∧ Aside0 (Kd.R k67 67 w' w.heap.size (fun _ => True) v3 x3_1) ∧ Aside0 (Below w.heap.size w w'))
 case atStart => exact ⟨(([] : List (S67))), (0), (by first | rfl | (simp; done) | (simp [*]; done) | (unfold bt; split <;> first | rfl | (exfalso; simp_all; done) | (exfalso; simp_all; omega))), H', ⟨Nat.le_refl _⟩, ⟨by first | exact Kd.R_nil _ _ _ _ _ | exact Kd.N_nil _ _ _ _ _ | exact Kd.V_nil _ _ _ _ _ | exact Kd.Q_nil _ _ _ _ _ | exact Kd.S_nil _ _ _ _ _⟩, ⟨by repeat (first | (with_reducible first | exact HB.out | apply below_alloc | apply pw_below_drewN | apply below_drew1) | exact HB.out)⟩⟩
 case round =>
  clear H'
  obtain ⟨x3_1, x4_1, rfl, HA, HK1, HO_3, HB⟩ := hrel
  cases gk with
  | zero => exact absurd HA.out (by simp [sieveref01_Pieces.l0])
  | succ k1 =>
   have H := HA.out
   clear HA
   simp only [sieveref01_Pieces.l0] at H
   by_cases c2 : x4_1 < (l0.length : Int)
   ·rw [if_pos c2] at H
    have c2b0 : decide (x4_1 < (l0.length : Int)) = true := decide_eq_true c2
    clear c2
    by_cases c3 : 0 ≤ x4_1
    ·rw [if_pos c3] at H
     have c3b0 := eq_true c3
     have c3b1 : decide (0 ≤ x4_1) = true := decide_eq_true c3
     clear c3
     by_cases c4 : x4_1 ≤ (l0.length : Int)
     ·rw [if_pos c4] at H
      have c4b0 := eq_true c4
      have c4b1 : decide (x4_1 ≤ (l0.length : Int)) = true := decide_eq_true c4
      clear c4
      replace H := Option.bind_eq_some_iff.mp H
      obtain ⟨⟨t152, t153⟩, A50, H⟩ := H
      replace H : (if t152 = 0 then (sieveref01_Pieces.j1 k1 l0 x3_1 x4_1 t152 t153 65533 x4_1 1 t153) else (sieveref01_Pieces.j1 k1 l0 x3_1 x4_1 t152 t153 65533 x4_1 t152 t153)) = some r := H
      have A5 := Aside0.mk A50
      clear A50
      have HC6 := Aside0.mk H
      clear H
      obtain ⟨i07, hi07, _, hsz7, _⟩ := info_parts info5
      obtain ⟨A7, hcut7, hA7, hC7⟩ := print_drop_of (P := Try.prog) (Value.int .u8) 0 31 5 .i64 Try.underlying31 hi07 hsz7 A0 c0 l0 x4_1 (of_decide_eq_true (by first | (with_reducible assumption) | assumption)) (of_decide_eq_true (by first | (with_reducible assumption) | assumption)) HC0.out
      have HR151 := Aside0.mk (Kd.C_of_reads (h1 := fun _ => rfl) (hA7 _ (Kd.reads_of_C HR0.out)))
      have HC151 := Aside0.mk hC7
      clear hA7 hC7 hi07 hsz7
      go_upto_if 26 with (first | ((with_reducible refine gate_callee (f := 52) rfl ?_); refine goesL_ (some 18) rfl rfl Try.func52 (by kernel_rfl) rfl #[.slice A7 (l0.drop (x4_1 : Int).toNat).length (c0 - x4_1.toNat)] rfl (by (try simp only [List.map_toArray, List.map_cons, List.map_nil]); first | done | (rw [show (l0.drop (x4_1 : Int).toNat).length = (l0.length - x4_1.toNat) from List.length_drop] <;> rfl) | rfl | (simp only [List.length_drop, List.length_take]; rfl)) ?_; (with_reducible refine (sieveref01_good.calls k1 _ _ (l0.drop (x4_1 : Int).toNat) t152 t153 _ ?side1 ?side2 A5.out).mono ?_); (case side1 => repeat (first | exact (Kd.C_below HR151.out HB.out) | (with_reducible refine Kd.C_alloc ?_ _) | (with_reducible refine Kd.C_drewN ?_ _) | (with_reducible refine Kd.C_drew ?_))); (case side2 => exact HC151.out); rintro e w8 ⟨rfl, hb⟩; refine ⟨_, rfl, ?_⟩; have n0_ := Aside0.mk (Kd.R_below (by (with_reducible repeat (first | apply Kd.R_alloc | apply Kd.R_drewN | apply Kd.R_drew)); exact HO_3.out) hb); have n1_ := Aside0.mk (below_step (by repeat (first | (with_reducible first | exact HB.out | apply below_alloc | apply pw_below_drewN | apply below_drew1) | exact HB.out)) hb); clear HO_3; clear HB; have HO_3 := n0_; have HB := n1_; clear n0_ n1_; (try clear hb); (try clear hb2); (try clear hk); (try clear hi)) | ((with_reducible refine gate_dst (N := 7) rfl ?_); refine box_event ?hg (N := 7) ?hd (cs := #[.int .i32 0, .int .i64 0, .int .i64 0, .bool false]) (t := 67) ?hr ?_; (case hd => rfl); (case hg => rfl); (case hr => first | (go_simp; done) | (go_simp; rfl)); intro gb154 hg w9 hbox hb; have n0_ := Aside0.mk (Kd.R_below (Kd.R_elderB (by (with_reducible repeat (first | apply Kd.R_alloc | apply Kd.R_drewN | apply Kd.R_drew)); exact HO_3.out) gb154 (Nat.le_of_eq hg.symm)) hb); have n1_ := Aside0.mk (below_step (by repeat (first | (with_reducible first | exact HB.out | apply below_alloc | apply pw_below_drewN | apply below_drew1) | exact HB.out)) hb); have n2_ := Aside0.mk (hbox); have n3_ := Aside0.mk ((by rw [hg]; exact (below_size (by repeat (first | (with_reducible first | exact HB.out | apply below_alloc | apply pw_below_drewN | apply below_drew1) | exact HB.out))) : w.heap.size ≤ gb154)); have n4_ := Aside0.mk ((by rw [hg]; exact (below_size (by repeat (first | (with_reducible first | exact HB.out | apply below_alloc | apply pw_below_drewN | apply below_drew1) | exact HB.out))) : w.heap.size ≤ gb154)); clear HO_3; clear HB; have HO_3 := n0_; have HB := n1_; have BK154 := n2_; have GW154 := n3_; have GE154 := n4_; clear n0_ n1_ n2_ n3_ n4_; clear hb hbox hg; have hcz10_0 : w9.cell? ⟨gb154, 0, none⟩ = some (.int .i32 0) := (blk_cell BK154.out 0).trans rfl; have hcz10_1 : w9.cell? ⟨gb154, 1, none⟩ = some (.int .i64 0) := (blk_cell BK154.out 1).trans rfl; have hcz10_2 : w9.cell? ⟨gb154, 2, none⟩ = some (.int .i64 0) := (blk_cell BK154.out 2).trans rfl; have hcz10_3 : w9.cell? ⟨gb154, 3, none⟩ = some (.bool false) := (blk_cell BK154.out 3).trans rfl; have hfz10_0 := blk_frozen BK154.out 0; have hfz10_1 := blk_frozen BK154.out 1; have hfz10_2 := blk_frozen BK154.out 2; have hfz10_3 := blk_frozen BK154.out 3))
      (try simp only [Act.put, List.setIfInBounds_toArray, List.set_cons_zero, List.set_cons_succ])
      go_cut [] (fun wc => ∃ (kq : Nat) (x155002_5 : Int), Aside0 (sieveref01_Pieces.j1 kq l0 x3_1 x4_1 t152 t153 65533 x4_1 x155002_5 t153 = some r) ∧ Aside0 (kq ≤ k1) ∧ Aside0 (Kd.R k67 67 wc w.heap.size (fun k_ => k_ ≠ gb154) u3 x3_1) ∧ Aside0 (wc.heap[gb154]? = some (.cells #[.int .i32 65533, .int .i64 x4_1, .int .i64 x155002_5, .bool t153] 67 (0, 0))) ∧ Aside0 (Below w.heap.size w wc))
      case first =>
       have H := HC6.out
       clear HC6
       by_cases c11 : t152 = 0
       ·rw [if_pos c11] at H
        have c11b0 : (t152 == 0) = true := beq_iff_eq.mpr c11
        have c11b1 : (t152 != 0) = false := bne_eq_false_iff_eq.mpr c11
        clear c11
        (first | rw [c11b0] | (simp only [i64_w, i32_w]; rw [c11b0]) | skip)
        have H' := Aside0.mk H
        clear H
        have hcz12_0 : w9.cell? ⟨gb154, 0, none⟩ = some (.int .i32 0) := (blk_cell BK154.out 0).trans rfl
        have hcz12_1 : w9.cell? ⟨gb154, 1, none⟩ = some (.int .i64 0) := (blk_cell BK154.out 1).trans rfl
        have hcz12_2 : w9.cell? ⟨gb154, 2, none⟩ = some (.int .i64 0) := (blk_cell BK154.out 2).trans rfl
        have hcz12_3 : w9.cell? ⟨gb154, 3, none⟩ = some (.bool false) := (blk_cell BK154.out 3).trans rfl
        have hfz12_0 := blk_frozen BK154.out 0
        have hfz12_1 := blk_frozen BK154.out 1
        have hfz12_2 := blk_frozen BK154.out 2
        have hfz12_3 := blk_frozen BK154.out 3
        go_wp2
        go_meet
        case rel => exact ⟨_, (1), H', ⟨by have := HK1.out; first | omega | exact Nat.le_refl _⟩, ⟨by (with_reducible repeat (first | apply Kd.R_alloc | apply Kd.R_drewN | apply Kd.R_drew)); exact Kd.R_mono (Kd.R_far (p := ⟨gb154, 2, none⟩) (Kd.R_far (p := ⟨gb154, 3, none⟩) (Kd.R_far (p := ⟨gb154, 2, none⟩) (Kd.R_far (p := ⟨gb154, 1, none⟩) (Kd.R_far (p := ⟨gb154, 0, none⟩) (Kd.R_mono HO_3.out (fun k_ hk => (⟨hk, hk.2⟩ : _ ∧ k_ ≠ gb154))) (fun _ hk => hk.2) (.int .i32 65533)) (fun _ hk => hk.2) (.int .i64 x4_1)) (fun _ hk => hk.2) (.int .i64 t152)) (fun _ hk => hk.2) (.bool t153)) (fun _ hk => hk.2) (.int .i64 1)) (fun _ hk => hk.1.2)⟩, ⟨by (with_reducible repeat (first | refine blk_drewN ?_ _ | refine blk_drew ?_ | refine blk_alloc ?_ _)); refine blk_put (cs := #[.int .i32 65533, .int .i64 x4_1, .int .i64 t152, .bool t153]) ?_ 2 _ rfl; (with_reducible repeat (first | refine blk_drewN ?_ _ | refine blk_drew ?_ | refine blk_alloc ?_ _)); refine blk_put (cs := #[.int .i32 65533, .int .i64 x4_1, .int .i64 t152, .bool false]) ?_ 3 _ rfl; (with_reducible repeat (first | refine blk_drewN ?_ _ | refine blk_drew ?_ | refine blk_alloc ?_ _)); refine blk_put (cs := #[.int .i32 65533, .int .i64 x4_1, .int .i64 0, .bool false]) ?_ 2 _ rfl; (with_reducible repeat (first | refine blk_drewN ?_ _ | refine blk_drew ?_ | refine blk_alloc ?_ _)); refine blk_put (cs := #[.int .i32 65533, .int .i64 0, .int .i64 0, .bool false]) ?_ 1 _ rfl; (with_reducible repeat (first | refine blk_drewN ?_ _ | refine blk_drew ?_ | refine blk_alloc ?_ _)); refine blk_put (cs := #[.int .i32 0, .int .i64 0, .int .i64 0, .bool false]) ?_ 0 _ rfl; (with_reducible repeat (first | refine blk_drewN ?_ _ | refine blk_drew ?_ | refine blk_alloc ?_ _)); exact BK154.out⟩, ⟨by repeat (first | (with_reducible first | exact HB.out | apply below_alloc | apply pw_below_drewN | apply below_drew1 | refine below_set ?_ GE154.out) | exact HB.out)⟩⟩
       ·rw [if_neg c11] at H
        have c11b0 : (t152 == 0) = false := beq_eq_false_iff_ne.mpr c11
        have c11b1 : (t152 != 0) = true := bne_iff_ne.mpr c11
        (first | rw [c11b0] | (simp only [i64_w, i32_w]; rw [c11b0]) | skip)
        have H' := Aside0.mk H
        clear H
        go_wp2
        go_meet
        case rel => exact ⟨_, (t152), H', ⟨by have := HK1.out; first | omega | exact Nat.le_refl _⟩, ⟨by (with_reducible repeat (first | apply Kd.R_alloc | apply Kd.R_drewN | apply Kd.R_drew)); exact Kd.R_mono (Kd.R_far (p := ⟨gb154, 3, none⟩) (Kd.R_far (p := ⟨gb154, 2, none⟩) (Kd.R_far (p := ⟨gb154, 1, none⟩) (Kd.R_far (p := ⟨gb154, 0, none⟩) (Kd.R_mono HO_3.out (fun k_ hk => (⟨hk, hk.2⟩ : _ ∧ k_ ≠ gb154))) (fun _ hk => hk.2) (.int .i32 65533)) (fun _ hk => hk.2) (.int .i64 x4_1)) (fun _ hk => hk.2) (.int .i64 t152)) (fun _ hk => hk.2) (.bool t153)) (fun _ hk => hk.1.2)⟩, ⟨by (with_reducible repeat (first | refine blk_drewN ?_ _ | refine blk_drew ?_ | refine blk_alloc ?_ _)); refine blk_put (cs := #[.int .i32 65533, .int .i64 x4_1, .int .i64 t152, .bool false]) ?_ 3 _ rfl; (with_reducible repeat (first | refine blk_drewN ?_ _ | refine blk_drew ?_ | refine blk_alloc ?_ _)); refine blk_put (cs := #[.int .i32 65533, .int .i64 x4_1, .int .i64 0, .bool false]) ?_ 2 _ rfl; (with_reducible repeat (first | refine blk_drewN ?_ _ | refine blk_drew ?_ | refine blk_alloc ?_ _)); refine blk_put (cs := #[.int .i32 65533, .int .i64 0, .int .i64 0, .bool false]) ?_ 1 _ rfl; (with_reducible repeat (first | refine blk_drewN ?_ _ | refine blk_drew ?_ | refine blk_alloc ?_ _)); refine blk_put (cs := #[.int .i32 0, .int .i64 0, .int .i64 0, .bool false]) ?_ 0 _ rfl; (with_reducible repeat (first | refine blk_drewN ?_ _ | refine blk_drew ?_ | refine blk_alloc ?_ _)); exact BK154.out⟩, ⟨by repeat (first | (with_reducible first | exact HB.out | apply below_alloc | apply pw_below_drewN | apply below_drew1 | refine below_set ?_ GE154.out) | exact HB.out)⟩⟩
      case rest =>
       clear HC6
       try clear c1
       try clear c2
       try clear c2b0
       try clear p2
       try clear c3
       try clear c3b0
       try clear c3b1
       try clear c4
       try clear c4b0
       try clear c4b1
       try clear c5
       try clear c11
       try clear c11b0
       try clear c11b1
       try clear hcz10_0
       try clear hcz10_1
       try clear hcz10_2
       try clear hcz10_3
       try clear hcz12_0
       try clear hcz12_1
       try clear hcz12_2
       try clear hcz12_3
       try clear hfz10_0
       try clear hfz10_1
       try clear hfz10_2
       try clear hfz10_3
       try clear hfz12_0
       try clear hfz12_1
       try clear hfz12_2
       try clear hfz12_3
       obtain ⟨kq, x155002_5, HA, HJ5, HO_3, BK154, HB⟩ := hcut
       cases kq with
       | zero => exact absurd HA.out (by simp [sieveref01_Pieces.j1])
       | succ kj5 =>
        have H := HA.out
        clear HA
        simp only [sieveref01_Pieces.j1] at H
        by_cases c13 : t153 = true
        ·subst c13
         have H1 : (if 0 ≤ x4_1 then (if x4_1 < (l0.length : Int) then (if t152 = 2 then (sieveref01_Pieces.j2 kj5 l0 x3_1 x4_1 t152 (Int.tmod (wrap32 (rd l0 x4_1)) 32) 65533 x4_1 x155002_5 true) else (if t152 = 3 then (sieveref01_Pieces.j2 kj5 l0 x3_1 x4_1 t152 (Int.tmod (wrap32 (rd l0 x4_1)) 16) 65533 x4_1 x155002_5 true) else (if t152 = 4 then (sieveref01_Pieces.j2 kj5 l0 x3_1 x4_1 t152 (Int.tmod (wrap32 (rd l0 x4_1)) 8) 65533 x4_1 x155002_5 true) else (sieveref01_Pieces.j2 kj5 l0 x3_1 x4_1 t152 (wrap32 (rd l0 x4_1)) 65533 x4_1 x155002_5 true)))) else (none)) else (none)) = some r := by rw [if_pos rfl] at H; exact H
         clear H
         have H := H1
         clear H1
         by_cases c14 : 0 ≤ x4_1
         ·rw [if_pos c14] at H
          have c14b0 : decide (0 ≤ x4_1) = true := decide_eq_true c14
          clear c14
          by_cases c15 : x4_1 < (l0.length : Int)
          ·rw [if_pos c15] at H
           have c15b0 : decide (x4_1 < (l0.length : Int)) = true := decide_eq_true c15
           clear c15
           have HC16 := Aside0.mk H
           clear H
           have p155 : 0 ≤ (x4_1 : Int) := of_decide_eq_true (by first | (with_reducible assumption) | assumption)
           have q155 : x4_1 < (l0.length : Int) := of_decide_eq_true (by first | (with_reducible assumption) | assumption)
           obtain ⟨ad155, e155, hx155_0⟩ := Kd.at_int HR0.out x4_1 p155 q155
           cases e155
           replace hx155_0 := (HB.out.cell (World.block_lt_of_cell? w _ hx155_0)).trans hx155_0
           replace p155 := eq_true p155
           replace q155 := eq_true q155
           go_upto_block 2 with (fail)
           go_cut [8] (fun v8 wc => ∃ (kq : Nat) (x8_15 : Int), v8 = .int .i32 x8_15 ∧ Aside0 (sieveref01_Pieces.j2 kq l0 x3_1 x4_1 t152 x8_15 65533 x4_1 x155002_5 true = some r) ∧ Aside0 (kq ≤ kj5) ∧ Aside0 (Kd.R k67 67 wc w.heap.size (fun k_ => k_ ≠ gb154) u3 x3_1) ∧ Aside0 (wc.heap[gb154]? = some (.cells #[.int .i32 65533, .int .i64 x4_1, .int .i64 x155002_5, .bool true] 67 (0, 0))) ∧ Aside0 (Below w.heap.size w wc))
           case first =>
            have H := HC16.out
            clear HC16
            by_cases c17 : t152 = 2
            ·rw [if_pos c17] at H
             have c17b0 : (t152 == 2) = true := beq_iff_eq.mpr c17
             have c17b1 : (t152 != 2) = false := bne_eq_false_iff_eq.mpr c17
             clear c17
             (first | rw [c17b0] | (simp only [i64_w, i32_w]; rw [c17b0]) | skip)
             have H' := Aside0.mk H
             clear H
             go_wp2
             go_meet
             case rel => exact ⟨_, (Int.tmod (wrap32 (rd l0 x4_1)) 32), (by first | rfl | (simp; done) | (simp [*]; done) | (unfold bt; split <;> first | rfl | (exfalso; simp_all; done) | (exfalso; simp_all; omega))), H', ⟨by have := HK1.out; have := HJ5.out; first | omega | exact Nat.le_refl _⟩, ⟨by (with_reducible repeat (first | apply Kd.R_alloc | apply Kd.R_drewN | apply Kd.R_drew)); exact HO_3.out⟩, ⟨by (with_reducible repeat (first | refine blk_drewN ?_ _ | refine blk_drew ?_ | refine blk_alloc ?_ _)); exact BK154.out⟩, ⟨by repeat (first | (with_reducible first | exact HB.out | apply below_alloc | apply pw_below_drewN | apply below_drew1 | refine below_set ?_ GE154.out) | exact HB.out)⟩⟩
            ·rw [if_neg c17] at H
             have c17b0 : (t152 == 2) = false := beq_eq_false_iff_ne.mpr c17
             have c17b1 : (t152 != 2) = true := bne_iff_ne.mpr c17
             (first | rw [c17b0] | (simp only [i64_w, i32_w]; rw [c17b0]) | skip)
             by_cases c18 : t152 = 3
             ·rw [if_pos c18] at H
              have c18b0 : (t152 == 3) = true := beq_iff_eq.mpr c18
              have c18b1 : (t152 != 3) = false := bne_eq_false_iff_eq.mpr c18
              clear c18
              have H' := Aside0.mk H
              clear H
              go_wp2
              go_meet
              case rel => exact ⟨_, (Int.tmod (wrap32 (rd l0 x4_1)) 16), (by first | rfl | (simp; done) | (simp [*]; done) | (unfold bt; split <;> first | rfl | (exfalso; simp_all; done) | (exfalso; simp_all; omega))), H', ⟨by have := HK1.out; have := HJ5.out; first | omega | exact Nat.le_refl _⟩, ⟨by (with_reducible repeat (first | apply Kd.R_alloc | apply Kd.R_drewN | apply Kd.R_drew)); exact HO_3.out⟩, ⟨by (with_reducible repeat (first | refine blk_drewN ?_ _ | refine blk_drew ?_ | refine blk_alloc ?_ _)); exact BK154.out⟩, ⟨by repeat (first | (with_reducible first | exact HB.out | apply below_alloc | apply pw_below_drewN | apply below_drew1 | refine below_set ?_ GE154.out) | exact HB.out)⟩⟩
             ·rw [if_neg c18] at H
              have c18b0 : (t152 == 3) = false := beq_eq_false_iff_ne.mpr c18
              have c18b1 : (t152 != 3) = true := bne_iff_ne.mpr c18
              by_cases c19 : t152 = 4
              ·rw [if_pos c19] at H
               have c19b0 : (t152 == 4) = true := beq_iff_eq.mpr c19
               have c19b1 : (t152 != 4) = false := bne_eq_false_iff_eq.mpr c19
               clear c19
               have H' := Aside0.mk H
               clear H
               go_wp2
               go_meet
               case rel => exact ⟨_, (Int.tmod (wrap32 (rd l0 x4_1)) 8), (by first | rfl | (simp; done) | (simp [*]; done) | (unfold bt; split <;> first | rfl | (exfalso; simp_all; done) | (exfalso; simp_all; omega))), H', ⟨by have := HK1.out; have := HJ5.out; first | omega | exact Nat.le_refl _⟩, ⟨by (with_reducible repeat (first | apply Kd.R_alloc | apply Kd.R_drewN | apply Kd.R_drew)); exact HO_3.out⟩, ⟨by (with_reducible repeat (first | refine blk_drewN ?_ _ | refine blk_drew ?_ | refine blk_alloc ?_ _)); exact BK154.out⟩, ⟨by repeat (first | (with_reducible first | exact HB.out | apply below_alloc | apply pw_below_drewN | apply below_drew1 | refine below_set ?_ GE154.out) | exact HB.out)⟩⟩
              ·rw [if_neg c19] at H
               have c19b0 : (t152 == 4) = false := beq_eq_false_iff_ne.mpr c19
               have c19b1 : (t152 != 4) = true := bne_iff_ne.mpr c19
               have H' := Aside0.mk H
               clear H
               go_wp2
               go_meet
               case rel => exact ⟨_, (wrap32 (rd l0 x4_1)), (by first | rfl | (simp; done) | (simp [*]; done) | (unfold bt; split <;> first | rfl | (exfalso; simp_all; done) | (exfalso; simp_all; omega))), H', ⟨by have := HK1.out; have := HJ5.out; first | omega | exact Nat.le_refl _⟩, ⟨by (with_reducible repeat (first | apply Kd.R_alloc | apply Kd.R_drewN | apply Kd.R_drew)); exact HO_3.out⟩, ⟨by (with_reducible repeat (first | refine blk_drewN ?_ _ | refine blk_drew ?_ | refine blk_alloc ?_ _)); exact BK154.out⟩, ⟨by repeat (first | (with_reducible first | exact HB.out | apply below_alloc | apply pw_below_drewN | apply below_drew1 | refine below_set ?_ GE154.out) | exact HB.out)⟩⟩
           case rest =>
            clear HC16
            try clear c1
            try clear p1
            try clear q1
            try clear hx1
            try clear c2
            try clear c2b0
            try clear p2
            try clear c3
            try clear c3b0
            try clear c3b1
            try clear p3
            try clear c4
            try clear c4b0
            try clear c4b1
            try clear c5
            try clear c11
            try clear c11b0
            try clear c11b1
            try clear c13
            try clear c14
            try clear c14b0
            try clear c15
            try clear c15b0
            try clear p15
            try clear q15
            try clear hx15
            try clear c17
            try clear c17b0
            try clear c17b1
            try clear c18
            try clear c18b0
            try clear c18b1
            try clear c19
            try clear c19b0
            try clear c19b1
            try clear hcz10_0
            try clear hcz10_1
            try clear hcz10_2
            try clear hcz10_3
            try clear hcz12_0
            try clear hcz12_1
            try clear hcz12_2
            try clear hcz12_3
            try clear hfz10_0
            try clear hfz10_1
            try clear hfz10_2
            try clear hfz10_3
            try clear hfz12_0
            try clear hfz12_1
            try clear hfz12_2
            try clear hfz12_3
            try clear hx155_0
            try clear p155
            try clear p2
            try clear q155
            obtain ⟨kq, x8_15, rfl, HA, HJ15, HO_3, BK154, HB⟩ := hcut
            cases kq with
            | zero => exact absurd HA.out (by simp [sieveref01_Pieces.j2])
            | succ kj15 =>
             have H := HA.out
             clear HA
             simp only [sieveref01_Pieces.j2] at H
             have H' := Aside0.mk H
             clear H
             go_wp2
             go_loopg [8, 9] kj15 (fun kq v8 v9 w' => ∃ (x8_4 : Int) (x9_4 : Int), v8 = .int .i32 x8_4 ∧ v9 = .int .i64 x9_4 ∧ Aside0 (sieveref01_Pieces.l1 kq l0 x3_1 x4_1 t152 x8_4 x9_4 65533 x4_1 x155002_5 true = some r) ∧ Aside0 (kq ≤ kj15) ∧ Aside0 (Kd.R k67 67 w' w.heap.size (fun k_ => k_ ≠ gb154) u3 x3_1) ∧ Aside0 (w'.heap[gb154]? = some (.cells #[.int .i32 65533, .int .i64 x4_1, .int .i64 x155002_5, .bool true] 67 (0, 0))) ∧ Aside0 (Below w.heap.size w w'))
             case atStart => exact ⟨(x8_15), (1), (by first | rfl | (simp; done) | (simp [*]; done) | (unfold bt; split <;> first | rfl | (exfalso; simp_all; done) | (exfalso; simp_all; omega))), (by first | rfl | (simp; done) | (simp [*]; done) | (unfold bt; split <;> first | rfl | (exfalso; simp_all; done) | (exfalso; simp_all; omega))), H', ⟨Nat.le_refl _⟩, ⟨by (with_reducible repeat (first | apply Kd.R_alloc | apply Kd.R_drewN | apply Kd.R_drew)); exact HO_3.out⟩, ⟨by (with_reducible repeat (first | refine blk_drewN ?_ _ | refine blk_drew ?_ | refine blk_alloc ?_ _)); exact BK154.out⟩, ⟨by repeat (first | (with_reducible first | exact HB.out | apply below_alloc | apply pw_below_drewN | apply below_drew1 | refine below_set ?_ GE154.out) | exact HB.out)⟩⟩
             case round =>
              clear H'
              try clear c1
              try clear p1
              try clear q1
              try clear hx1
              try clear c2
              try clear c2b0
              try clear p2
              try clear c3
              try clear c3b0
              try clear c3b1
              try clear p3
              try clear c4
              try clear c4b0
              try clear c4b1
              try clear c5
              try clear c11
              try clear c11b0
              try clear c11b1
              try clear c13
              try clear c14
              try clear c14b0
              try clear c15
              try clear c15b0
              try clear p15
              try clear q15
              try clear hx15
              try clear c17
              try clear c17b0
              try clear c17b1
              try clear c18
              try clear c18b0
              try clear c18b1
              try clear c19
              try clear c19b0
              try clear c19b1
              try clear hcz10_0
              try clear hcz10_1
              try clear hcz10_2
              try clear hcz10_3
              try clear hcz12_0
              try clear hcz12_1
              try clear hcz12_2
              try clear hcz12_3
              try clear hfz10_0
              try clear hfz10_1
              try clear hfz10_2
              try clear hfz10_3
              try clear hfz12_0
              try clear hfz12_1
              try clear hfz12_2
              try clear hfz12_3
              try clear hx155_0
              try clear p1
              try clear p15
              try clear p155
              try clear p2
              try clear p3
              try clear q1
              try clear q15
              try clear q155
              obtain ⟨x8_4, x9_4, rfl, rfl, HA, HK4, HO_3, BK154, HB⟩ := hrel
              cases gk with
              | zero => exact absurd HA.out (by simp [sieveref01_Pieces.l1])
              | succ k4 =>
               have H := HA.out
               clear HA
               simp only [sieveref01_Pieces.l1] at H
               by_cases c20 : x9_4 < t152
               ·rw [if_pos c20] at H
                have c20b0 : decide (x9_4 < t152) = true := decide_eq_true c20
                clear c20
                obtain ⟨ji21, hji21⟩ : ∃ j_ : Int, (wrap64 (x4_1 + x9_4)) = j_ := ⟨_, rfl⟩
                replace H : (if 0 ≤ (ji21) then (if (ji21) < (l0.length : Int) then (sieveref01_Pieces.l1 k4 l0 x3_1 x4_1 t152 (wrap32 ((wrap32 (x8_4 * 64)) + (Int.tmod (wrap32 (rd l0 (ji21))) 64))) (wrap64 (x9_4 + 1)) 65533 x4_1 x155002_5 true) else (none)) else (none)) = some r := by first | (rw [hji21] at H; exact H) | (simp only [hji21] at H ⊢; exact H)
                have hji21w : (IntKind.i64.wrap (x4_1 + x9_4)) = ji21 := (i64_w _).trans hji21
                by_cases c22 : 0 ≤ (ji21)
                ·rw [if_pos c22] at H
                 have c22b0 : decide (0 ≤ (ji21)) = true := decide_eq_true c22
                 clear c22
                 by_cases c23 : (ji21) < (l0.length : Int)
                 ·rw [if_pos c23] at H
                  have c23b0 : decide ((ji21) < (l0.length : Int)) = true := decide_eq_true c23
                  clear c23
                  have H' := Aside0.mk H
                  clear H
                  have p156 : 0 ≤ ((ji21) : Int) := of_decide_eq_true (by first | (with_reducible assumption) | assumption)
                  have q156 : (ji21) < (l0.length : Int) := of_decide_eq_true (by first | (with_reducible assumption) | assumption)
                  obtain ⟨ad156, e156, hx156_0⟩ := Kd.at_int HR0.out (ji21) p156 q156
                  obtain rfl : ad155 = ad156 := (by injection e156)
                  replace hx156_0 := (HB.out.cell (World.block_lt_of_cell? w _ hx156_0)).trans hx156_0
                  replace p156 := eq_true p156
                  replace q156 := eq_true q156
                  go_wp2
                  go_roundg k4
                  case measure => have := HK1.out; have := HJ5.out; have := HJ15.out; have := HK4.out; omega
                  case rel => exact ⟨(wrap32 ((wrap32 (x8_4 * 64)) + (Int.tmod (wrap32 (rd l0 (ji21))) 64))), (wrap64 (x9_4 + 1)), (by first | rfl | (simp; done) | (simp only [← hji21] <;> (first | rfl | simp)) | (simp [*]; done)), (by first | rfl | (simp; done) | (simp [*]; done) | (unfold bt; split <;> first | rfl | (exfalso; simp_all; done) | (exfalso; simp_all; omega))), H', ⟨by have := HK1.out; have := HJ5.out; have := HJ15.out; have := HK4.out; omega⟩, ⟨by (with_reducible repeat (first | apply Kd.R_alloc | apply Kd.R_drewN | apply Kd.R_drew)); exact HO_3.out⟩, ⟨by (with_reducible repeat (first | refine blk_drewN ?_ _ | refine blk_drew ?_ | refine blk_alloc ?_ _)); exact BK154.out⟩, ⟨by repeat (first | (with_reducible first | exact HB.out | apply below_alloc | apply pw_below_drewN | apply below_drew1 | refine below_set ?_ GE154.out) | exact HB.out)⟩⟩
                 ·rw [if_neg c23] at H
                  exact absurd H (by simp)
                ·rw [if_neg c22] at H
                 exact absurd H (by simp)
               ·rw [if_neg c20] at H
                have c20b0 : decide (x9_4 < t152) = false := decide_eq_false c20
                clear c20
                by_cases c24 : x3_1.length < 4398046511104
                ·rw [if_pos c24] at H
                 have LMc24 := Aside0.mk c24
                 clear c24
                 obtain ⟨y157, hy157⟩ : ∃ y_ : List (S67), y_ = (x3_1 ++ [(⟨x8_4, x4_1, x155002_5, true⟩ : S67)]) := ⟨_, rfl⟩
                 replace H : (sieveref01_Pieces.l0 k4 l0 y157 (wrap64 (x4_1 + x155002_5))) = some r := by first | (rw [hy157]; with_reducible exact H) | (have H2_ := (Option.bind_some _ _).symm.trans H; rw [hy157]; with_reducible exact H2_) | (have H2_ := (Option.bind_some _ _).symm.trans H; with_reducible exact H2_) | with_reducible exact H | (rw [hy157]; exact H) | exact H
                 have Ny157 := Aside0.mk hy157
                 clear hy157
                 have H' := Aside0.mk H
                 clear H
                 have hcz25_0 : wr.cell? ⟨gb154, 0, none⟩ = some (.int .i32 65533) := (blk_cell BK154.out 0).trans rfl
                 have hcz25_1 : wr.cell? ⟨gb154, 1, none⟩ = some (.int .i64 x4_1) := (blk_cell BK154.out 1).trans rfl
                 have hcz25_2 : wr.cell? ⟨gb154, 2, none⟩ = some (.int .i64 x155002_5) := (blk_cell BK154.out 2).trans rfl
                 have hcz25_3 : wr.cell? ⟨gb154, 3, none⟩ = some (.bool true) := (blk_cell BK154.out 3).trans rfl
                 have hfz25_0 := blk_frozen BK154.out 0
                 have hfz25_1 := blk_frozen BK154.out 1
                 have hfz25_2 := blk_frozen BK154.out 2
                 have hfz25_3 := blk_frozen BK154.out 3
                 go_wp2_with (first | ((with_reducible refine gate_builtin (b := .append) (xs := #[.tmp 65, .tmp 67]) rfl ?_); at_builtin; refine Kd.R_append k67 (w0 := w) w.heap.size rfl (.tmp 65) (.tmp 67) 64 67 (.agg #[(.int .i32 0), (.int .i64 0), (.int .i64 0), (.bool false)]) 32 rfl Try.underlying64 info67 rfl (by decide) (by omega) u3 x3_1 (⟨x8_4, x4_1, x155002_5, true⟩ : S67) [.int .i32 x8_4, .int .i64 x4_1, .int .i64 x155002_5, .bool true] (fun k_ => k_ ≠ gb154) (fun _ => False) rfl (by first | (go_simp; done) | (go_simp; rfl)) ?aP (fun _ hk => hk.elim) ?aF ?aO ?aB ?aS ?aL ?_; (case aP => exact k67_mkM _ _ _ (⟨x8_4, x4_1, x155002_5, true⟩ : S67)); (case aB => exact (by repeat (first | (with_reducible first | exact HB.out | apply below_alloc | apply pw_below_drewN | apply below_drew1 | refine below_set ?_ GE154.out) | exact HB.out))); (case aF => exact (fun k_ hk => Kd.freshB (g := gb154) (o := .cells #[.int .i32 x8_4, .int .i64 x4_1, .int .i64 x155002_5, .bool true] 67 (0, 0)) (by (with_reducible repeat (first | refine blk_drewN ?_ _ | refine blk_drew ?_ | refine blk_alloc ?_ _)); refine blk_put (cs := #[.int .i32 65533, .int .i64 x4_1, .int .i64 x155002_5, .bool true]) ?_ 0 _ rfl; (with_reducible repeat (first | refine blk_drewN ?_ _ | refine blk_drew ?_ | refine blk_alloc ?_ _)); exact BK154.out) k_ hk)); (case aO => exact (by (with_reducible repeat (first | apply Kd.R_alloc | apply Kd.R_drewN | apply Kd.R_drew)); exact Kd.R_mono (Kd.R_far (p := ⟨gb154, 0, none⟩) (Kd.R_mono HO_3.out (fun k_ hk => (⟨hk, hk⟩ : _ ∧ k_ ≠ gb154))) (fun _ hk => hk.2) (.int .i32 x8_4)) (fun _ hk => hk.1))); (case aS => exact (below_size (by repeat (first | (with_reducible first | exact HB.out | apply below_alloc | apply pw_below_drewN | apply below_drew1 | refine below_set ?_ GE154.out) | exact HB.out)))); (case aL => have := LMc24.out; omega); intro v158 w26 ho hb hg hat; rw [← Ny157.out] at ho; have n0_ := Aside0.mk (blk_grown (g := gb154) (o := .cells #[.int .i32 x8_4, .int .i64 x4_1, .int .i64 x155002_5, .bool true] 67 (0, 0)) (by (with_reducible repeat (first | refine blk_drewN ?_ _ | refine blk_drew ?_ | refine blk_alloc ?_ _)); refine blk_put (cs := #[.int .i32 65533, .int .i64 x4_1, .int .i64 x155002_5, .bool true]) ?_ 0 _ rfl; (with_reducible repeat (first | refine blk_drewN ?_ _ | refine blk_drew ?_ | refine blk_alloc ?_ _)); exact BK154.out) hg (Kd.R_away HO_3.out (fun _ hk => hk))); have n1_ := Aside0.mk (hb); have n2_ := Aside0.mk (ho); clear BK154; clear HB; clear HO_3; have BK154 := n0_; have HB := n1_; have HO159 := n2_; clear n0_ n1_ n2_; clear ho hb hg hat; have hcz27_0 : w26.cell? ⟨gb154, 0, none⟩ = some (.int .i32 x8_4) := (blk_cell BK154.out 0).trans rfl; have hcz27_1 : w26.cell? ⟨gb154, 1, none⟩ = some (.int .i64 x4_1) := (blk_cell BK154.out 1).trans rfl; have hcz27_2 : w26.cell? ⟨gb154, 2, none⟩ = some (.int .i64 x155002_5) := (blk_cell BK154.out 2).trans rfl; have hcz27_3 : w26.cell? ⟨gb154, 3, none⟩ = some (.bool true) := (blk_cell BK154.out 3).trans rfl; have hfz27_0 := blk_frozen BK154.out 0; have hfz27_1 := blk_frozen BK154.out 1; have hfz27_2 := blk_frozen BK154.out 2; have hfz27_3 := blk_frozen BK154.out 3))
                 go_roundg k4
                 case measure => have := HK1.out; have := HJ5.out; have := HJ15.out; have := HK4.out; omega
                 case rel => exact ⟨(y157), (wrap64 (x4_1 + x155002_5)), (by first | rfl | (simp; done) | (simp [*]; done) | (unfold bt; split <;> first | rfl | (exfalso; simp_all; done) | (exfalso; simp_all; omega))), H', ⟨by have := HK1.out; have := HJ5.out; have := HJ15.out; have := HK4.out; omega⟩, ⟨by (with_reducible repeat (first | apply Kd.R_alloc | apply Kd.R_drewN | apply Kd.R_drew)); exact Kd.R_mono HO159.out (fun _ hk => trivial)⟩, ⟨by repeat (first | (with_reducible first | exact HB.out | apply below_alloc | apply pw_below_drewN | apply below_drew1 | refine below_set ?_ GE154.out) | exact HB.out)⟩⟩
                ·rw [if_neg c24] at H
                 exact absurd H (by simp)
          ·rw [if_neg c15] at H
           exact absurd H (by simp)
         ·rw [if_neg c14] at H
          exact absurd H (by simp)
        ·replace c13 := Bool.eq_false_iff.mpr c13
         subst c13
         have H1 : (if x3_1.length < 4398046511104 then (sieveref01_Pieces.l0 kj5 l0 (x3_1 ++ [(⟨65533, x4_1, x155002_5, false⟩ : S67)]) (wrap64 (x4_1 + x155002_5))) else (none)) = some r := by rw [if_neg (show ¬ (false = true) by decide)] at H; exact H
         clear H
         have H := H1
         clear H1
         by_cases c28 : x3_1.length < 4398046511104
         ·rw [if_pos c28] at H
          have LMc28 := Aside0.mk c28
          clear c28
          obtain ⟨y160, hy160⟩ : ∃ y_ : List (S67), y_ = (x3_1 ++ [(⟨65533, x4_1, x155002_5, false⟩ : S67)]) := ⟨_, rfl⟩
          replace H : (sieveref01_Pieces.l0 kj5 l0 y160 (wrap64 (x4_1 + x155002_5))) = some r := by first | (rw [hy160]; with_reducible exact H) | (have H2_ := (Option.bind_some _ _).symm.trans H; rw [hy160]; with_reducible exact H2_) | (have H2_ := (Option.bind_some _ _).symm.trans H; with_reducible exact H2_) | with_reducible exact H | (rw [hy160]; exact H) | exact H
          have Ny160 := Aside0.mk hy160
          clear hy160
          have H' := Aside0.mk H
          clear H
          have hcz29_0 : wc.cell? ⟨gb154, 0, none⟩ = some (.int .i32 65533) := (blk_cell BK154.out 0).trans rfl
          have hcz29_1 : wc.cell? ⟨gb154, 1, none⟩ = some (.int .i64 x4_1) := (blk_cell BK154.out 1).trans rfl
          have hcz29_2 : wc.cell? ⟨gb154, 2, none⟩ = some (.int .i64 x155002_5) := (blk_cell BK154.out 2).trans rfl
          have hcz29_3 : wc.cell? ⟨gb154, 3, none⟩ = some (.bool false) := (blk_cell BK154.out 3).trans rfl
          have hfz29_0 := blk_frozen BK154.out 0
          have hfz29_1 := blk_frozen BK154.out 1
          have hfz29_2 := blk_frozen BK154.out 2
          have hfz29_3 := blk_frozen BK154.out 3
          go_wp2_with (first | ((with_reducible refine gate_builtin (b := .append) (xs := #[.tmp 65, .tmp 67]) rfl ?_); at_builtin; refine Kd.R_append k67 (w0 := w) w.heap.size rfl (.tmp 65) (.tmp 67) 64 67 (.agg #[(.int .i32 0), (.int .i64 0), (.int .i64 0), (.bool false)]) 32 rfl Try.underlying64 info67 rfl (by decide) (by omega) u3 x3_1 (⟨65533, x4_1, x155002_5, false⟩ : S67) [.int .i32 65533, .int .i64 x4_1, .int .i64 x155002_5, .bool false] (fun k_ => k_ ≠ gb154) (fun _ => False) rfl rfl ?aP (fun _ hk => hk.elim) ?aF ?aO ?aB ?aS ?aL ?_; (case aP => exact k67_mkM _ _ _ (⟨65533, x4_1, x155002_5, false⟩ : S67)); (case aB => exact (by repeat (first | (with_reducible first | exact HB.out | apply below_alloc | apply pw_below_drewN | apply below_drew1 | refine below_set ?_ GE154.out) | exact HB.out))); (case aF => exact (fun k_ hk => Kd.freshB (g := gb154) (o := .cells #[.int .i32 65533, .int .i64 x4_1, .int .i64 x155002_5, .bool false] 67 (0, 0)) (by (with_reducible repeat (first | refine blk_drewN ?_ _ | refine blk_drew ?_ | refine blk_alloc ?_ _)); exact BK154.out) k_ hk)); (case aO => exact (by (with_reducible repeat (first | apply Kd.R_alloc | apply Kd.R_drewN | apply Kd.R_drew)); exact HO_3.out)); (case aS => exact (below_size (by repeat (first | (with_reducible first | exact HB.out | apply below_alloc | apply pw_below_drewN | apply below_drew1 | refine below_set ?_ GE154.out) | exact HB.out)))); (case aL => have := LMc28.out; omega); intro v161 w30 ho hb hg hat; rw [← Ny160.out] at ho; have n0_ := Aside0.mk (blk_grown (g := gb154) (o := .cells #[.int .i32 65533, .int .i64 x4_1, .int .i64 x155002_5, .bool false] 67 (0, 0)) (by (with_reducible repeat (first | refine blk_drewN ?_ _ | refine blk_drew ?_ | refine blk_alloc ?_ _)); exact BK154.out) hg (Kd.R_away HO_3.out (fun _ hk => hk))); have n1_ := Aside0.mk (hb); have n2_ := Aside0.mk (ho); clear BK154; clear HB; clear HO_3; have BK154 := n0_; have HB := n1_; have HO162 := n2_; clear n0_ n1_ n2_; clear ho hb hg hat; have hcz31_0 : w30.cell? ⟨gb154, 0, none⟩ = some (.int .i32 65533) := (blk_cell BK154.out 0).trans rfl; have hcz31_1 : w30.cell? ⟨gb154, 1, none⟩ = some (.int .i64 x4_1) := (blk_cell BK154.out 1).trans rfl; have hcz31_2 : w30.cell? ⟨gb154, 2, none⟩ = some (.int .i64 x155002_5) := (blk_cell BK154.out 2).trans rfl; have hcz31_3 : w30.cell? ⟨gb154, 3, none⟩ = some (.bool false) := (blk_cell BK154.out 3).trans rfl; have hfz31_0 := blk_frozen BK154.out 0; have hfz31_1 := blk_frozen BK154.out 1; have hfz31_2 := blk_frozen BK154.out 2; have hfz31_3 := blk_frozen BK154.out 3))
          go_roundg kj5
          case measure => have := HK1.out; have := HJ5.out; omega
          case rel => exact ⟨(y160), (wrap64 (x4_1 + x155002_5)), (by first | rfl | (simp; done) | (simp [*]; done) | (unfold bt; split <;> first | rfl | (exfalso; simp_all; done) | (exfalso; simp_all; omega))), H', ⟨by have := HK1.out; have := HJ5.out; omega⟩, ⟨by (with_reducible repeat (first | apply Kd.R_alloc | apply Kd.R_drewN | apply Kd.R_drew)); exact Kd.R_mono HO162.out (fun _ hk => trivial)⟩, ⟨by repeat (first | (with_reducible first | exact HB.out | apply below_alloc | apply pw_below_drewN | apply below_drew1 | refine below_set ?_ GE154.out) | exact HB.out)⟩⟩
         ·rw [if_neg c28] at H
          exact absurd H (by simp)
     ·rw [if_neg c4] at H
      exact absurd H (by simp)
    ·rw [if_neg c3] at H
     exact absurd H (by simp)
   ·rw [if_neg c2] at H
    have c2b0 : decide (x4_1 < (l0.length : Int)) = false := decide_eq_false c2
    clear c2
    obtain rfl := Option.some.inj H
    go_wp2
    go_ret
    exact ⟨_, by first | rfl | (simp [errW_none, errW_some] <;> rfl) | (simp [*, errW_none, errW_some] <;> rfl), by (with_reducible repeat (first | apply Kd.R_alloc | apply Kd.R_drewN | apply Kd.R_drew)); exact HO_3.out, by repeat (first | (with_reducible first | exact HB.out | apply below_alloc | apply pw_below_drewN | apply below_drew1) | exact HB.out)⟩

/-! ### sieveref01_Runes: function 15 -/
def sieveref01_Runes.l0 : Nat → List Int → List (S67) → Int → Int → Option (List Int)
 | 0, _, _, _, _ => none
 | k + 1, x3, x7, x8, x9 => if x9 < x8 then (if 0 ≤ x9 then (if x9 < (x7.length : Int) then (if x3.length < 35184372088832 then (sieveref01_Runes.l0 k (x3 ++ [(rd_T67 x7 x9).f0]) x7 x8 (wrap64 (x9 + 1))) else (none)) else (none)) else (none)) else (some x3)
def sieveref01_Runes.f (k : Nat) (l0 : List Int) : Option (List Int) := (sieveref01_Pieces.f k l0).bind fun t163 => (sieveref01_Runes.l0 k ([] : List Int) t163 (t163.length : Int) 0)
theorem sieveref01_Runes.mono_l : ∀ k, (∀ y0 y1 y2 y3, LeO (sieveref01_Runes.l0 k y0 y1 y2 y3) (sieveref01_Runes.l0 (k + 1) y0 y1 y2 y3))
 | 0 => fun _ _ _ _ r h => by simp [sieveref01_Runes.l0] at h
 | k + 1 => by
  have ih0 := sieveref01_Runes.mono_l k
  ·intro y0 y1 y2 y3
   unfold sieveref01_Runes.l0
   repeat' first
   | (with_reducible exact ih0 _ _ _ _)
   | (with_reducible exact sieveref01_Pieces.mono _ _)
   | (with_reducible exact LeO.refl _)
   | (with_reducible exact LeO.none _)
   | (with_reducible refine LeO.ite ?_ ?_)
   | (with_reducible refine LeO.bind ?_ (fun _ => ?_))
   | exact ih0 _ _ _ _
   | exact sieveref01_Pieces.mono _ _
   | exact LeO.none _
   | refine LeO.ite ?_ ?_
   | refine LeO.bind ?_ (fun _ => ?_)
theorem sieveref01_Runes.mono : ∀ a0 k, LeO (sieveref01_Runes.f k a0) (sieveref01_Runes.f (k + 1) a0) := by
 intro a0 k
 have ih0 := sieveref01_Runes.mono_l k
 unfold sieveref01_Runes.f
 repeat' first
   | (with_reducible exact ih0 _ _ _ _)
   | (with_reducible exact sieveref01_Pieces.mono _ _)
   | (with_reducible exact LeO.refl _)
   | (with_reducible exact LeO.none _)
   | (with_reducible refine LeO.ite ?_ ?_)
   | (with_reducible refine LeO.bind ?_ (fun _ => ?_))
   | exact ih0 _ _ _ _
   | exact sieveref01_Pieces.mono _ _
   | exact LeO.none _
   | refine LeO.ite ?_ ?_
   | refine LeO.bind ?_ (fun _ => ?_)
set_option maxHeartbeats 8000000 in
set_option maxRecDepth 100000 in
theorem sieveref01_Runes.calls (k : Nat) (A0 : Option Addr) (c0 : Nat) (l0 : List Int) (r : List Int) (w : World) (hr0 : Kd.C (Kd.int .u8) w A0 l0.length l0) (hc0 : l0.length ≤ c0) (h : sieveref01_Runes.f k l0 = some r) :
  Calls Try.prog 15 #[.slice A0 l0.length c0] w fun e w' => ∃ v0_ : Value, e = .returned (v0_) ∧ Kd.R (Kd.int .i32) 21 w' w.heap.size (fun _ => True) v0_ r ∧ Below w.heap.size w w' := by
 have hu67 := Try.underlying67
 have HR0 := Aside0.mk hr0
 have HC0 := Aside0.mk hc0
 clear hr0 hc0
 have HB := Aside0.mk (Below.refl w.heap.size w)
 have H : ((sieveref01_Pieces.f k l0).bind fun t163 => (sieveref01_Runes.l0 k ([] : List Int) t163 (t163.length : Int) 0)) = some r := h
 clear h
 replace H := Option.bind_eq_some_iff.mp H
 obtain ⟨t163, A20, H⟩ := H
 replace H : (sieveref01_Runes.l0 k ([] : List Int) t163 (t163.length : Int) 0) = some r := H
 have A2 := Aside0.mk A20
 clear A20
 have H' := Aside0.mk H
 clear H
 go_enter Try.func15, Try.ntmps15
 go_wp2_with (first | ((with_reducible refine gate_callee (f := 31) rfl ?_); refine goesL_ (some 7) rfl rfl Try.func31 (by kernel_rfl) rfl #[.slice A0 l0.length c0] rfl (by (try simp only [List.map_toArray, List.map_cons, List.map_nil]); first | done | rfl | (simp only [List.length_drop, List.length_take]; rfl) | (simp [*] <;> rfl)) ?_; (with_reducible refine (sieveref01_Pieces.calls k _ _ l0 t163 _ ?side1 ?side2 A2.out).mono ?_); (case side1 => repeat (first | exact HR0.out | (with_reducible refine Kd.C_alloc ?_ _) | (with_reducible refine Kd.C_drewN ?_ _) | (with_reducible refine Kd.C_drew ?_))); (case side2 => exact HC0.out); rintro e w3 ⟨v164, rfl, ho0, hb⟩; refine ⟨_, rfl, ?_⟩; have n0_ := Aside0.mk (Kd.R_lower ho0 (below_size (by repeat (first | (with_reducible first | exact HB.out | apply below_alloc | apply pw_below_drewN | apply below_drew1) | exact HB.out)))); have n1_ := Aside0.mk (below_step (by repeat (first | (with_reducible first | exact HB.out | apply below_alloc | apply pw_below_drewN | apply below_drew1) | exact HB.out)) hb); clear HB; have HO165 := n0_; have HB := n1_; clear n0_ n1_; (try clear hb); (try clear hb2); (try clear hk); (try clear hi); (try clear ho0); obtain ⟨Ao4, co4, eo4⟩ := Kd.R_slice HO165.out; subst eo4))
 go_loopg [3, 9] k (fun kq v3 v9 w' => ∃ (x3_1 : List Int) (x9_1 : Int), v9 = .int .i64 x9_1 ∧ Aside0 (sieveref01_Runes.l0 kq x3_1 t163 (t163.length : Int) x9_1 = some r) ∧ Aside0 (kq ≤ k) ∧ Aside0 (Kd.R (Kd.int .i32) 21 w' w.heap.size (fun _ => True) v3 x3_1) ∧ Aside0 (Kd.R k67 67 w' w.heap.size (fun _ => True) (.slice Ao4 t163.length co4) t163) ∧ Aside0 (Below w.heap.size w w'))
 case atStart => exact ⟨(([] : List Int)), (0), (by first | rfl | (simp; done) | (simp [*]; done) | (unfold bt; split <;> first | rfl | (exfalso; simp_all; done) | (exfalso; simp_all; omega))), H', ⟨Nat.le_refl _⟩, ⟨by first | exact Kd.R_nil _ _ _ _ _ | exact Kd.N_nil _ _ _ _ _ | exact Kd.V_nil _ _ _ _ _ | exact Kd.Q_nil _ _ _ _ _ | exact Kd.S_nil _ _ _ _ _⟩, ⟨by (with_reducible repeat (first | apply Kd.R_alloc | apply Kd.R_drewN | apply Kd.R_drew)); exact HO165.out⟩, ⟨by repeat (first | (with_reducible first | exact HB.out | apply below_alloc | apply pw_below_drewN | apply below_drew1) | exact HB.out)⟩⟩
 case round =>
  clear H'
  try clear c1
  try clear p2
  try clear c3
  obtain ⟨x3_1, x9_1, rfl, HA, HK1, HO_3, HO_7, HB⟩ := hrel
  cases gk with
  | zero => exact absurd HA.out (by simp [sieveref01_Runes.l0])
  | succ k1 =>
   have H := HA.out
   clear HA
   simp only [sieveref01_Runes.l0] at H
   by_cases c5 : x9_1 < (t163.length : Int)
   ·rw [if_pos c5] at H
    have c5b0 : decide (x9_1 < (t163.length : Int)) = true := decide_eq_true c5
    clear c5
    by_cases c6 : 0 ≤ x9_1
    ·rw [if_pos c6] at H
     have c6b0 : decide (0 ≤ x9_1) = true := decide_eq_true c6
     clear c6
     by_cases c7 : x9_1 < (t163.length : Int)
     ·rw [if_pos c7] at H
      have c7b0 : decide (x9_1 < (t163.length : Int)) = true := decide_eq_true c7
      clear c7
      by_cases c8 : x3_1.length < 35184372088832
      ·rw [if_pos c8] at H
       have LMc8 := Aside0.mk c8
       clear c8
       obtain ⟨y168, hy168⟩ : ∃ y_ : List Int, y_ = (x3_1 ++ [(rd_T67 t163 x9_1).f0]) := ⟨_, rfl⟩
       replace H : (sieveref01_Runes.l0 k1 y168 t163 (t163.length : Int) (wrap64 (x9_1 + 1))) = some r := by first | (rw [hy168]; with_reducible exact H) | (have H2_ := (Option.bind_some _ _).symm.trans H; rw [hy168]; with_reducible exact H2_) | (have H2_ := (Option.bind_some _ _).symm.trans H; with_reducible exact H2_) | with_reducible exact H | (rw [hy168]; exact H) | exact H
       have Ny168 := Aside0.mk hy168
       clear hy168
       have H' := Aside0.mk H
       clear H
       have p166 : 0 ≤ (x9_1 : Int) := of_decide_eq_true (by first | (with_reducible assumption) | assumption)
       have q166 : x9_1 < (t163.length : Int) := of_decide_eq_true (by first | (with_reducible assumption) | assumption)
       obtain ⟨ad166, e166, hx166_0, hx166_1, hx166_2, hx166_3⟩ := at_T67 (Kd.R_reads' HO_7.out).2.2 x9_1 p166 q166
       cases e166
       replace p166 := eq_true p166
       replace q166 := eq_true q166
       go_wp2_with (first | ((with_reducible refine gate_dst (N := 5) rfl ?_); refine box_event ?hg (N := 5) ?hd (cs := #[.int .i32 0, .int .i64 0, .int .i64 0, .bool false]) (t := 67) ?hr ?_; (case hd => rfl); (case hg => rfl); (case hr => first | (go_simp; done) | (go_simp; rfl)); intro gb167 hg w9 hbox hb; have n0_ := Aside0.mk (Kd.R_below (by (with_reducible repeat (first | apply Kd.R_alloc | apply Kd.R_drewN | apply Kd.R_drew)); exact HO_3.out) hb); have n1_ := Aside0.mk (Kd.R_below (Kd.R_elderB (by (with_reducible repeat (first | apply Kd.R_alloc | apply Kd.R_drewN | apply Kd.R_drew)); exact HO_7.out) gb167 (Nat.le_of_eq hg.symm)) hb); have n2_ := Aside0.mk (below_step (by repeat (first | (with_reducible first | exact HB.out | apply below_alloc | apply pw_below_drewN | apply below_drew1) | exact HB.out)) hb); have n3_ := Aside0.mk (hbox); have n4_ := Aside0.mk ((by rw [hg]; exact (below_size (by repeat (first | (with_reducible first | exact HB.out | apply below_alloc | apply pw_below_drewN | apply below_drew1) | exact HB.out))) : w.heap.size ≤ gb167)); have n5_ := Aside0.mk ((by rw [hg]; exact (below_size (by repeat (first | (with_reducible first | exact HB.out | apply below_alloc | apply pw_below_drewN | apply below_drew1) | exact HB.out))) : w.heap.size ≤ gb167)); clear HO_3; clear HO_7; clear HB; have HO_3 := n0_; have HO_7 := n1_; have HB := n2_; have BK167 := n3_; have GW167 := n4_; have GE167 := n5_; clear n0_ n1_ n2_ n3_ n4_ n5_; clear hb hbox hg; have hcz10_0 : w9.cell? ⟨gb167, 0, none⟩ = some (.int .i32 0) := (blk_cell BK167.out 0).trans rfl; have hcz10_1 : w9.cell? ⟨gb167, 1, none⟩ = some (.int .i64 0) := (blk_cell BK167.out 1).trans rfl; have hcz10_2 : w9.cell? ⟨gb167, 2, none⟩ = some (.int .i64 0) := (blk_cell BK167.out 2).trans rfl; have hcz10_3 : w9.cell? ⟨gb167, 3, none⟩ = some (.bool false) := (blk_cell BK167.out 3).trans rfl; have hfz10_0 := blk_frozen BK167.out 0; have hfz10_1 := blk_frozen BK167.out 1; have hfz10_2 := blk_frozen BK167.out 2; have hfz10_3 := blk_frozen BK167.out 3) | ((with_reducible refine gate_builtin (b := .append) (xs := #[.tmp 13, .tmp 16]) rfl ?_); at_builtin; refine Kd.R_append (Kd.int .i32) (w0 := w) w.heap.size rfl (.tmp 13) (.tmp 16) 29 21 (.int .i32 0) 4 rfl Try.underlying29 info21 rfl (by decide) (by omega) u3 x3_1 ((rd_T67 t163 x9_1).f0) [.int .i32 ((rd_T67 t163 x9_1).f0)] (fun _ => True) (fun _ => False) rfl (by first | (go_simp; done) | (go_simp; rfl)) ?aP (fun _ hk => hk.elim) ?aF ?aO ?aB ?aS ?aL ?_; (case aP => exact rfl); (case aB => exact (by repeat (first | (with_reducible first | exact HB.out | apply below_alloc | apply pw_below_drewN | apply below_drew1 | refine below_set ?_ GE167.out) | exact HB.out))); (case aF => exact (fun _ _ => trivial)); (case aO => exact (by (with_reducible repeat (first | apply Kd.R_alloc | apply Kd.R_drewN | apply Kd.R_drew)); exact Kd.R_mono (Kd.R_far (p := ⟨gb167, 3, none⟩) (Kd.R_far (p := ⟨gb167, 2, none⟩) (Kd.R_far (p := ⟨gb167, 1, none⟩) (Kd.R_far (p := ⟨gb167, 0, none⟩) (Kd.R_types HO_3.out BK167.out (by decide)) (fun _ hk => hk.2) (.int .i32 ((rd_T67 t163 x9_1).f0))) (fun _ hk => hk.2) (.int .i64 ((rd_T67 t163 x9_1).f1))) (fun _ hk => hk.2) (.int .i64 ((rd_T67 t163 x9_1).f2))) (fun _ hk => hk.2) (.bool ((rd_T67 t163 x9_1).f3))) (fun _ hk => trivial))); (case aS => exact (below_size (by repeat (first | (with_reducible first | exact HB.out | apply below_alloc | apply pw_below_drewN | apply below_drew1 | refine below_set ?_ GE167.out) | exact HB.out)))); (case aL => have := LMc8.out; omega); intro v169 w11 ho hb hg hat; rw [← Ny168.out] at ho; have n0_ := Aside0.mk (Kd.R_over' (by (with_reducible repeat (first | apply Kd.R_alloc | apply Kd.R_drewN | apply Kd.R_drew)); exact (Kd.R_mono (Kd.R_far (p := ⟨gb167, 3, none⟩) (Kd.R_far (p := ⟨gb167, 2, none⟩) (Kd.R_far (p := ⟨gb167, 1, none⟩) (Kd.R_far (p := ⟨gb167, 0, none⟩) (Kd.R_mono HO_7.out (fun k_ hk => (⟨hk, hk.2⟩ : _ ∧ k_ ≠ gb167))) (fun _ hk => hk.2) (.int .i32 ((rd_T67 t163 x9_1).f0))) (fun _ hk => hk.2) (.int .i64 ((rd_T67 t163 x9_1).f1))) (fun _ hk => hk.2) (.int .i64 ((rd_T67 t163 x9_1).f2))) (fun _ hk => hk.2) (.bool ((rd_T67 t163 x9_1).f3))) (fun _ h_ => h_.1))) (Kd.R_typed (by (with_reducible repeat (first | apply Kd.R_alloc | apply Kd.R_drewN | apply Kd.R_drew)); exact (Kd.R_mono (Kd.R_far (p := ⟨gb167, 3, none⟩) (Kd.R_far (p := ⟨gb167, 2, none⟩) (Kd.R_far (p := ⟨gb167, 1, none⟩) (Kd.R_far (p := ⟨gb167, 0, none⟩) (Kd.R_types HO_3.out BK167.out (by decide)) (fun _ hk => hk.2) (.int .i32 ((rd_T67 t163 x9_1).f0))) (fun _ hk => hk.2) (.int .i64 ((rd_T67 t163 x9_1).f1))) (fun _ hk => hk.2) (.int .i64 ((rd_T67 t163 x9_1).f2))) (fun _ hk => hk.2) (.bool ((rd_T67 t163 x9_1).f3))) (fun _ h_ => h_.1)))) (by decide) hg); have n1_ := Aside0.mk (blk_grown (g := gb167) (o := .cells #[.int .i32 ((rd_T67 t163 x9_1).f0), .int .i64 ((rd_T67 t163 x9_1).f1), .int .i64 ((rd_T67 t163 x9_1).f2), .bool ((rd_T67 t163 x9_1).f3)] 67 (0, 0)) (by (with_reducible repeat (first | refine blk_drewN ?_ _ | refine blk_drew ?_ | refine blk_alloc ?_ _)); refine blk_put (cs := #[.int .i32 ((rd_T67 t163 x9_1).f0), .int .i64 ((rd_T67 t163 x9_1).f1), .int .i64 ((rd_T67 t163 x9_1).f2), .bool false]) ?_ 3 _ rfl; (with_reducible repeat (first | refine blk_drewN ?_ _ | refine blk_drew ?_ | refine blk_alloc ?_ _)); refine blk_put (cs := #[.int .i32 ((rd_T67 t163 x9_1).f0), .int .i64 ((rd_T67 t163 x9_1).f1), .int .i64 0, .bool false]) ?_ 2 _ rfl; (with_reducible repeat (first | refine blk_drewN ?_ _ | refine blk_drew ?_ | refine blk_alloc ?_ _)); refine blk_put (cs := #[.int .i32 ((rd_T67 t163 x9_1).f0), .int .i64 0, .int .i64 0, .bool false]) ?_ 1 _ rfl; (with_reducible repeat (first | refine blk_drewN ?_ _ | refine blk_drew ?_ | refine blk_alloc ?_ _)); refine blk_put (cs := #[.int .i32 0, .int .i64 0, .int .i64 0, .bool false]) ?_ 0 _ rfl; (with_reducible repeat (first | refine blk_drewN ?_ _ | refine blk_drew ?_ | refine blk_alloc ?_ _)); exact BK167.out) hg (Kd.R_ne HO_3.out BK167.out (by decide))); have n2_ := Aside0.mk (hb); have n3_ := Aside0.mk (ho); clear HO_7; clear BK167; clear HB; clear HO_3; have HO_7 := n0_; have BK167 := n1_; have HB := n2_; have HO170 := n3_; clear n0_ n1_ n2_ n3_; clear ho hb hg hat))
       go_roundg k1
       case measure => have := HK1.out; omega
       case rel => exact ⟨(y168), (wrap64 (x9_1 + 1)), (by first | rfl | (simp; done) | (simp [*]; done) | (unfold bt; split <;> first | rfl | (exfalso; simp_all; done) | (exfalso; simp_all; omega))), H', ⟨by have := HK1.out; omega⟩, ⟨by (with_reducible repeat (first | apply Kd.R_alloc | apply Kd.R_drewN | apply Kd.R_drew)); exact HO170.out⟩, ⟨by (with_reducible repeat (first | apply Kd.R_alloc | apply Kd.R_drewN | apply Kd.R_drew)); exact Kd.R_mono HO_7.out (fun _ hk => trivial)⟩, ⟨by repeat (first | (with_reducible first | exact HB.out | apply below_alloc | apply pw_below_drewN | apply below_drew1 | refine below_set ?_ GE167.out) | exact HB.out)⟩⟩
      ·rw [if_neg c8] at H
       exact absurd H (by simp)
     ·rw [if_neg c7] at H
      exact absurd H (by simp)
    ·rw [if_neg c6] at H
     exact absurd H (by simp)
   ·rw [if_neg c5] at H
    have c5b0 : decide (x9_1 < (t163.length : Int)) = false := decide_eq_false c5
    clear c5
    obtain rfl := Option.some.inj H
    go_wp2
    go_ret
    exact ⟨_, by first | rfl | (simp [errW_none, errW_some] <;> rfl) | (simp [*, errW_none, errW_some] <;> rfl), by (with_reducible repeat (first | apply Kd.R_alloc | apply Kd.R_drewN | apply Kd.R_drew)); exact HO_3.out, by repeat (first | (with_reducible first | exact HB.out | apply below_alloc | apply pw_below_drewN | apply below_drew1) | exact HB.out)⟩

/-! ### sieveref01_Char: function 58 -/
def sieveref01_Char.f (a0 : Int) : Option (Bool) := if a0 ≥ 0 then (if a0 ≤ 1114111 then (if a0 < 55296 then (some true) else (some (decide (a0 > 57343)))) else (some false)) else (some false)
set_option maxHeartbeats 8000000 in
set_option maxRecDepth 100000 in
theorem sieveref01_Char.calls (a0 : Int) (r : Bool) (w : World) (h : sieveref01_Char.f a0 = some r) :
  Calls Try.prog 58 #[.int .i32 a0] w fun e w' => e = .returned (.bool r) ∧ Drawn0 w w' := by
 have H : (if a0 ≥ 0 then (if a0 ≤ 1114111 then (if a0 < 55296 then (some true) else (some (decide (a0 > 57343)))) else (some false)) else (some false)) = some r := h
 clear h
 by_cases c2 : a0 ≥ 0
 ·rw [if_pos c2] at H
  have c2b0 : decide (0 ≤ a0) = true := decide_eq_true c2
  clear c2
  by_cases c3 : a0 ≤ 1114111
  ·rw [if_pos c3] at H
   have c3b0 : decide (a0 ≤ 1114111) = true := decide_eq_true c3
   clear c3
   by_cases c4 : a0 < 55296
   ·rw [if_pos c4] at H
    have c4b0 : decide (a0 < 55296) = true := decide_eq_true c4
    clear c4
    obtain rfl := Option.some.inj H
    go_enter Try.func58, Try.ntmps58
    go_wp2
    go_ret
    exact ⟨by first | rfl | (simp; done) | (simp [*]; done), by repeat (first | exact Drawn0.refl _ | apply Drawn0.step)⟩
   ·rw [if_neg c4] at H
    have c4b0 : decide (a0 < 55296) = false := decide_eq_false c4
    clear c4
    obtain rfl := Option.some.inj H
    go_enter Try.func58, Try.ntmps58
    go_wp2
    go_ret
    exact ⟨by first | rfl | (simp; done) | (simp [*]; done), by repeat (first | exact Drawn0.refl _ | apply Drawn0.step)⟩
  ·rw [if_neg c3] at H
   have c3b0 : decide (a0 ≤ 1114111) = false := decide_eq_false c3
   clear c3
   obtain rfl := Option.some.inj H
   go_enter Try.func58, Try.ntmps58
   go_wp2
   go_ret
   exact ⟨by first | rfl | (simp; done) | (simp [*]; done), by repeat (first | exact Drawn0.refl _ | apply Drawn0.step)⟩
 ·rw [if_neg c2] at H
  have c2b0 : decide (0 ≤ a0) = false := decide_eq_false c2
  clear c2
  obtain rfl := Option.some.inj H
  go_enter Try.func58, Try.ntmps58
  go_wp2
  go_ret
  exact ⟨by first | rfl | (simp; done) | (simp [*]; done), by repeat (first | exact Drawn0.refl _ | apply Drawn0.step)⟩

/-! ### sieveref01_Width: function 82 -/
def sieveref01_Width.f (a0 : Int) : Option (Int) := (sieveref01_Char.f a0).bind fun t171 => (if t171 = true then (if a0 < 128 then (some 1) else (if a0 < 2048 then (some 2) else (if a0 < 65536 then (some 3) else (some 4)))) else (some 3))
set_option maxHeartbeats 8000000 in
set_option maxRecDepth 100000 in
theorem sieveref01_Width.calls (a0 : Int) (r : Int) (w : World) (h : sieveref01_Width.f a0 = some r) :
  Calls Try.prog 82 #[.int .i32 a0] w fun e w' => e = .returned (.int .i64 r) ∧ Drawn0 w w' := by
 have H : ((sieveref01_Char.f a0).bind fun t171 => (if t171 = true then (if a0 < 128 then (some 1) else (if a0 < 2048 then (some 2) else (if a0 < 65536 then (some 3) else (some 4)))) else (some 3))) = some r := h
 clear h
 replace H := Option.bind_eq_some_iff.mp H
 obtain ⟨t171, A20, H⟩ := H
 replace H : (if t171 = true then (if a0 < 128 then (some 1) else (if a0 < 2048 then (some 2) else (if a0 < 65536 then (some 3) else (some 4)))) else (some 3)) = some r := H
 have A2 := Aside0.mk A20
 clear A20
 by_cases c3 : t171 = true
 ·subst c3
  have H1 : (if a0 < 128 then (some 1) else (if a0 < 2048 then (some 2) else (if a0 < 65536 then (some 3) else (some 4)))) = some r := by rw [if_pos rfl] at H; exact H
  clear H
  have H := H1
  clear H1
  by_cases c4 : a0 < 128
  ·rw [if_pos c4] at H
   have c4b0 : decide (a0 < 128) = true := decide_eq_true c4
   clear c4
   obtain rfl := Option.some.inj H
   go_enter Try.func82, Try.ntmps82
   go_wp2_with (first | ((with_reducible refine gate_callee (f := 58) rfl ?_); refine goesL_ (some 5) rfl rfl Try.func58 (by kernel_rfl) rfl #[.int .i32 a0] rfl (by (try simp only [List.map_toArray, List.map_cons, List.map_nil]); first | done | rfl | (simp only [List.length_drop, List.length_take]; rfl) | (simp [*] <;> rfl)) ?_; (with_reducible refine (sieveref01_Char.calls a0 true _ A2.out).mono ?_); rintro e w' ⟨rfl, ⟨nd, rfl⟩⟩; refine ⟨_, rfl, ?_⟩))
   go_ret
   exact ⟨by first | rfl | (simp; done) | (simp [*]; done), by repeat (first | exact Drawn0.refl _ | apply Drawn0.step)⟩
  ·rw [if_neg c4] at H
   have c4b0 : decide (a0 < 128) = false := decide_eq_false c4
   clear c4
   by_cases c5 : a0 < 2048
   ·rw [if_pos c5] at H
    have c5b0 : decide (a0 < 2048) = true := decide_eq_true c5
    clear c5
    obtain rfl := Option.some.inj H
    go_enter Try.func82, Try.ntmps82
    go_wp2_with (first | ((with_reducible refine gate_callee (f := 58) rfl ?_); refine goesL_ (some 5) rfl rfl Try.func58 (by kernel_rfl) rfl #[.int .i32 a0] rfl (by (try simp only [List.map_toArray, List.map_cons, List.map_nil]); first | done | rfl | (simp only [List.length_drop, List.length_take]; rfl) | (simp [*] <;> rfl)) ?_; (with_reducible refine (sieveref01_Char.calls a0 true _ A2.out).mono ?_); rintro e w' ⟨rfl, ⟨nd, rfl⟩⟩; refine ⟨_, rfl, ?_⟩))
    go_ret
    exact ⟨by first | rfl | (simp; done) | (simp [*]; done), by repeat (first | exact Drawn0.refl _ | apply Drawn0.step)⟩
   ·rw [if_neg c5] at H
    have c5b0 : decide (a0 < 2048) = false := decide_eq_false c5
    clear c5
    by_cases c6 : a0 < 65536
    ·rw [if_pos c6] at H
     have c6b0 : decide (a0 < 65536) = true := decide_eq_true c6
     clear c6
     obtain rfl := Option.some.inj H
     go_enter Try.func82, Try.ntmps82
     go_wp2_with (first | ((with_reducible refine gate_callee (f := 58) rfl ?_); refine goesL_ (some 5) rfl rfl Try.func58 (by kernel_rfl) rfl #[.int .i32 a0] rfl (by (try simp only [List.map_toArray, List.map_cons, List.map_nil]); first | done | rfl | (simp only [List.length_drop, List.length_take]; rfl) | (simp [*] <;> rfl)) ?_; (with_reducible refine (sieveref01_Char.calls a0 true _ A2.out).mono ?_); rintro e w' ⟨rfl, ⟨nd, rfl⟩⟩; refine ⟨_, rfl, ?_⟩))
     go_ret
     exact ⟨by first | rfl | (simp; done) | (simp [*]; done), by repeat (first | exact Drawn0.refl _ | apply Drawn0.step)⟩
    ·rw [if_neg c6] at H
     have c6b0 : decide (a0 < 65536) = false := decide_eq_false c6
     clear c6
     obtain rfl := Option.some.inj H
     go_enter Try.func82, Try.ntmps82
     go_wp2_with (first | ((with_reducible refine gate_callee (f := 58) rfl ?_); refine goesL_ (some 5) rfl rfl Try.func58 (by kernel_rfl) rfl #[.int .i32 a0] rfl (by (try simp only [List.map_toArray, List.map_cons, List.map_nil]); first | done | rfl | (simp only [List.length_drop, List.length_take]; rfl) | (simp [*] <;> rfl)) ?_; (with_reducible refine (sieveref01_Char.calls a0 true _ A2.out).mono ?_); rintro e w' ⟨rfl, ⟨nd, rfl⟩⟩; refine ⟨_, rfl, ?_⟩))
     go_ret
     exact ⟨by first | rfl | (simp; done) | (simp [*]; done), by repeat (first | exact Drawn0.refl _ | apply Drawn0.step)⟩
 ·replace c3 := Bool.eq_false_iff.mpr c3
  subst c3
  have H1 : (some 3) = some r := by rw [if_neg (show ¬ (false = true) by decide)] at H; exact H
  clear H
  have H := H1
  clear H1
  obtain rfl := Option.some.inj H
  go_enter Try.func82, Try.ntmps82
  go_wp2_with (first | ((with_reducible refine gate_callee (f := 58) rfl ?_); refine goesL_ (some 5) rfl rfl Try.func58 (by kernel_rfl) rfl #[.int .i32 a0] rfl (by (try simp only [List.map_toArray, List.map_cons, List.map_nil]); first | done | rfl | (simp only [List.length_drop, List.length_take]; rfl) | (simp [*] <;> rfl)) ?_; (with_reducible refine (sieveref01_Char.calls a0 false _ A2.out).mono ?_); rintro e w' ⟨rfl, ⟨nd, rfl⟩⟩; refine ⟨_, rfl, ?_⟩))
  go_ret
  exact ⟨by first | rfl | (simp; done) | (simp [*]; done), by repeat (first | exact Drawn0.refl _ | apply Drawn0.step)⟩

/-! ### sieveref01_bytesOf: function 72 -/
def sieveref01_bytesOf.j0 : Nat → Int → Option (List Int)
 | 0, _ => none
 | k + 1, x0 => (sieveref01_Width.f x0).bind fun t173 => (if t173 = 1 then (some (([(x0) % 256] : List Int))) else (if t173 = 2 then (some (([(wrap32 (192 + (wrap32 (Int.tdiv x0 64)))) % 256, (wrap32 (128 + (Int.tmod x0 64))) % 256] : List Int))) else (if t173 = 3 then (some (([(wrap32 (224 + (wrap32 (Int.tdiv x0 4096)))) % 256, (wrap32 (128 + (Int.tmod (wrap32 (Int.tdiv x0 64)) 64))) % 256, (wrap32 (128 + (Int.tmod x0 64))) % 256] : List Int))) else (some (([(wrap32 (240 + (wrap32 (Int.tdiv x0 262144)))) % 256, (wrap32 (128 + (Int.tmod (wrap32 (Int.tdiv x0 4096)) 64))) % 256, (wrap32 (128 + (Int.tmod (wrap32 (Int.tdiv x0 64)) 64))) % 256, (wrap32 (128 + (Int.tmod x0 64))) % 256] : List Int))))))
def sieveref01_bytesOf.f (k : Nat) (a0 : Int) : Option (List Int) := (sieveref01_Char.f a0).bind fun t172 => (if t172 = true then (sieveref01_bytesOf.j0 k a0) else (sieveref01_bytesOf.j0 k 65533))
theorem sieveref01_bytesOf.mono_l : ∀ k, (∀ y0, LeO (sieveref01_bytesOf.j0 k y0) (sieveref01_bytesOf.j0 (k + 1) y0))
 | 0 => fun _ r h => by simp [sieveref01_bytesOf.j0] at h
 | k + 1 => by
  have ih0 := sieveref01_bytesOf.mono_l k
  ·intro y0
   unfold sieveref01_bytesOf.j0
   repeat' first
   | (with_reducible exact ih0 _)
   | (with_reducible exact LeO.refl _)
   | (with_reducible exact LeO.none _)
   | (with_reducible refine LeO.ite ?_ ?_)
   | (with_reducible refine LeO.bind ?_ (fun _ => ?_))
   | exact ih0 _
   | exact LeO.none _
   | refine LeO.ite ?_ ?_
   | refine LeO.bind ?_ (fun _ => ?_)
theorem sieveref01_bytesOf.mono : ∀ a0 k, LeO (sieveref01_bytesOf.f k a0) (sieveref01_bytesOf.f (k + 1) a0) := by
 intro a0 k
 have ih0 := sieveref01_bytesOf.mono_l k
 unfold sieveref01_bytesOf.f
 repeat' first
   | (with_reducible exact ih0 _)
   | (with_reducible exact LeO.refl _)
   | (with_reducible exact LeO.none _)
   | (with_reducible refine LeO.ite ?_ ?_)
   | (with_reducible refine LeO.bind ?_ (fun _ => ?_))
   | exact ih0 _
   | exact LeO.none _
   | refine LeO.ite ?_ ?_
   | refine LeO.bind ?_ (fun _ => ?_)
set_option maxHeartbeats 8000000 in
set_option maxRecDepth 100000 in
theorem sieveref01_bytesOf.calls (k : Nat) (a0 : Int) (r : List Int) (w : World) (h : sieveref01_bytesOf.f k a0 = some r) :
  Calls Try.prog 72 #[.int .i32 a0] w fun e w' => ∃ v0_ : Value, e = .returned (v0_) ∧ Kd.R (Kd.int .u8) 5 w' w.heap.size (fun _ => True) v0_ r ∧ Below w.heap.size w w' := by
 have HB := Aside0.mk (Below.refl w.heap.size w)
 have H : ((sieveref01_Char.f a0).bind fun t172 => (if t172 = true then (sieveref01_bytesOf.j0 k a0) else (sieveref01_bytesOf.j0 k 65533))) = some r := h
 clear h
 replace H := Option.bind_eq_some_iff.mp H
 obtain ⟨t172, A20, H⟩ := H
 replace H : (if t172 = true then (sieveref01_bytesOf.j0 k a0) else (sieveref01_bytesOf.j0 k 65533)) = some r := H
 have A2 := Aside0.mk A20
 clear A20
 have HC3 := Aside0.mk H
 clear H
 go_enter Try.func72, Try.ntmps72
 go_upto_if 5 with (first | ((with_reducible refine gate_callee (f := 58) rfl ?_); refine goesL_ (some 4) rfl rfl Try.func58 (by kernel_rfl) rfl #[.int .i32 a0] rfl (by (try simp only [List.map_toArray, List.map_cons, List.map_nil]); first | done | rfl | (simp only [List.length_drop, List.length_take]; rfl) | (simp [*] <;> rfl)) ?_; (with_reducible refine (sieveref01_Char.calls a0 t172 _ A2.out).mono ?_); rintro e w' ⟨rfl, ⟨nd, rfl⟩⟩; refine ⟨_, rfl, ?_⟩))
 (try simp only [Act.put, List.setIfInBounds_toArray, List.set_cons_zero, List.set_cons_succ])
 go_cut [0] (fun v0 wc => ∃ (kq : Nat) (x0_2 : Int), v0 = .int .i32 x0_2 ∧ Aside0 (sieveref01_bytesOf.j0 kq x0_2 = some r) ∧ Aside0 (kq ≤ k) ∧ Aside0 (Below w.heap.size w wc))
 case first =>
  have H := HC3.out
  clear HC3
  by_cases c4 : t172 = true
  ·subst c4
   have H1 : (sieveref01_bytesOf.j0 k a0) = some r := by rw [if_pos rfl] at H; exact H
   clear H
   have H := H1
   clear H1
   have H' := Aside0.mk H
   clear H
   go_wp2
   go_meet
   case rel => exact ⟨_, (a0), (by first | rfl | (simp; done) | (simp [*]; done) | (unfold bt; split <;> first | rfl | (exfalso; simp_all; done) | (exfalso; simp_all; omega))), H', ⟨by first | omega | exact Nat.le_refl _⟩, ⟨by repeat (first | (with_reducible first | exact HB.out | apply below_alloc | apply pw_below_drewN | apply below_drew1) | exact HB.out)⟩⟩
  ·replace c4 := Bool.eq_false_iff.mpr c4
   subst c4
   have H1 : (sieveref01_bytesOf.j0 k 65533) = some r := by rw [if_neg (show ¬ (false = true) by decide)] at H; exact H
   clear H
   have H := H1
   clear H1
   have H' := Aside0.mk H
   clear H
   go_wp2
   go_meet
   case rel => exact ⟨_, (65533), (by first | rfl | (simp; done) | (simp [*]; done) | (unfold bt; split <;> first | rfl | (exfalso; simp_all; done) | (exfalso; simp_all; omega))), H', ⟨by first | omega | exact Nat.le_refl _⟩, ⟨by repeat (first | (with_reducible first | exact HB.out | apply below_alloc | apply pw_below_drewN | apply below_drew1) | exact HB.out)⟩⟩
 case rest =>
  clear HC3
  try clear p2
  try clear c4
  obtain ⟨kq, x0_2, rfl, HA, HJ2, HB⟩ := hcut
  cases kq with
  | zero => exact absurd HA.out (by simp [sieveref01_bytesOf.j0])
  | succ kj2 =>
   have H := HA.out
   clear HA
   simp only [sieveref01_bytesOf.j0] at H
   replace H := Option.bind_eq_some_iff.mp H
   obtain ⟨t173, A50, H⟩ := H
   replace H : (if t173 = 1 then (some (([(x0_2) % 256] : List Int))) else (if t173 = 2 then (some (([(wrap32 (192 + (wrap32 (Int.tdiv x0_2 64)))) % 256, (wrap32 (128 + (Int.tmod x0_2 64))) % 256] : List Int))) else (if t173 = 3 then (some (([(wrap32 (224 + (wrap32 (Int.tdiv x0_2 4096)))) % 256, (wrap32 (128 + (Int.tmod (wrap32 (Int.tdiv x0_2 64)) 64))) % 256, (wrap32 (128 + (Int.tmod x0_2 64))) % 256] : List Int))) else (some (([(wrap32 (240 + (wrap32 (Int.tdiv x0_2 262144)))) % 256, (wrap32 (128 + (Int.tmod (wrap32 (Int.tdiv x0_2 4096)) 64))) % 256, (wrap32 (128 + (Int.tmod (wrap32 (Int.tdiv x0_2 64)) 64))) % 256, (wrap32 (128 + (Int.tmod x0_2 64))) % 256] : List Int)))))) = some r := H
   have A5 := Aside0.mk A50
   clear A50
   by_cases c6 : t173 = 1
   ·rw [if_pos c6] at H
    have c6b0 : (t173 == 1) = true := beq_iff_eq.mpr c6
    have c6b1 : (t173 != 1) = false := bne_eq_false_iff_eq.mpr c6
    clear c6
    obtain ⟨y174, hy174⟩ : ∃ y_ : List Int, y_ = (([(x0_2) % 256] : List Int)) := ⟨_, rfl⟩
    replace H : (some y174) = some r := by first | (rw [hy174]; with_reducible exact H) | (have H2_ := (Option.bind_some _ _).symm.trans H; rw [hy174]; with_reducible exact H2_) | (have H2_ := (Option.bind_some _ _).symm.trans H; with_reducible exact H2_) | with_reducible exact H | (rw [hy174]; exact H) | exact H
    have Ny174 := Aside0.mk hy174
    clear hy174
    obtain rfl := Option.some.inj H
    go_wp2_with (first | ((with_reducible refine gate_callee (f := 82) rfl ?_); refine goesL_ (some 7) rfl rfl Try.func82 (by kernel_rfl) rfl #[.int .i32 x0_2] rfl (by (try simp only [List.map_toArray, List.map_cons, List.map_nil]); first | done | rfl | (simp only [List.length_drop, List.length_take]; rfl) | (simp [*] <;> rfl)) ?_; (with_reducible refine (sieveref01_Width.calls x0_2 t173 _ A5.out).mono ?_); rintro e w' ⟨rfl, ⟨nd, rfl⟩⟩; refine ⟨_, rfl, ?_⟩) | ((with_reducible refine gate_dst (N := 12) rfl ?_); refine Kd.R_lit (Kd.int .u8) _ 5 ?hg (N := 12) ?hd (xs := ([(x0_2) % 256] : List Int)) (inner := [.int .u8 ((x0_2) % 256)]) (ok := fun _ => True) (okp := fun _ => True) ?hr ?hp (fun _ hk => hk) trivial (Below.refl _ _) (Nat.le_refl _) (by simp) ?_; (case hd => rfl); (case hg => rfl); (case hr => first | (go_simp; done) | (go_simp; rfl)); (case hp => exact (Reps.one (show Kd.M (Kd.int .u8) _ _ _ ((x0_2) % 256) [.int .u8 ((x0_2) % 256)] from rfl) (Reps.none _ _))); intro v175 w7 ho8 hb hg_ hnew_; clear hg_ hnew_; (first | rw [← Ny174.out] at ho8 | (simp only [Int.reduceToNat] at ho8; rw [← Ny174.out] at ho8)); have n0_ := Aside0.mk (Kd.R_lower ho8 (below_size (by repeat (first | (with_reducible first | exact HB.out | apply below_alloc | apply pw_below_drewN | apply below_drew1) | exact HB.out)))); have n1_ := Aside0.mk (below_step (by repeat (first | (with_reducible first | exact HB.out | apply below_alloc | apply pw_below_drewN | apply below_drew1) | exact HB.out)) hb); clear HB; have HO176 := n0_; have HB := n1_; clear n0_ n1_; clear hb ho8))
    go_ret
    exact ⟨_, by first | rfl | (simp [errW_none, errW_some] <;> rfl) | (simp [*, errW_none, errW_some] <;> rfl), by (with_reducible repeat (first | apply Kd.R_alloc | apply Kd.R_drewN | apply Kd.R_drew)); exact HO176.out, by repeat (first | (with_reducible first | exact HB.out | apply below_alloc | apply pw_below_drewN | apply below_drew1) | exact HB.out)⟩
   ·rw [if_neg c6] at H
    have c6b0 : (t173 == 1) = false := beq_eq_false_iff_ne.mpr c6
    have c6b1 : (t173 != 1) = true := bne_iff_ne.mpr c6
    by_cases c9 : t173 = 2
    ·rw [if_pos c9] at H
     have c9b0 : (t173 == 2) = true := beq_iff_eq.mpr c9
     have c9b1 : (t173 != 2) = false := bne_eq_false_iff_eq.mpr c9
     clear c9
     obtain ⟨y177, hy177⟩ : ∃ y_ : List Int, y_ = (([(wrap32 (192 + (wrap32 (Int.tdiv x0_2 64)))) % 256, (wrap32 (128 + (Int.tmod x0_2 64))) % 256] : List Int)) := ⟨_, rfl⟩
     replace H : (some y177) = some r := by first | (rw [hy177]; with_reducible exact H) | (have H2_ := (Option.bind_some _ _).symm.trans H; rw [hy177]; with_reducible exact H2_) | (have H2_ := (Option.bind_some _ _).symm.trans H; with_reducible exact H2_) | with_reducible exact H | (rw [hy177]; exact H) | exact H
     have Ny177 := Aside0.mk hy177
     clear hy177
     obtain rfl := Option.some.inj H
     go_wp2_with (first | ((with_reducible refine gate_callee (f := 82) rfl ?_); refine goesL_ (some 7) rfl rfl Try.func82 (by kernel_rfl) rfl #[.int .i32 x0_2] rfl (by (try simp only [List.map_toArray, List.map_cons, List.map_nil]); first | done | rfl | (simp only [List.length_drop, List.length_take]; rfl) | (simp [*] <;> rfl)) ?_; (with_reducible refine (sieveref01_Width.calls x0_2 t173 _ A5.out).mono ?_); rintro e w' ⟨rfl, ⟨nd, rfl⟩⟩; refine ⟨_, rfl, ?_⟩) | ((with_reducible refine gate_dst (N := 23) rfl ?_); refine Kd.R_lit (Kd.int .u8) _ 5 ?hg (N := 23) ?hd (xs := ([(wrap32 (192 + (wrap32 (Int.tdiv x0_2 64)))) % 256, (wrap32 (128 + (Int.tmod x0_2 64))) % 256] : List Int)) (inner := [.int .u8 ((wrap32 (192 + (wrap32 (Int.tdiv x0_2 64)))) % 256), .int .u8 ((wrap32 (128 + (Int.tmod x0_2 64))) % 256)]) (ok := fun _ => True) (okp := fun _ => True) ?hr ?hp (fun _ hk => hk) trivial (Below.refl _ _) (Nat.le_refl _) (by simp) ?_; (case hd => rfl); (case hg => rfl); (case hr => first | (go_simp; done) | (go_simp; rfl)); (case hp => exact (Reps.one (show Kd.M (Kd.int .u8) _ _ _ ((wrap32 (192 + (wrap32 (Int.tdiv x0_2 64)))) % 256) [.int .u8 ((wrap32 (192 + (wrap32 (Int.tdiv x0_2 64)))) % 256)] from rfl) (Reps.one (show Kd.M (Kd.int .u8) _ _ _ ((wrap32 (128 + (Int.tmod x0_2 64))) % 256) [.int .u8 ((wrap32 (128 + (Int.tmod x0_2 64))) % 256)] from rfl) (Reps.none _ _)))); intro v178 w10 ho11 hb hg_ hnew_; clear hg_ hnew_; (first | rw [← Ny177.out] at ho11 | (simp only [Int.reduceToNat] at ho11; rw [← Ny177.out] at ho11)); have n0_ := Aside0.mk (Kd.R_lower ho11 (below_size (by repeat (first | (with_reducible first | exact HB.out | apply below_alloc | apply pw_below_drewN | apply below_drew1) | exact HB.out)))); have n1_ := Aside0.mk (below_step (by repeat (first | (with_reducible first | exact HB.out | apply below_alloc | apply pw_below_drewN | apply below_drew1) | exact HB.out)) hb); clear HB; have HO179 := n0_; have HB := n1_; clear n0_ n1_; clear hb ho11))
     go_ret
     exact ⟨_, by first | rfl | (simp [errW_none, errW_some] <;> rfl) | (simp [*, errW_none, errW_some] <;> rfl), by (with_reducible repeat (first | apply Kd.R_alloc | apply Kd.R_drewN | apply Kd.R_drew)); exact HO179.out, by repeat (first | (with_reducible first | exact HB.out | apply below_alloc | apply pw_below_drewN | apply below_drew1) | exact HB.out)⟩
    ·rw [if_neg c9] at H
     have c9b0 : (t173 == 2) = false := beq_eq_false_iff_ne.mpr c9
     have c9b1 : (t173 != 2) = true := bne_iff_ne.mpr c9
     by_cases c12 : t173 = 3
     ·rw [if_pos c12] at H
      have c12b0 : (t173 == 3) = true := beq_iff_eq.mpr c12
      have c12b1 : (t173 != 3) = false := bne_eq_false_iff_eq.mpr c12
      clear c12
      obtain ⟨y180, hy180⟩ : ∃ y_ : List Int, y_ = (([(wrap32 (224 + (wrap32 (Int.tdiv x0_2 4096)))) % 256, (wrap32 (128 + (Int.tmod (wrap32 (Int.tdiv x0_2 64)) 64))) % 256, (wrap32 (128 + (Int.tmod x0_2 64))) % 256] : List Int)) := ⟨_, rfl⟩
      replace H : (some y180) = some r := by first | (rw [hy180]; with_reducible exact H) | (have H2_ := (Option.bind_some _ _).symm.trans H; rw [hy180]; with_reducible exact H2_) | (have H2_ := (Option.bind_some _ _).symm.trans H; with_reducible exact H2_) | with_reducible exact H | (rw [hy180]; exact H) | exact H
      have Ny180 := Aside0.mk hy180
      clear hy180
      obtain rfl := Option.some.inj H
      go_wp2_with (first | ((with_reducible refine gate_callee (f := 82) rfl ?_); refine goesL_ (some 7) rfl rfl Try.func82 (by kernel_rfl) rfl #[.int .i32 x0_2] rfl (by (try simp only [List.map_toArray, List.map_cons, List.map_nil]); first | done | rfl | (simp only [List.length_drop, List.length_take]; rfl) | (simp [*] <;> rfl)) ?_; (with_reducible refine (sieveref01_Width.calls x0_2 t173 _ A5.out).mono ?_); rintro e w' ⟨rfl, ⟨nd, rfl⟩⟩; refine ⟨_, rfl, ?_⟩) | ((with_reducible refine gate_dst (N := 39) rfl ?_); refine Kd.R_lit (Kd.int .u8) _ 5 ?hg (N := 39) ?hd (xs := ([(wrap32 (224 + (wrap32 (Int.tdiv x0_2 4096)))) % 256, (wrap32 (128 + (Int.tmod (wrap32 (Int.tdiv x0_2 64)) 64))) % 256, (wrap32 (128 + (Int.tmod x0_2 64))) % 256] : List Int)) (inner := [.int .u8 ((wrap32 (224 + (wrap32 (Int.tdiv x0_2 4096)))) % 256), .int .u8 ((wrap32 (128 + (Int.tmod (wrap32 (Int.tdiv x0_2 64)) 64))) % 256), .int .u8 ((wrap32 (128 + (Int.tmod x0_2 64))) % 256)]) (ok := fun _ => True) (okp := fun _ => True) ?hr ?hp (fun _ hk => hk) trivial (Below.refl _ _) (Nat.le_refl _) (by simp) ?_; (case hd => rfl); (case hg => rfl); (case hr => first | (go_simp; done) | (go_simp; rfl)); (case hp => exact (Reps.one (show Kd.M (Kd.int .u8) _ _ _ ((wrap32 (224 + (wrap32 (Int.tdiv x0_2 4096)))) % 256) [.int .u8 ((wrap32 (224 + (wrap32 (Int.tdiv x0_2 4096)))) % 256)] from rfl) (Reps.one (show Kd.M (Kd.int .u8) _ _ _ ((wrap32 (128 + (Int.tmod (wrap32 (Int.tdiv x0_2 64)) 64))) % 256) [.int .u8 ((wrap32 (128 + (Int.tmod (wrap32 (Int.tdiv x0_2 64)) 64))) % 256)] from rfl) (Reps.one (show Kd.M (Kd.int .u8) _ _ _ ((wrap32 (128 + (Int.tmod x0_2 64))) % 256) [.int .u8 ((wrap32 (128 + (Int.tmod x0_2 64))) % 256)] from rfl) (Reps.none _ _))))); intro v181 w13 ho14 hb hg_ hnew_; clear hg_ hnew_; (first | rw [← Ny180.out] at ho14 | (simp only [Int.reduceToNat] at ho14; rw [← Ny180.out] at ho14)); have n0_ := Aside0.mk (Kd.R_lower ho14 (below_size (by repeat (first | (with_reducible first | exact HB.out | apply below_alloc | apply pw_below_drewN | apply below_drew1) | exact HB.out)))); have n1_ := Aside0.mk (below_step (by repeat (first | (with_reducible first | exact HB.out | apply below_alloc | apply pw_below_drewN | apply below_drew1) | exact HB.out)) hb); clear HB; have HO182 := n0_; have HB := n1_; clear n0_ n1_; clear hb ho14))
      go_ret
      exact ⟨_, by first | rfl | (simp [errW_none, errW_some] <;> rfl) | (simp [*, errW_none, errW_some] <;> rfl), by (with_reducible repeat (first | apply Kd.R_alloc | apply Kd.R_drewN | apply Kd.R_drew)); exact HO182.out, by repeat (first | (with_reducible first | exact HB.out | apply below_alloc | apply pw_below_drewN | apply below_drew1) | exact HB.out)⟩
     ·rw [if_neg c12] at H
      have c12b0 : (t173 == 3) = false := beq_eq_false_iff_ne.mpr c12
      have c12b1 : (t173 != 3) = true := bne_iff_ne.mpr c12
      obtain ⟨y183, hy183⟩ : ∃ y_ : List Int, y_ = (([(wrap32 (240 + (wrap32 (Int.tdiv x0_2 262144)))) % 256, (wrap32 (128 + (Int.tmod (wrap32 (Int.tdiv x0_2 4096)) 64))) % 256, (wrap32 (128 + (Int.tmod (wrap32 (Int.tdiv x0_2 64)) 64))) % 256, (wrap32 (128 + (Int.tmod x0_2 64))) % 256] : List Int)) := ⟨_, rfl⟩
      replace H : (some y183) = some r := by first | (rw [hy183]; with_reducible exact H) | (have H2_ := (Option.bind_some _ _).symm.trans H; rw [hy183]; with_reducible exact H2_) | (have H2_ := (Option.bind_some _ _).symm.trans H; with_reducible exact H2_) | with_reducible exact H | (rw [hy183]; exact H) | exact H
      have Ny183 := Aside0.mk hy183
      clear hy183
      obtain rfl := Option.some.inj H
      go_wp2_with (first | ((with_reducible refine gate_callee (f := 82) rfl ?_); refine goesL_ (some 7) rfl rfl Try.func82 (by kernel_rfl) rfl #[.int .i32 x0_2] rfl (by (try simp only [List.map_toArray, List.map_cons, List.map_nil]); first | done | rfl | (simp only [List.length_drop, List.length_take]; rfl) | (simp [*] <;> rfl)) ?_; (with_reducible refine (sieveref01_Width.calls x0_2 t173 _ A5.out).mono ?_); rintro e w' ⟨rfl, ⟨nd, rfl⟩⟩; refine ⟨_, rfl, ?_⟩) | ((with_reducible refine gate_dst (N := 58) rfl ?_); refine Kd.R_lit (Kd.int .u8) _ 5 ?hg (N := 58) ?hd (xs := ([(wrap32 (240 + (wrap32 (Int.tdiv x0_2 262144)))) % 256, (wrap32 (128 + (Int.tmod (wrap32 (Int.tdiv x0_2 4096)) 64))) % 256, (wrap32 (128 + (Int.tmod (wrap32 (Int.tdiv x0_2 64)) 64))) % 256, (wrap32 (128 + (Int.tmod x0_2 64))) % 256] : List Int)) (inner := [.int .u8 ((wrap32 (240 + (wrap32 (Int.tdiv x0_2 262144)))) % 256), .int .u8 ((wrap32 (128 + (Int.tmod (wrap32 (Int.tdiv x0_2 4096)) 64))) % 256), .int .u8 ((wrap32 (128 + (Int.tmod (wrap32 (Int.tdiv x0_2 64)) 64))) % 256), .int .u8 ((wrap32 (128 + (Int.tmod x0_2 64))) % 256)]) (ok := fun _ => True) (okp := fun _ => True) ?hr ?hp (fun _ hk => hk) trivial (Below.refl _ _) (Nat.le_refl _) (by simp) ?_; (case hd => rfl); (case hg => rfl); (case hr => first | (go_simp; done) | (go_simp; rfl)); (case hp => exact (Reps.one (show Kd.M (Kd.int .u8) _ _ _ ((wrap32 (240 + (wrap32 (Int.tdiv x0_2 262144)))) % 256) [.int .u8 ((wrap32 (240 + (wrap32 (Int.tdiv x0_2 262144)))) % 256)] from rfl) (Reps.one (show Kd.M (Kd.int .u8) _ _ _ ((wrap32 (128 + (Int.tmod (wrap32 (Int.tdiv x0_2 4096)) 64))) % 256) [.int .u8 ((wrap32 (128 + (Int.tmod (wrap32 (Int.tdiv x0_2 4096)) 64))) % 256)] from rfl) (Reps.one (show Kd.M (Kd.int .u8) _ _ _ ((wrap32 (128 + (Int.tmod (wrap32 (Int.tdiv x0_2 64)) 64))) % 256) [.int .u8 ((wrap32 (128 + (Int.tmod (wrap32 (Int.tdiv x0_2 64)) 64))) % 256)] from rfl) (Reps.one (show Kd.M (Kd.int .u8) _ _ _ ((wrap32 (128 + (Int.tmod x0_2 64))) % 256) [.int .u8 ((wrap32 (128 + (Int.tmod x0_2 64))) % 256)] from rfl) (Reps.none _ _)))))); intro v184 w15 ho16 hb hg_ hnew_; clear hg_ hnew_; (first | rw [← Ny183.out] at ho16 | (simp only [Int.reduceToNat] at ho16; rw [← Ny183.out] at ho16)); have n0_ := Aside0.mk (Kd.R_lower ho16 (below_size (by repeat (first | (with_reducible first | exact HB.out | apply below_alloc | apply pw_below_drewN | apply below_drew1) | exact HB.out)))); have n1_ := Aside0.mk (below_step (by repeat (first | (with_reducible first | exact HB.out | apply below_alloc | apply pw_below_drewN | apply below_drew1) | exact HB.out)) hb); clear HB; have HO185 := n0_; have HB := n1_; clear n0_ n1_; clear hb ho16))
      go_ret
      exact ⟨_, by first | rfl | (simp [errW_none, errW_some] <;> rfl) | (simp [*, errW_none, errW_some] <;> rfl), by (with_reducible repeat (first | apply Kd.R_alloc | apply Kd.R_drewN | apply Kd.R_drew)); exact HO185.out, by repeat (first | (with_reducible first | exact HB.out | apply below_alloc | apply pw_below_drewN | apply below_drew1) | exact HB.out)⟩

/-! ### sieveref01_Bytes: function 51 -/
def sieveref01_Bytes.l0 : Nat → List Int → List Int → Int → Int → Option (List Int)
 | 0, _, _, _, _ => none
 | k + 1, x3, x6, x7, x8 => if x8 < x7 then (if 0 ≤ x8 then (if x8 < (x6.length : Int) then ((sieveref01_bytesOf.f k (rd x6 x8)).bind fun t187 => (if x3.length + t187.length < 140737488355328 then (sieveref01_Bytes.l0 k (x3 ++ t187) x6 x7 (wrap64 (x8 + 1))) else (none))) else (none)) else (none)) else (some x3)
def sieveref01_Bytes.f (k : Nat) (l0 : List Int) : Option (List Int) := sieveref01_Bytes.l0 k ([] : List Int) l0 (l0.length : Int) 0
theorem sieveref01_Bytes.mono_l : ∀ k, (∀ y0 y1 y2 y3, LeO (sieveref01_Bytes.l0 k y0 y1 y2 y3) (sieveref01_Bytes.l0 (k + 1) y0 y1 y2 y3))
 | 0 => fun _ _ _ _ r h => by simp [sieveref01_Bytes.l0] at h
 | k + 1 => by
  have ih0 := sieveref01_Bytes.mono_l k
  ·intro y0 y1 y2 y3
   unfold sieveref01_Bytes.l0
   repeat' first
   | (with_reducible exact ih0 _ _ _ _)
   | (with_reducible exact sieveref01_bytesOf.mono _ _)
   | (with_reducible exact LeO.refl _)
   | (with_reducible exact LeO.none _)
   | (with_reducible refine LeO.ite ?_ ?_)
   | (with_reducible refine LeO.bind ?_ (fun _ => ?_))
   | exact ih0 _ _ _ _
   | exact sieveref01_bytesOf.mono _ _
   | exact LeO.none _
   | refine LeO.ite ?_ ?_
   | refine LeO.bind ?_ (fun _ => ?_)
theorem sieveref01_Bytes.mono : ∀ a0 k, LeO (sieveref01_Bytes.f k a0) (sieveref01_Bytes.f (k + 1) a0) := by
 intro a0 k
 have ih0 := sieveref01_Bytes.mono_l k
 unfold sieveref01_Bytes.f
 repeat' first
   | (with_reducible exact ih0 _ _ _ _)
   | (with_reducible exact sieveref01_bytesOf.mono _ _)
   | (with_reducible exact LeO.refl _)
   | (with_reducible exact LeO.none _)
   | (with_reducible refine LeO.ite ?_ ?_)
   | (with_reducible refine LeO.bind ?_ (fun _ => ?_))
   | exact ih0 _ _ _ _
   | exact sieveref01_bytesOf.mono _ _
   | exact LeO.none _
   | refine LeO.ite ?_ ?_
   | refine LeO.bind ?_ (fun _ => ?_)
set_option maxHeartbeats 8000000 in
set_option maxRecDepth 100000 in
theorem sieveref01_Bytes.calls (k : Nat) (A0 : Option Addr) (c0 : Nat) (l0 : List Int) (r : List Int) (w : World) (hr0 : Kd.C (Kd.int .i32) w A0 l0.length l0) (hc0 : l0.length ≤ c0) (h : sieveref01_Bytes.f k l0 = some r) :
  Calls Try.prog 51 #[.slice A0 l0.length c0] w fun e w' => ∃ v0_ : Value, e = .returned (v0_) ∧ Kd.R (Kd.int .u8) 5 w' w.heap.size (fun _ => True) v0_ r ∧ Below w.heap.size w w' := by
 have HR0 := Aside0.mk hr0
 have HC0 := Aside0.mk hc0
 clear hr0 hc0
 have HB := Aside0.mk (Below.refl w.heap.size w)
 have H : (sieveref01_Bytes.l0 k ([] : List Int) l0 (l0.length : Int) 0) = some r := h
 clear h
 have H' := Aside0.mk H
 clear H
 go_enter Try.func51, Try.ntmps51
 go_wp2
 go_loopg [3, 8] k (fun kq v3 v8 w' => ∃ (x3_1 : List Int) (x8_1 : Int), v8 = .int .i64 x8_1 ∧ Aside0 (sieveref01_Bytes.l0 kq x3_1 l0 (l0.length : Int) x8_1 = some r) ∧ Aside0 (kq ≤ k) ∧ Aside0 (Kd.R (Kd.int .u8) 5 w' w.heap.size (fun _ => True) v3 x3_1) ∧ Aside0 (Below w.heap.size w w'))
 case atStart => exact ⟨(([] : List Int)), (0), (by first | rfl | (simp; done) | (simp [*]; done) | (unfold bt; split <;> first | rfl | (exfalso; simp_all; done) | (exfalso; simp_all; omega))), H', ⟨Nat.le_refl _⟩, ⟨by first | exact Kd.R_nil _ _ _ _ _ | exact Kd.N_nil _ _ _ _ _ | exact Kd.V_nil _ _ _ _ _ | exact Kd.Q_nil _ _ _ _ _ | exact Kd.S_nil _ _ _ _ _⟩, ⟨by repeat (first | (with_reducible first | exact HB.out | apply below_alloc | apply pw_below_drewN | apply below_drew1) | exact HB.out)⟩⟩
 case round =>
  clear H'
  obtain ⟨x3_1, x8_1, rfl, HA, HK1, HO_3, HB⟩ := hrel
  cases gk with
  | zero => exact absurd HA.out (by simp [sieveref01_Bytes.l0])
  | succ k1 =>
   have H := HA.out
   clear HA
   simp only [sieveref01_Bytes.l0] at H
   by_cases c2 : x8_1 < (l0.length : Int)
   ·rw [if_pos c2] at H
    have c2b0 : decide (x8_1 < (l0.length : Int)) = true := decide_eq_true c2
    clear c2
    by_cases c3 : 0 ≤ x8_1
    ·rw [if_pos c3] at H
     have c3b0 : decide (0 ≤ x8_1) = true := decide_eq_true c3
     clear c3
     by_cases c4 : x8_1 < (l0.length : Int)
     ·rw [if_pos c4] at H
      have c4b0 : decide (x8_1 < (l0.length : Int)) = true := decide_eq_true c4
      clear c4
      replace H := Option.bind_eq_some_iff.mp H
      obtain ⟨t187, A50, H⟩ := H
      replace H : (if x3_1.length + t187.length < 140737488355328 then (sieveref01_Bytes.l0 k1 (x3_1 ++ t187) l0 (l0.length : Int) (wrap64 (x8_1 + 1))) else (none)) = some r := H
      have A5 := Aside0.mk A50
      clear A50
      by_cases c6 : x3_1.length + t187.length < 140737488355328
      ·rw [if_pos c6] at H
       have LMc6 := Aside0.mk c6
       clear c6
       obtain ⟨y190, hy190⟩ : ∃ y_ : List Int, y_ = (x3_1 ++ t187) := ⟨_, rfl⟩
       replace H : (sieveref01_Bytes.l0 k1 y190 l0 (l0.length : Int) (wrap64 (x8_1 + 1))) = some r := by first | (rw [hy190]; with_reducible exact H) | (have H2_ := (Option.bind_some _ _).symm.trans H; rw [hy190]; with_reducible exact H2_) | (have H2_ := (Option.bind_some _ _).symm.trans H; with_reducible exact H2_) | with_reducible exact H | (rw [hy190]; exact H) | exact H
       have Ny190 := Aside0.mk hy190
       clear hy190
       have H' := Aside0.mk H
       clear H
       have p186 : 0 ≤ (x8_1 : Int) := of_decide_eq_true (by first | (with_reducible assumption) | assumption)
       have q186 : x8_1 < (l0.length : Int) := of_decide_eq_true (by first | (with_reducible assumption) | assumption)
       obtain ⟨ad186, e186, hx186_0⟩ := Kd.at_int HR0.out x8_1 p186 q186
       cases e186
       replace hx186_0 := (HB.out.cell (World.block_lt_of_cell? w _ hx186_0)).trans hx186_0
       replace p186 := eq_true p186
       replace q186 := eq_true q186
       go_wp2_with (first | ((with_reducible refine gate_callee (f := 72) rfl ?_); refine goesL_ (some 14) rfl rfl Try.func72 (by kernel_rfl) rfl #[.int .i32 (rd l0 x8_1)] rfl (by (try simp only [List.map_toArray, List.map_cons, List.map_nil]); first | done | rfl | (simp only [List.length_drop, List.length_take]; rfl) | (simp [*] <;> rfl)) ?_; (with_reducible refine (sieveref01_bytesOf.calls k1 (rd l0 x8_1) t187 _ A5.out).mono ?_); rintro e w7 ⟨v188, rfl, ho0, hb⟩; refine ⟨_, rfl, ?_⟩; have n0_ := Aside0.mk (Kd.R_elder' (by (with_reducible repeat (first | apply Kd.R_alloc | apply Kd.R_drewN | apply Kd.R_drew)); exact HO_3.out) (Kd.R_base ho0) hb); have n1_ := Aside0.mk (Kd.R_lower (Kd.R_new' ho0 (Kd.R_lt (by (with_reducible repeat (first | apply Kd.R_alloc | apply Kd.R_drewN | apply Kd.R_drew)); exact HO_3.out))) (below_size (by repeat (first | (with_reducible first | exact HB.out | apply below_alloc | apply pw_below_drewN | apply below_drew1) | exact HB.out)))); have n2_ := Aside0.mk (below_step (by repeat (first | (with_reducible first | exact HB.out | apply below_alloc | apply pw_below_drewN | apply below_drew1) | exact HB.out)) hb); clear HO_3; clear HB; have HO_3 := n0_; have HO189 := n1_; have HB := n2_; clear n0_ n1_ n2_; (try clear hb); (try clear hb2); (try clear hk); (try clear hi); (try clear ho0); obtain ⟨Ao9, co9, eo9⟩ := Kd.R_slice HO189.out; subst eo9) | ((with_reducible refine gate_builtin (b := .append) (xs := #[.tmp 12, .tmp 14]) rfl ?_); at_builtin; refine Kd.R_append_rows (Kd.int .u8) (w0 := w) w.heap.size rfl (.tmp 12) (.tmp 14) 31 5 (.int .u8 0) 1 rfl Try.underlying31 info5 rfl (by decide) (by omega) u3 x3_1 t187 _ _ _ (fun k_ => some k_ ≠ (.slice Ao9 t187.length co9 : Value).ownBlock) (fun _ => False) rfl rfl ?aO ?aR (fun _ _ h => h) (fun _ h => h.elim) ?aF ?aB ?aS ?aL ?_; (case aR => repeat (first | exact (Kd.R_reads' HO189.out).2.2 | (with_reducible refine Kd.C_alloc ?_ _) | (with_reducible refine Kd.C_drewN ?_ _) | (with_reducible refine Kd.C_drew ?_))); (case aB => exact (by repeat (first | (with_reducible first | exact HB.out | apply below_alloc | apply pw_below_drewN | apply below_drew1) | exact HB.out))); (case aF => exact (fun k_ hk => Kd.fresh' (Kd.R_lt (by (with_reducible repeat (first | apply Kd.R_alloc | apply Kd.R_drewN | apply Kd.R_drew)); exact HO189.out)) k_ hk)); (case aO => exact (by (with_reducible repeat (first | apply Kd.R_alloc | apply Kd.R_drewN | apply Kd.R_drew)); exact Kd.R_mono HO_3.out (fun _ hk => hk.2))); (case aS => exact (below_size (by repeat (first | (with_reducible first | exact HB.out | apply below_alloc | apply pw_below_drewN | apply below_drew1) | exact HB.out)))); (case aL => have := LMc6.out; omega); intro v191 w8 ho hb hg hat; rw [← Ny190.out] at ho; have n0_ := Aside0.mk (Kd.R_after (ok := (fun _ => True)) (by (with_reducible repeat (first | apply Kd.R_alloc | apply Kd.R_drewN | apply Kd.R_drew)); exact HO189.out) hg hat); have n1_ := Aside0.mk (hb); have n2_ := Aside0.mk (ho); clear HO189; clear HB; clear HO_3; have HO189 := n0_; have HB := n1_; have HO192 := n2_; clear n0_ n1_ n2_; clear ho hb hg hat))
       go_roundg k1
       case measure => have := HK1.out; omega
       case rel => exact ⟨(y190), (wrap64 (x8_1 + 1)), (by first | rfl | (simp; done) | (simp [*]; done) | (unfold bt; split <;> first | rfl | (exfalso; simp_all; done) | (exfalso; simp_all; omega))), H', ⟨by have := HK1.out; omega⟩, ⟨by (with_reducible repeat (first | apply Kd.R_alloc | apply Kd.R_drewN | apply Kd.R_drew)); exact Kd.R_mono HO192.out (fun _ hk => trivial)⟩, ⟨by repeat (first | (with_reducible first | exact HB.out | apply below_alloc | apply pw_below_drewN | apply below_drew1) | exact HB.out)⟩⟩
      ·rw [if_neg c6] at H
       exact absurd H (by simp)
     ·rw [if_neg c4] at H
      exact absurd H (by simp)
    ·rw [if_neg c3] at H
     exact absurd H (by simp)
   ·rw [if_neg c2] at H
    have c2b0 : decide (x8_1 < (l0.length : Int)) = false := decide_eq_false c2
    clear c2
    obtain rfl := Option.some.inj H
    go_wp2
    go_ret
    exact ⟨_, by first | rfl | (simp [errW_none, errW_some] <;> rfl) | (simp [*, errW_none, errW_some] <;> rfl), by (with_reducible repeat (first | apply Kd.R_alloc | apply Kd.R_drewN | apply Kd.R_drew)); exact HO_3.out, by repeat (first | (with_reducible first | exact HB.out | apply below_alloc | apply pw_below_drewN | apply below_drew1) | exact HB.out)⟩

/-! ### sieveref01_Text: function 30 -/
def sieveref01_Text.f (k : Nat) (l0 : List Int) : Option (ByteArray) := (sieveref01_Bytes.f k l0).bind fun t193 => (some (strOfNums t193))
theorem sieveref01_Text.mono : ∀ a0 k, LeO (sieveref01_Text.f k a0) (sieveref01_Text.f (k + 1) a0) := by
 intro a0 k
 unfold sieveref01_Text.f
 repeat' first
   | (with_reducible exact sieveref01_Bytes.mono _ _)
   | (with_reducible exact LeO.refl _)
   | (with_reducible exact LeO.none _)
   | (with_reducible refine LeO.ite ?_ ?_)
   | (with_reducible refine LeO.bind ?_ (fun _ => ?_))
   | exact sieveref01_Bytes.mono _ _
   | exact LeO.none _
   | refine LeO.ite ?_ ?_
   | refine LeO.bind ?_ (fun _ => ?_)
set_option maxHeartbeats 8000000 in
set_option maxRecDepth 100000 in
theorem sieveref01_Text.calls (k : Nat) (A0 : Option Addr) (c0 : Nat) (l0 : List Int) (r : ByteArray) (w : World) (hr0 : Kd.C (Kd.int .i32) w A0 l0.length l0) (hc0 : l0.length ≤ c0) (h : sieveref01_Text.f k l0 = some r) :
  Calls Try.prog 30 #[.slice A0 l0.length c0] w fun e w' => e = .returned (.string r) ∧ Below w.heap.size w w' := by
 have HR0 := Aside0.mk hr0
 have HC0 := Aside0.mk hc0
 clear hr0 hc0
 have HB := Aside0.mk (Below.refl w.heap.size w)
 have H : ((sieveref01_Bytes.f k l0).bind fun t193 => (some (strOfNums t193))) = some r := h
 clear h
 replace H := Option.bind_eq_some_iff.mp H
 obtain ⟨t193, A20, H⟩ := H
 replace H : (some (strOfNums t193)) = some r := H
 have A2 := Aside0.mk A20
 clear A20
 obtain rfl := Option.some.inj H
 go_enter Try.func30, Try.ntmps30
 go_wp2_with (first | ((with_reducible refine gate_callee (f := 51) rfl ?_); refine goesL_ (some 4) rfl rfl Try.func51 (by kernel_rfl) rfl #[.slice A0 l0.length c0] rfl (by (try simp only [List.map_toArray, List.map_cons, List.map_nil]); first | done | rfl | (simp only [List.length_drop, List.length_take]; rfl) | (simp [*] <;> rfl)) ?_; (with_reducible refine (sieveref01_Bytes.calls k _ _ l0 t193 _ ?side1 ?side2 A2.out).mono ?_); (case side1 => repeat (first | exact HR0.out | (with_reducible refine Kd.C_alloc ?_ _) | (with_reducible refine Kd.C_drewN ?_ _) | (with_reducible refine Kd.C_drew ?_))); (case side2 => exact HC0.out); rintro e w3 ⟨v194, rfl, ho0, hb⟩; refine ⟨_, rfl, ?_⟩; have n0_ := Aside0.mk (Kd.R_lower ho0 (below_size (by repeat (first | (with_reducible first | exact HB.out | apply below_alloc | apply pw_below_drewN | apply below_drew1) | exact HB.out)))); have n1_ := Aside0.mk (below_step (by repeat (first | (with_reducible first | exact HB.out | apply below_alloc | apply pw_below_drewN | apply below_drew1) | exact HB.out)) hb); clear HB; have HO195 := n0_; have HB := n1_; clear n0_ n1_; (try clear hb); (try clear hb2); (try clear hk); (try clear hi); (try clear ho0); have hcv4 := own_string (P := Try.prog) Try.underlying31 Try.underlying5 Try.underlying9 (Kd.own_of_R HO195.out)))
 go_ret
 exact ⟨by first | rfl | (simp [errW_none, errW_some] <;> rfl) | (simp [*, errW_none, errW_some] <;> rfl), by repeat (first | (with_reducible first | exact HB.out | apply below_alloc | apply pw_below_drewN | apply below_drew1) | exact HB.out)⟩

end Go.Proofs.Ytilpbfbnnmclhaa.P
end
section
namespace Go.Proofs.Ytilpbfbnnmclhaa.P
open Go.RowKit Go.Proofs.YtilpbfbnnmclhaaW.PrintWords Go.Proofs.YtilpbfbnnmclhaaW.PrintLast Go.Proofs.YtilpbfbnnmclhaaW.PrintMore
attribute [local go_sem] max2_int min2_int max_two min_two max_three min_three max_four min_four   -- for this text's walks alone
set_option linter.unusedVariables false
set_option linter.unusedSimpArgs false

/-! ### names_Digit: function 77 -/
def names_Digit.f (a0 : Int) : Option (Bool) := if a0 ≥ 48 then (some (decide (a0 ≤ 57))) else (some false)
set_option maxHeartbeats 8000000 in
set_option maxRecDepth 100000 in
theorem names_Digit.calls (a0 : Int) (r : Bool) (w : World) (h : names_Digit.f a0 = some r) :
  Calls Try.prog 77 #[.int .i32 a0] w fun e w' => e = .returned (.bool r) ∧ Drawn0 w w' := by
 have H : (if a0 ≥ 48 then (some (decide (a0 ≤ 57))) else (some false)) = some r := h
 clear h
 by_cases c2 : a0 ≥ 48
 ·rw [if_pos c2] at H
  have c2b0 : decide (48 ≤ a0) = true := decide_eq_true c2
  clear c2
  obtain rfl := Option.some.inj H
  go_enter Try.func77, Try.ntmps77
  go_wp2
  go_ret
  exact ⟨by first | rfl | (simp; done) | (simp [*]; done), by repeat (first | exact Drawn0.refl _ | apply Drawn0.step)⟩
 ·rw [if_neg c2] at H
  have c2b0 : decide (48 ≤ a0) = false := decide_eq_false c2
  clear c2
  obtain rfl := Option.some.inj H
  go_enter Try.func77, Try.ntmps77
  go_wp2
  go_ret
  exact ⟨by first | rfl | (simp; done) | (simp [*]; done), by repeat (first | exact Drawn0.refl _ | apply Drawn0.step)⟩

/-! ### names_Value: function 60 -/
def names_Value.j0 : Nat → Int → Bool → Option (Int)
 | 0, _, _ => none
 | k + 1, x0, x9 => if x9 = true then (some (wrap64 ((wrap64 (wrap32 (x0 - 97))) + 10))) else (if x0 ≥ 65 then (if x0 ≤ 70 then (some (wrap64 ((wrap64 (wrap32 (x0 - 65))) + 10))) else (some (-1))) else (some (-1)))
def names_Value.f (k : Nat) (a0 : Int) : Option (Int) := (names_Digit.f a0).bind fun t101 => (if t101 = true then (some (wrap64 (wrap32 (a0 - 48)))) else (if a0 ≥ 97 then (names_Value.j0 k a0 (decide (a0 ≤ 102))) else (names_Value.j0 k a0 false)))
theorem names_Value.mono_l : ∀ k, (∀ y0 y1, LeO (names_Value.j0 k y0 y1) (names_Value.j0 (k + 1) y0 y1))
 | 0 => fun _ _ r h => by simp [names_Value.j0] at h
 | k + 1 => by
  have ih0 := names_Value.mono_l k
  ·intro y0 y1
   unfold names_Value.j0
   repeat' first
   | (with_reducible exact ih0 _ _)
   | (with_reducible exact LeO.refl _)
   | (with_reducible exact LeO.none _)
   | (with_reducible refine LeO.ite ?_ ?_)
   | (with_reducible refine LeO.bind ?_ (fun _ => ?_))
   | exact ih0 _ _
   | exact LeO.none _
   | refine LeO.ite ?_ ?_
   | refine LeO.bind ?_ (fun _ => ?_)
theorem names_Value.mono : ∀ a0 k, LeO (names_Value.f k a0) (names_Value.f (k + 1) a0) := by
 intro a0 k
 have ih0 := names_Value.mono_l k
 unfold names_Value.f
 repeat' first
   | (with_reducible exact ih0 _ _)
   | (with_reducible exact LeO.refl _)
   | (with_reducible exact LeO.none _)
   | (with_reducible refine LeO.ite ?_ ?_)
   | (with_reducible refine LeO.bind ?_ (fun _ => ?_))
   | exact ih0 _ _
   | exact LeO.none _
   | refine LeO.ite ?_ ?_
   | refine LeO.bind ?_ (fun _ => ?_)
set_option maxHeartbeats 8000000 in
set_option maxRecDepth 100000 in
theorem names_Value.calls (k : Nat) (a0 : Int) (r : Int) (w : World) (h : names_Value.f k a0 = some r) :
  Calls Try.prog 60 #[.int .i32 a0] w fun e w' => e = .returned (.int .i64 r) ∧ Drawn0 w w' := by
 have H : ((names_Digit.f a0).bind fun t101 => (if t101 = true then (some (wrap64 (wrap32 (a0 - 48)))) else (if a0 ≥ 97 then (names_Value.j0 k a0 (decide (a0 ≤ 102))) else (names_Value.j0 k a0 false)))) = some r := h
 clear h
 replace H := Option.bind_eq_some_iff.mp H
 obtain ⟨t101, A20, H⟩ := H
 replace H : (if t101 = true then (some (wrap64 (wrap32 (a0 - 48)))) else (if a0 ≥ 97 then (names_Value.j0 k a0 (decide (a0 ≤ 102))) else (names_Value.j0 k a0 false))) = some r := H
 have A2 := Aside0.mk A20
 clear A20
 by_cases c3 : t101 = true
 ·subst c3
  have H1 : (some (wrap64 (wrap32 (a0 - 48)))) = some r := by rw [if_pos rfl] at H; exact H
  clear H
  have H := H1
  clear H1
  obtain rfl := Option.some.inj H
  go_enter Try.func60, Try.ntmps60
  go_wp2_with (first | ((with_reducible refine gate_callee (f := 77) rfl ?_); refine goesL_ (some 5) rfl rfl Try.func77 (by kernel_rfl) rfl #[.int .i32 a0] rfl (by (try simp only [List.map_toArray, List.map_cons, List.map_nil]); first | done | rfl | (simp only [List.length_drop, List.length_take]; rfl) | (simp [*] <;> rfl)) ?_; (with_reducible refine (names_Digit.calls a0 true _ A2.out).mono ?_); rintro e w' ⟨rfl, ⟨nd, rfl⟩⟩; refine ⟨_, rfl, ?_⟩))
  go_ret
  exact ⟨by first | rfl | (simp; done) | (simp [*]; done), by repeat (first | exact Drawn0.refl _ | apply Drawn0.step)⟩
 ·replace c3 := Bool.eq_false_iff.mpr c3
  subst c3
  have H1 : (if a0 ≥ 97 then (names_Value.j0 k a0 (decide (a0 ≤ 102))) else (names_Value.j0 k a0 false)) = some r := by rw [if_neg (show ¬ (false = true) by decide)] at H; exact H
  clear H
  have H := H1
  clear H1
  have HC4 := Aside0.mk H
  clear H
  go_enter Try.func60, Try.ntmps60
  go_upto_region 3 with (first | ((with_reducible refine gate_callee (f := 77) rfl ?_); refine goesL_ (some 5) rfl rfl Try.func77 (by kernel_rfl) rfl #[.int .i32 a0] rfl (by (try simp only [List.map_toArray, List.map_cons, List.map_nil]); first | done | rfl | (simp only [List.length_drop, List.length_take]; rfl) | (simp [*] <;> rfl)) ?_; (with_reducible refine (names_Digit.calls a0 false _ A2.out).mono ?_); rintro e w' ⟨rfl, ⟨nd, rfl⟩⟩; refine ⟨_, rfl, ?_⟩))
  (try simp only [Act.put, List.setIfInBounds_toArray, List.set_cons_zero, List.set_cons_succ])
  go_cut [9] (fun v9 wc => ∃ (kq : Nat) (x9_3 : Bool), v9 = .bool x9_3 ∧ Aside0 (names_Value.j0 kq a0 x9_3 = some r) ∧ Aside0 (kq ≤ k) ∧ Drawn0 w wc)
  case first =>
   have H := HC4.out
   clear HC4
   by_cases c5 : a0 ≥ 97
   ·rw [if_pos c5] at H
    have c5b0 : decide (97 ≤ a0) = true := decide_eq_true c5
    clear c5
    (first | rw [c5b0] | (simp only [i64_w, i32_w]; rw [c5b0]) | skip)
    have H' := Aside0.mk H
    clear H
    go_wp2
    go_meet
    case rel => exact ⟨_, (decide (a0 ≤ 102)), (by first | rfl | (simp; done) | (simp [*]; done) | (unfold bt; split <;> first | rfl | (exfalso; simp_all; done) | (exfalso; simp_all; omega))), H', ⟨by first | omega | exact Nat.le_refl _⟩, by repeat (first | exact Drawn0.refl _ | apply Drawn0.step)⟩
   ·rw [if_neg c5] at H
    have c5b0 : decide (97 ≤ a0) = false := decide_eq_false c5
    clear c5
    (first | rw [c5b0] | (simp only [i64_w, i32_w]; rw [c5b0]) | skip)
    have H' := Aside0.mk H
    clear H
    go_wp2
    go_meet
    case rel => exact ⟨_, (false), (by first | rfl | (simp; done) | (simp [*]; done) | (unfold bt; split <;> first | rfl | (exfalso; simp_all; done) | (exfalso; simp_all; omega))), H', ⟨by first | omega | exact Nat.le_refl _⟩, by repeat (first | exact Drawn0.refl _ | apply Drawn0.step)⟩
  case rest =>
   clear HC4
   try clear p2
   try clear c3
   try clear p3
   try clear c5
   try clear c5b0
   obtain ⟨kq, x9_3, rfl, HA, HJ3, ⟨mc3, rfl⟩⟩ := hcut
   cases kq with
   | zero => exact absurd HA.out (by simp [names_Value.j0])
   | succ kj3 =>
    have H := HA.out
    clear HA
    simp only [names_Value.j0] at H
    by_cases c6 : x9_3 = true
    ·subst c6
     have H1 : (some (wrap64 ((wrap64 (wrap32 (a0 - 97))) + 10))) = some r := by rw [if_pos rfl] at H; exact H
     clear H
     have H := H1
     clear H1
     obtain rfl := Option.some.inj H
     go_wp2
     go_ret
     exact ⟨by first | rfl | (simp; done) | (simp [*]; done), by repeat (first | exact Drawn0.refl _ | apply Drawn0.step)⟩
    ·replace c6 := Bool.eq_false_iff.mpr c6
     subst c6
     have H1 : (if a0 ≥ 65 then (if a0 ≤ 70 then (some (wrap64 ((wrap64 (wrap32 (a0 - 65))) + 10))) else (some (-1))) else (some (-1))) = some r := by rw [if_neg (show ¬ (false = true) by decide)] at H; exact H
     clear H
     have H := H1
     clear H1
     by_cases c7 : a0 ≥ 65
     ·rw [if_pos c7] at H
      have c7b0 : decide (65 ≤ a0) = true := decide_eq_true c7
      clear c7
      by_cases c8 : a0 ≤ 70
      ·rw [if_pos c8] at H
       have c8b0 : decide (a0 ≤ 70) = true := decide_eq_true c8
       clear c8
       obtain rfl := Option.some.inj H
       go_wp2
       go_ret
       exact ⟨by first | rfl | (simp; done) | (simp [*]; done), by repeat (first | exact Drawn0.refl _ | apply Drawn0.step)⟩
      ·rw [if_neg c8] at H
       have c8b0 : decide (a0 ≤ 70) = false := decide_eq_false c8
       clear c8
       obtain rfl := Option.some.inj H
       go_wp2
       go_ret
       exact ⟨by first | rfl | (simp; done) | (simp [*]; done), by repeat (first | exact Drawn0.refl _ | apply Drawn0.step)⟩
     ·rw [if_neg c7] at H
      have c7b0 : decide (65 ≤ a0) = false := decide_eq_false c7
      clear c7
      obtain rfl := Option.some.inj H
      go_wp2
      go_ret
      exact ⟨by first | rfl | (simp; done) | (simp [*]; done), by repeat (first | exact Drawn0.refl _ | apply Drawn0.step)⟩

-- NOT PRINTED: function 86 (charref_windows)

/-! ### stringslite_HasPrefix: function 87 -/
def stringslite_HasPrefix.f (a0 : ByteArray) (a1 : ByteArray) : Option (Bool) := if (a0.size : Int) ≥ (a1.size : Int) then (if 0 ≤ (a1.size : Int) then (if (a1.size : Int) ≤ (a0.size : Int) then (some ((a0.extract 0 ((a1.size : Int) : Int).toNat).toList == a1.toList)) else (none)) else (none)) else (some false)
set_option maxHeartbeats 8000000 in
set_option maxRecDepth 100000 in
theorem stringslite_HasPrefix.calls (a0 : ByteArray) (a1 : ByteArray) (r : Bool) (w : World) (h : stringslite_HasPrefix.f a0 a1 = some r) :
  Calls Try.prog 87 #[.string a0, .string a1] w fun e w' => e = .returned (.bool r) ∧ Drawn0 w w' := by
 have H : (if (a0.size : Int) ≥ (a1.size : Int) then (if 0 ≤ (a1.size : Int) then (if (a1.size : Int) ≤ (a0.size : Int) then (some ((a0.extract 0 ((a1.size : Int) : Int).toNat).toList == a1.toList)) else (none)) else (none)) else (some false)) = some r := h
 clear h
 by_cases c3 : (a0.size : Int) ≥ (a1.size : Int)
 ·rw [if_pos c3] at H
  have c3b0 : decide ((a1.size : Int) ≤ (a0.size : Int)) = true := decide_eq_true c3
  have c3b1 : decide (a1.size ≤ a0.size) = true := decide_eq_true (Int.ofNat_le.mp c3)
  clear c3
  by_cases c4 : 0 ≤ (a1.size : Int)
  ·rw [if_pos c4] at H
   have c4b0 := eq_true c4
   have c4b1 : decide (0 ≤ (a1.size : Int)) = true := decide_eq_true c4
   clear c4
   by_cases c5 : (a1.size : Int) ≤ (a0.size : Int)
   ·rw [if_pos c5] at H
    have c5b0 := eq_true c5
    have c5b1 : decide ((a1.size : Int) ≤ (a0.size : Int)) = true := decide_eq_true c5
    clear c5
    obtain rfl := Option.some.inj H
    go_enter Try.func87, Try.ntmps87
    go_wp2
    go_ret
    exact ⟨by first | rfl | (simp; done) | (simp [*]; done), by repeat (first | exact Drawn0.refl _ | apply Drawn0.step)⟩
   ·rw [if_neg c5] at H
    exact absurd H (by simp)
  ·rw [if_neg c4] at H
   exact absurd H (by simp)
 ·rw [if_neg c3] at H
  have c3b0 : decide ((a1.size : Int) ≤ (a0.size : Int)) = false := decide_eq_false c3
  have c3b1 : decide (a1.size ≤ a0.size) = false := decide_eq_false (fun h => c3 (Int.ofNat_le.mpr h))
  clear c3
  obtain rfl := Option.some.inj H
  go_enter Try.func87, Try.ntmps87
  go_wp2
  go_ret
  exact ⟨by first | rfl | (simp; done) | (simp [*]; done), by repeat (first | exact Drawn0.refl _ | apply Drawn0.step)⟩

/-! ### strings_HasPrefix: function 79 -/
def strings_HasPrefix.f (a0 : ByteArray) (a1 : ByteArray) : Option (Bool) := (stringslite_HasPrefix.f a0 a1).bind fun t102 => (some t102)
set_option maxHeartbeats 8000000 in
set_option maxRecDepth 100000 in
theorem strings_HasPrefix.calls (a0 : ByteArray) (a1 : ByteArray) (r : Bool) (w : World) (h : strings_HasPrefix.f a0 a1 = some r) :
  Calls Try.prog 79 #[.string a0, .string a1] w fun e w' => e = .returned (.bool r) ∧ Drawn0 w w' := by
 have H : ((stringslite_HasPrefix.f a0 a1).bind fun t102 => (some t102)) = some r := h
 clear h
 replace H := Option.bind_eq_some_iff.mp H
 obtain ⟨t102, A30, H⟩ := H
 replace H : (some t102) = some r := H
 have A3 := Aside0.mk A30
 clear A30
 obtain rfl := Option.some.inj H
 go_enter Try.func79, Try.ntmps79
 go_wp2_with (first | ((with_reducible refine gate_callee (f := 87) rfl ?_); refine goesL_ (some 7) rfl rfl Try.func87 (by kernel_rfl) rfl #[.string a0, .string a1] rfl (by (try simp only [List.map_toArray, List.map_cons, List.map_nil]); first | done | rfl | (simp only [List.length_drop, List.length_take]; rfl) | (simp [*] <;> rfl)) ?_; (with_reducible refine (stringslite_HasPrefix.calls a0 a1 t102 _ A3.out).mono ?_); rintro e w' ⟨rfl, ⟨nd, rfl⟩⟩; refine ⟨_, rfl, ?_⟩))
 go_ret
 exact ⟨by first | rfl | (simp; done) | (simp [*]; done), by repeat (first | exact Drawn0.refl _ | apply Drawn0.step)⟩

/-! ### entity_says: function 80 -/
def entity_says.f (a0_0 : ByteArray) (a0_1 : Int) (a0_2 : Int) (a0_3 : Bool) : Option (List Int) := if a0_2 = 0 then (some (([a0_1] : List Int))) else (some (([a0_1, a0_2] : List Int)))
set_option maxHeartbeats 8000000 in
set_option maxRecDepth 100000 in
theorem entity_says.calls (a0_0 : ByteArray) (a0_1 : Int) (a0_2 : Int) (a0_3 : Bool) (r : List Int) (w : World) (h : entity_says.f a0_0 a0_1 a0_2 a0_3 = some r) :
  Calls Try.prog 80 #[.agg #[.string a0_0, .int .i32 a0_1, .int .i32 a0_2, .bool a0_3]] w fun e w' => ∃ v0_ : Value, e = .returned (v0_) ∧ Kd.R (Kd.int .i32) 21 w' w.heap.size (fun _ => True) v0_ r ∧ Below w.heap.size w w' := by
 have hu98 := Try.underlying98
 have HB := Aside0.mk (Below.refl w.heap.size w)
 have H : (if a0_2 = 0 then (some (([a0_1] : List Int))) else (some (([a0_1, a0_2] : List Int)))) = some r := h
 clear h
 by_cases c2 : a0_2 = 0
 ·rw [if_pos c2] at H
  have c2b0 : (a0_2 == 0) = true := beq_iff_eq.mpr c2
  have c2b1 : (a0_2 != 0) = false := bne_eq_false_iff_eq.mpr c2
  clear c2
  obtain ⟨y104, hy104⟩ : ∃ y_ : List Int, y_ = (([a0_1] : List Int)) := ⟨_, rfl⟩
  replace H : (some y104) = some r := by first | (rw [hy104]; with_reducible exact H) | (have H2_ := (Option.bind_some _ _).symm.trans H; rw [hy104]; with_reducible exact H2_) | (have H2_ := (Option.bind_some _ _).symm.trans H; with_reducible exact H2_) | with_reducible exact H | (rw [hy104]; exact H) | exact H
  have Ny104 := Aside0.mk hy104
  clear hy104
  obtain rfl := Option.some.inj H
  go_enter Try.func80, Try.ntmps80
  go_wp2_with (first | ((with_reducible refine gate_dst (N := 1) rfl ?_); refine box_event ?hg (N := 1) ?hd (cs := #[.string a0_0, .int .i32 a0_1, .int .i32 a0_2, .bool a0_3]) (t := 98) ?hr ?_; (case hd => rfl); (case hg => rfl); (case hr => first | (go_simp; done) | (go_simp; rfl)); intro gb103 hg w3 hbox hb; have n0_ := Aside0.mk (below_step (by repeat (first | (with_reducible first | exact HB.out | apply below_alloc | apply pw_below_drewN | apply below_drew1) | exact HB.out)) hb); have n1_ := Aside0.mk (hbox); have n2_ := Aside0.mk ((by rw [hg]; exact (below_size (by repeat (first | (with_reducible first | exact HB.out | apply below_alloc | apply pw_below_drewN | apply below_drew1) | exact HB.out))) : w.heap.size ≤ gb103)); have n3_ := Aside0.mk ((by rw [hg]; exact (below_size (by repeat (first | (with_reducible first | exact HB.out | apply below_alloc | apply pw_below_drewN | apply below_drew1) | exact HB.out))) : w.heap.size ≤ gb103)); clear HB; have HB := n0_; have BK103 := n1_; have GW103 := n2_; have GE103 := n3_; clear n0_ n1_ n2_ n3_; clear hb hbox hg; have hcz4_0 : w3.cell? ⟨gb103, 0, none⟩ = some (.string a0_0) := (blk_cell BK103.out 0).trans rfl; have hcz4_1 : w3.cell? ⟨gb103, 1, none⟩ = some (.int .i32 a0_1) := (blk_cell BK103.out 1).trans rfl; have hcz4_2 : w3.cell? ⟨gb103, 2, none⟩ = some (.int .i32 a0_2) := (blk_cell BK103.out 2).trans rfl; have hcz4_3 : w3.cell? ⟨gb103, 3, none⟩ = some (.bool a0_3) := (blk_cell BK103.out 3).trans rfl; have hfz4_0 := blk_frozen BK103.out 0; have hfz4_1 := blk_frozen BK103.out 1; have hfz4_2 := blk_frozen BK103.out 2; have hfz4_3 := blk_frozen BK103.out 3) | ((with_reducible refine gate_dst (N := 13) rfl ?_); refine Kd.R_lit (Kd.int .i32) _ 21 ?hg (N := 13) ?hd (xs := ([a0_1] : List Int)) (inner := [.int .i32 a0_1]) (ok := fun _ => True) (okp := fun _ => True) ?hr ?hp (fun _ hk => hk) trivial (Below.refl _ _) (Nat.le_refl _) (by simp) ?_; (case hd => rfl); (case hg => rfl); (case hr => first | (go_simp; done) | (go_simp; rfl)); (case hp => exact (Reps.one (show Kd.M (Kd.int .i32) _ _ _ a0_1 [.int .i32 a0_1] from rfl) (Reps.none _ _))); intro v105 w5 ho6 hb hg_ hnew_; clear hg_ hnew_; (first | rw [← Ny104.out] at ho6 | (simp only [Int.reduceToNat] at ho6; rw [← Ny104.out] at ho6)); have n0_ := Aside0.mk (Kd.R_lower ho6 (below_size (by repeat (first | (with_reducible first | exact HB.out | apply below_alloc | apply pw_below_drewN | apply below_drew1 | refine below_set ?_ GE103.out) | exact HB.out)))); have n1_ := Aside0.mk (blk_below (g := gb103) (o := .cells #[.string a0_0, .int .i32 a0_1, .int .i32 a0_2, .bool a0_3] 98 (0, 0)) (by (with_reducible repeat (first | refine blk_drewN ?_ _ | refine blk_drew ?_ | refine blk_alloc ?_ _)); exact BK103.out) hb); have n2_ := Aside0.mk (below_step (by repeat (first | (with_reducible first | exact HB.out | apply below_alloc | apply pw_below_drewN | apply below_drew1 | refine below_set ?_ GE103.out) | exact HB.out)) hb); clear BK103; clear HB; have HO106 := n0_; have BK103 := n1_; have HB := n2_; clear n0_ n1_ n2_; clear hb ho6))
  go_ret
  exact ⟨_, by first | rfl | (simp [errW_none, errW_some] <;> rfl) | (simp [*, errW_none, errW_some] <;> rfl), by (with_reducible repeat (first | apply Kd.R_alloc | apply Kd.R_drewN | apply Kd.R_drew)); exact HO106.out, by repeat (first | (with_reducible first | exact HB.out | apply below_alloc | apply pw_below_drewN | apply below_drew1 | refine below_set ?_ GE103.out) | exact HB.out)⟩
 ·rw [if_neg c2] at H
  have c2b0 : (a0_2 == 0) = false := beq_eq_false_iff_ne.mpr c2
  have c2b1 : (a0_2 != 0) = true := bne_iff_ne.mpr c2
  obtain ⟨y107, hy107⟩ : ∃ y_ : List Int, y_ = (([a0_1, a0_2] : List Int)) := ⟨_, rfl⟩
  replace H : (some y107) = some r := by first | (rw [hy107]; with_reducible exact H) | (have H2_ := (Option.bind_some _ _).symm.trans H; rw [hy107]; with_reducible exact H2_) | (have H2_ := (Option.bind_some _ _).symm.trans H; with_reducible exact H2_) | with_reducible exact H | (rw [hy107]; exact H) | exact H
  have Ny107 := Aside0.mk hy107
  clear hy107
  obtain rfl := Option.some.inj H
  go_enter Try.func80, Try.ntmps80
  go_wp2_with (first | ((with_reducible refine gate_dst (N := 1) rfl ?_); refine box_event ?hg (N := 1) ?hd (cs := #[.string a0_0, .int .i32 a0_1, .int .i32 a0_2, .bool a0_3]) (t := 98) ?hr ?_; (case hd => rfl); (case hg => rfl); (case hr => first | (go_simp; done) | (go_simp; rfl)); intro gb103 hg w7 hbox hb; have n0_ := Aside0.mk (below_step (by repeat (first | (with_reducible first | exact HB.out | apply below_alloc | apply pw_below_drewN | apply below_drew1) | exact HB.out)) hb); have n1_ := Aside0.mk (hbox); have n2_ := Aside0.mk ((by rw [hg]; exact (below_size (by repeat (first | (with_reducible first | exact HB.out | apply below_alloc | apply pw_below_drewN | apply below_drew1) | exact HB.out))) : w.heap.size ≤ gb103)); have n3_ := Aside0.mk ((by rw [hg]; exact (below_size (by repeat (first | (with_reducible first | exact HB.out | apply below_alloc | apply pw_below_drewN | apply below_drew1) | exact HB.out))) : w.heap.size ≤ gb103)); clear HB; have HB := n0_; have BK103 := n1_; have GW103 := n2_; have GE103 := n3_; clear n0_ n1_ n2_ n3_; clear hb hbox hg; have hcz8_0 : w7.cell? ⟨gb103, 0, none⟩ = some (.string a0_0) := (blk_cell BK103.out 0).trans rfl; have hcz8_1 : w7.cell? ⟨gb103, 1, none⟩ = some (.int .i32 a0_1) := (blk_cell BK103.out 1).trans rfl; have hcz8_2 : w7.cell? ⟨gb103, 2, none⟩ = some (.int .i32 a0_2) := (blk_cell BK103.out 2).trans rfl; have hcz8_3 : w7.cell? ⟨gb103, 3, none⟩ = some (.bool a0_3) := (blk_cell BK103.out 3).trans rfl; have hfz8_0 := blk_frozen BK103.out 0; have hfz8_1 := blk_frozen BK103.out 1; have hfz8_2 := blk_frozen BK103.out 2; have hfz8_3 := blk_frozen BK103.out 3) | ((with_reducible refine gate_dst (N := 10) rfl ?_); refine Kd.R_lit (Kd.int .i32) _ 21 ?hg (N := 10) ?hd (xs := ([a0_1, a0_2] : List Int)) (inner := [.int .i32 a0_1, .int .i32 a0_2]) (ok := fun _ => True) (okp := fun _ => True) ?hr ?hp (fun _ hk => hk) trivial (Below.refl _ _) (Nat.le_refl _) (by simp) ?_; (case hd => rfl); (case hg => rfl); (case hr => first | (go_simp; done) | (go_simp; rfl)); (case hp => exact (Reps.one (show Kd.M (Kd.int .i32) _ _ _ a0_1 [.int .i32 a0_1] from rfl) (Reps.one (show Kd.M (Kd.int .i32) _ _ _ a0_2 [.int .i32 a0_2] from rfl) (Reps.none _ _)))); intro v108 w9 ho10 hb hg_ hnew_; clear hg_ hnew_; (first | rw [← Ny107.out] at ho10 | (simp only [Int.reduceToNat] at ho10; rw [← Ny107.out] at ho10)); have n0_ := Aside0.mk (Kd.R_lower ho10 (below_size (by repeat (first | (with_reducible first | exact HB.out | apply below_alloc | apply pw_below_drewN | apply below_drew1 | refine below_set ?_ GE103.out) | exact HB.out)))); have n1_ := Aside0.mk (blk_below (g := gb103) (o := .cells #[.string a0_0, .int .i32 a0_1, .int .i32 a0_2, .bool a0_3] 98 (0, 0)) (by (with_reducible repeat (first | refine blk_drewN ?_ _ | refine blk_drew ?_ | refine blk_alloc ?_ _)); exact BK103.out) hb); have n2_ := Aside0.mk (below_step (by repeat (first | (with_reducible first | exact HB.out | apply below_alloc | apply pw_below_drewN | apply below_drew1 | refine below_set ?_ GE103.out) | exact HB.out)) hb); clear BK103; clear HB; have HO109 := n0_; have BK103 := n1_; have HB := n2_; clear n0_ n1_ n2_; clear hb ho10))
  go_ret
  exact ⟨_, by first | rfl | (simp [errW_none, errW_some] <;> rfl) | (simp [*, errW_none, errW_some] <;> rfl), by (with_reducible repeat (first | apply Kd.R_alloc | apply Kd.R_drewN | apply Kd.R_drew)); exact HO109.out, by repeat (first | (with_reducible first | exact HB.out | apply below_alloc | apply pw_below_drewN | apply below_drew1 | refine below_set ?_ GE103.out) | exact HB.out)⟩

/-! ### names_Upper: function 88 -/
def names_Upper.f (a0 : Int) : Option (Bool) := if a0 ≥ 65 then (some (decide (a0 ≤ 90))) else (some false)
set_option maxHeartbeats 8000000 in
set_option maxRecDepth 100000 in
theorem names_Upper.calls (a0 : Int) (r : Bool) (w : World) (h : names_Upper.f a0 = some r) :
  Calls Try.prog 88 #[.int .i32 a0] w fun e w' => e = .returned (.bool r) ∧ Drawn0 w w' := by
 have H : (if a0 ≥ 65 then (some (decide (a0 ≤ 90))) else (some false)) = some r := h
 clear h
 by_cases c2 : a0 ≥ 65
 ·rw [if_pos c2] at H
  have c2b0 : decide (65 ≤ a0) = true := decide_eq_true c2
  clear c2
  obtain rfl := Option.some.inj H
  go_enter Try.func88, Try.ntmps88
  go_wp2
  go_ret
  exact ⟨by first | rfl | (simp; done) | (simp [*]; done), by repeat (first | exact Drawn0.refl _ | apply Drawn0.step)⟩
 ·rw [if_neg c2] at H
  have c2b0 : decide (65 ≤ a0) = false := decide_eq_false c2
  clear c2
  obtain rfl := Option.some.inj H
  go_enter Try.func88, Try.ntmps88
  go_wp2
  go_ret
  exact ⟨by first | rfl | (simp; done) | (simp [*]; done), by repeat (first | exact Drawn0.refl _ | apply Drawn0.step)⟩

/-! ### names_Letter: function 81 -/
def names_Letter.f (a0 : Int) : Option (Bool) := (names_Upper.f a0).bind fun t110 => (if t110 = true then (some true) else (if a0 ≥ 97 then (some (decide (a0 ≤ 122))) else (some false)))
set_option maxHeartbeats 8000000 in
set_option maxRecDepth 100000 in
theorem names_Letter.calls (a0 : Int) (r : Bool) (w : World) (h : names_Letter.f a0 = some r) :
  Calls Try.prog 81 #[.int .i32 a0] w fun e w' => e = .returned (.bool r) ∧ Drawn0 w w' := by
 have H : ((names_Upper.f a0).bind fun t110 => (if t110 = true then (some true) else (if a0 ≥ 97 then (some (decide (a0 ≤ 122))) else (some false)))) = some r := h
 clear h
 replace H := Option.bind_eq_some_iff.mp H
 obtain ⟨t110, A20, H⟩ := H
 replace H : (if t110 = true then (some true) else (if a0 ≥ 97 then (some (decide (a0 ≤ 122))) else (some false))) = some r := H
 have A2 := Aside0.mk A20
 clear A20
 by_cases c3 : t110 = true
 ·subst c3
  have H1 : (some true) = some r := by rw [if_pos rfl] at H; exact H
  clear H
  have H := H1
  clear H1
  obtain rfl := Option.some.inj H
  go_enter Try.func81, Try.ntmps81
  go_wp2_with (first | ((with_reducible refine gate_callee (f := 88) rfl ?_); refine goesL_ (some 4) rfl rfl Try.func88 (by kernel_rfl) rfl #[.int .i32 a0] rfl (by (try simp only [List.map_toArray, List.map_cons, List.map_nil]); first | done | rfl | (simp only [List.length_drop, List.length_take]; rfl) | (simp [*] <;> rfl)) ?_; (with_reducible refine (names_Upper.calls a0 true _ A2.out).mono ?_); rintro e w' ⟨rfl, ⟨nd, rfl⟩⟩; refine ⟨_, rfl, ?_⟩))
  go_ret
  exact ⟨by first | rfl | (simp; done) | (simp [*]; done), by repeat (first | exact Drawn0.refl _ | apply Drawn0.step)⟩
 ·replace c3 := Bool.eq_false_iff.mpr c3
  subst c3
  have H1 : (if a0 ≥ 97 then (some (decide (a0 ≤ 122))) else (some false)) = some r := by rw [if_neg (show ¬ (false = true) by decide)] at H; exact H
  clear H
  have H := H1
  clear H1
  by_cases c4 : a0 ≥ 97
  ·rw [if_pos c4] at H
   have c4b0 : decide (97 ≤ a0) = true := decide_eq_true c4
   clear c4
   obtain rfl := Option.some.inj H
   go_enter Try.func81, Try.ntmps81
   go_wp2_with (first | ((with_reducible refine gate_callee (f := 88) rfl ?_); refine goesL_ (some 4) rfl rfl Try.func88 (by kernel_rfl) rfl #[.int .i32 a0] rfl (by (try simp only [List.map_toArray, List.map_cons, List.map_nil]); first | done | rfl | (simp only [List.length_drop, List.length_take]; rfl) | (simp [*] <;> rfl)) ?_; (with_reducible refine (names_Upper.calls a0 false _ A2.out).mono ?_); rintro e w' ⟨rfl, ⟨nd, rfl⟩⟩; refine ⟨_, rfl, ?_⟩))
   go_ret
   exact ⟨by first | rfl | (simp; done) | (simp [*]; done), by repeat (first | exact Drawn0.refl _ | apply Drawn0.step)⟩
  ·rw [if_neg c4] at H
   have c4b0 : decide (97 ≤ a0) = false := decide_eq_false c4
   clear c4
   obtain rfl := Option.some.inj H
   go_enter Try.func81, Try.ntmps81
   go_wp2_with (first | ((with_reducible refine gate_callee (f := 88) rfl ?_); refine goesL_ (some 4) rfl rfl Try.func88 (by kernel_rfl) rfl #[.int .i32 a0] rfl (by (try simp only [List.map_toArray, List.map_cons, List.map_nil]); first | done | rfl | (simp only [List.length_drop, List.length_take]; rfl) | (simp [*] <;> rfl)) ?_; (with_reducible refine (names_Upper.calls a0 false _ A2.out).mono ?_); rintro e w' ⟨rfl, ⟨nd, rfl⟩⟩; refine ⟨_, rfl, ?_⟩))
   go_ret
   exact ⟨by first | rfl | (simp; done) | (simp [*]; done), by repeat (first | exact Drawn0.refl _ | apply Drawn0.step)⟩

/-! ### charref_word: function 64 -/
def charref_word.f (a0 : Int) : Option (Bool) := (names_Letter.f (wrap32 (a0))).bind fun t111 => (if t111 = true then (some true) else ((names_Digit.f (wrap32 (a0))).bind fun t112 => (some t112)))
set_option maxHeartbeats 8000000 in
set_option maxRecDepth 100000 in
theorem charref_word.calls (a0 : Int) (r : Bool) (w : World) (h : charref_word.f a0 = some r) :
  Calls Try.prog 64 #[.int .u8 a0] w fun e w' => e = .returned (.bool r) ∧ Drawn0 w w' := by
 have H : ((names_Letter.f (wrap32 (a0))).bind fun t111 => (if t111 = true then (some true) else ((names_Digit.f (wrap32 (a0))).bind fun t112 => (some t112)))) = some r := h
 clear h
 replace H := Option.bind_eq_some_iff.mp H
 obtain ⟨t111, A20, H⟩ := H
 replace H : (if t111 = true then (some true) else ((names_Digit.f (wrap32 (a0))).bind fun t112 => (some t112))) = some r := H
 have A2 := Aside0.mk A20
 clear A20
 by_cases c3 : t111 = true
 ·subst c3
  have H1 : (some true) = some r := by rw [if_pos rfl] at H; exact H
  clear H
  have H := H1
  clear H1
  obtain rfl := Option.some.inj H
  go_enter Try.func64, Try.ntmps64
  go_wp2_with (first | ((with_reducible refine gate_callee (f := 81) rfl ?_); refine goesL_ (some 5) rfl rfl Try.func81 (by kernel_rfl) rfl #[.int .i32 (wrap32 (a0))] rfl (by (try simp only [List.map_toArray, List.map_cons, List.map_nil]); first | done | rfl | (simp only [List.length_drop, List.length_take]; rfl) | (simp [*] <;> rfl)) ?_; (with_reducible refine (names_Letter.calls (wrap32 (a0)) true _ A2.out).mono ?_); rintro e w' ⟨rfl, ⟨nd, rfl⟩⟩; refine ⟨_, rfl, ?_⟩))
  go_ret
  exact ⟨by first | rfl | (simp; done) | (simp [*]; done), by repeat (first | exact Drawn0.refl _ | apply Drawn0.step)⟩
 ·replace c3 := Bool.eq_false_iff.mpr c3
  subst c3
  have H1 : ((names_Digit.f (wrap32 (a0))).bind fun t112 => (some t112)) = some r := by rw [if_neg (show ¬ (false = true) by decide)] at H; exact H
  clear H
  have H := H1
  clear H1
  replace H := Option.bind_eq_some_iff.mp H
  obtain ⟨t112, A40, H⟩ := H
  replace H : (some t112) = some r := H
  have A4 := Aside0.mk A40
  clear A40
  obtain rfl := Option.some.inj H
  go_enter Try.func64, Try.ntmps64
  go_wp2_with (first | ((with_reducible refine gate_callee (f := 81) rfl ?_); refine goesL_ (some 5) rfl rfl Try.func81 (by kernel_rfl) rfl #[.int .i32 (wrap32 (a0))] rfl (by (try simp only [List.map_toArray, List.map_cons, List.map_nil]); first | done | rfl | (simp only [List.length_drop, List.length_take]; rfl) | (simp [*] <;> rfl)) ?_; (with_reducible refine (names_Letter.calls (wrap32 (a0)) false _ A2.out).mono ?_); rintro e w' ⟨rfl, ⟨nd, rfl⟩⟩; refine ⟨_, rfl, ?_⟩) | (go_at_call 77; (with_reducible refine (names_Digit.calls (wrap32 (a0)) t112 _ A4.out).mono ?_); rintro e w' ⟨rfl, ⟨nd, rfl⟩⟩))
  go_ret
  exact ⟨by first | rfl | (simp; done) | (simp [*]; done), by repeat (first | exact Drawn0.refl _ | apply Drawn0.step)⟩

-- NOT PRINTED: function 83 (abi_NoEscape)

-- NOT PRINTED: function 75 (strings_Builder_copyCheck)

-- NOT PRINTED: function 54 (strings_Builder_WriteString)

-- NOT PRINTED: function 55 (strings_Builder_String)

-- NOT PRINTED: function 76 (utf_All)

-- NOT PRINTED: function 56 (utf_Runes)

-- NOT PRINTED: function 21 (charref_Refs)

/-- A state of type 53 at block g of W; what its slices lead to came in by w0. -/
def IsS53 (w0 W : World) (g : Nat) (f0 : Bool) (f1 : List Int) (f2 : Bool) (f3 : Bool) : Prop := ∃ A1 c1, W.heap[g]? = some (.cells #[.bool f0, .slice A1 f1.length c1, .bool f2, .bool f3] 53 (0, 0)) ∧ w0.heap.size ≤ g ∧ Kd.C (Kd.int .i32) w0 A1 f1.length f1
theorem IsS53.grown {w0 W : World} {g : Nat} {f0 : Bool} {f1 : List Int} {f2 : Bool} {f3 : Bool} {W1 : World} {row : Option Nat} (h : IsS53 w0 W g f0 f1 f2 f3) (hw : W.grownBy W1 row) (hne : some g ≠ row) : IsS53 w0 W1 g f0 f1 f2 f3 := by
 obtain ⟨A1, c1, hb, hg, hr1⟩ := h
 exact ⟨A1, c1, blk_grown hb hw hne, hg, hr1⟩
theorem IsS53.kept {w0 W : World} {g : Nat} {f0 : Bool} {f1 : List Int} {f2 : Bool} {f3 : Bool} {W1 : World} {S : Nat → Prop} (h : IsS53 w0 W g f0 f1 f2 f3) (hk : Kept W W1 S) (hne : ¬ S g) : IsS53 w0 W1 g f0 f1 f2 f3 := by
 obtain ⟨A1, c1, hb, hg, hr1⟩ := h
 exact ⟨A1, c1, blk_kept hb hk hne, hg, hr1⟩
theorem IsS53.below {w0 W : World} {g : Nat} {f0 : Bool} {f1 : List Int} {f2 : Bool} {f3 : Bool} {W1 : World} (h : IsS53 w0 W g f0 f1 f2 f3) (hw : Below W.heap.size W W1) : IsS53 w0 W1 g f0 f1 f2 f3 := h.grown (grown_of_below hw none) (by simp)
theorem IsS53.alloc {w0 W : World} {g : Nat} {f0 : Bool} {f1 : List Int} {f2 : Bool} {f3 : Bool} (h : IsS53 w0 W g f0 f1 f2 f3) (o : Obj) : IsS53 w0 (W.alloc o) g f0 f1 f2 f3 := h.below (below_alloc (Below.refl _ _) o)
theorem IsS53.drewN {w0 W : World} {g : Nat} {f0 : Bool} {f1 : List Int} {f2 : Bool} {f3 : Bool} (h : IsS53 w0 W g f0 f1 f2 f3) (m : Nat) : IsS53 w0 (W.drewN m) g f0 f1 f2 f3 := h
theorem IsS53.drew {w0 W : World} {g : Nat} {f0 : Bool} {f1 : List Int} {f2 : Bool} {f3 : Bool} (h : IsS53 w0 W g f0 f1 f2 f3) : IsS53 w0 W.drew g f0 f1 f2 f3 := h
theorem IsS53.at_ {w0 W : World} {g : Nat} {f0 : Bool} {f1 : List Int} {f2 : Bool} {f3 : Bool} {w' : World} {m : Nat} (hq : W.drewN m = w') (h : IsS53 w0 W g f0 f1 f2 f3) : IsS53 w0 w' g f0 f1 f2 f3 := by subst hq; exact IsS53.drewN h m
theorem IsS53.apart {w0 W : World} {g : Nat} {f0 : Bool} {f1 : List Int} {f2 : Bool} {f3 : Bool} {α : Type} {d : Kd α} {e : Nat} {base : Nat} {ok : Nat → Prop} {v : Value} {xs : List α} (h : IsS53 w0 W g f0 f1 f2 f3) (ho : d.R e W base ok v xs) (ht : ∀ q, q ∈ e :: d.E → q ≠ 53) : d.R e W base (fun k => ok k ∧ k ≠ g) v xs := by
 obtain ⟨A1, c1, hb, hg, hr1⟩ := h
 exact Kd.R_types ho hb ht
theorem IsS53.own_ne {w0 W : World} {g : Nat} {f0 : Bool} {f1 : List Int} {f2 : Bool} {f3 : Bool} {α : Type} {d : Kd α} {e : Nat} {base : Nat} {ok : Nat → Prop} {v : Value} {xs : List α} (h : IsS53 w0 W g f0 f1 f2 f3) (ho : d.R e W base ok v xs) (ht : e ≠ 53) : some g ≠ v.ownBlock := by
 obtain ⟨A1, c1, hb, hg, hr1⟩ := h
 exact Kd.R_ne ho hb ht
theorem IsS53.lt {w0 W : World} {g : Nat} {f0 : Bool} {f1 : List Int} {f2 : Bool} {f3 : Bool} (h : IsS53 w0 W g f0 f1 f2 f3) : g < W.heap.size := by
 obtain ⟨A1, c1, hb, hg, hr1⟩ := h
 exact blk_lt hb
-- NOT PRINTED: function 41 (charref_Decoder_is)

-- NOT PRINTED: function 59 (strings_Builder_WriteByte)

-- NOT PRINTED: function 25 (charref_Decoder_Held)

/-! ### utf_bounds: function 89 -/
mutual
def utf_bounds.j0 : Nat → Int → Bool → Option (Int × Int × Int)
 | 0, _, _ => none
 | k + 1, x0, x8 => if x8 = true then (some (1, 128, 191)) else (if x0 = 224 then (some (2, 160, 191)) else (if x0 = 237 then (some (2, 128, 159)) else (if x0 ≥ 225 then (utf_bounds.j1 k x0 (decide (x0 ≤ 239))) else (utf_bounds.j1 k x0 false))))
def utf_bounds.j1 : Nat → Int → Bool → Option (Int × Int × Int)
 | 0, _, _ => none
 | k + 1, x0, x21 => if x21 = true then (some (2, 128, 191)) else (if x0 = 240 then (some (3, 144, 191)) else (if x0 ≥ 241 then (utf_bounds.j2 k x0 (decide (x0 ≤ 243))) else (utf_bounds.j2 k x0 false)))
def utf_bounds.j2 : Nat → Int → Bool → Option (Int × Int × Int)
 | 0, _, _ => none
 | k + 1, x0, x31 => if x31 = true then (some (3, 128, 191)) else (if x0 = 244 then (some (3, 128, 143)) else (some ((-1), 0, 0)))
end
def utf_bounds.f (k : Nat) (a0 : Int) : Option (Int × Int × Int) := if a0 < 128 then (some (0, 0, 0)) else (if a0 ≥ 194 then (utf_bounds.j0 k a0 (decide (a0 ≤ 223))) else (utf_bounds.j0 k a0 false))
theorem utf_bounds.mono_l : ∀ k, (∀ y0 y1, LeO (utf_bounds.j0 k y0 y1) (utf_bounds.j0 (k + 1) y0 y1)) ∧ (∀ y0 y1, LeO (utf_bounds.j1 k y0 y1) (utf_bounds.j1 (k + 1) y0 y1)) ∧ (∀ y0 y1, LeO (utf_bounds.j2 k y0 y1) (utf_bounds.j2 (k + 1) y0 y1))
 | 0 => ⟨fun _ _ r h => by simp [utf_bounds.j0] at h, fun _ _ r h => by simp [utf_bounds.j1] at h, fun _ _ r h => by simp [utf_bounds.j2] at h⟩
 | k + 1 => by
  obtain ⟨ih0, ih1, ih2⟩ := utf_bounds.mono_l k
  refine ⟨?_, ?_, ?_⟩
  ·intro y0 y1
   unfold utf_bounds.j0
   repeat' first
   | (with_reducible exact ih0 _ _)
   | (with_reducible exact ih1 _ _)
   | (with_reducible exact ih2 _ _)
   | (with_reducible exact LeO.refl _)
   | (with_reducible exact LeO.none _)
   | (with_reducible refine LeO.ite ?_ ?_)
   | (with_reducible refine LeO.bind ?_ (fun _ => ?_))
   | exact ih0 _ _
   | exact ih1 _ _
   | exact ih2 _ _
   | exact LeO.none _
   | refine LeO.ite ?_ ?_
   | refine LeO.bind ?_ (fun _ => ?_)
  ·intro y0 y1
   unfold utf_bounds.j1
   repeat' first
   | (with_reducible exact ih0 _ _)
   | (with_reducible exact ih1 _ _)
   | (with_reducible exact ih2 _ _)
   | (with_reducible exact LeO.refl _)
   | (with_reducible exact LeO.none _)
   | (with_reducible refine LeO.ite ?_ ?_)
   | (with_reducible refine LeO.bind ?_ (fun _ => ?_))
   | exact ih0 _ _
   | exact ih1 _ _
   | exact ih2 _ _
   | exact LeO.none _
   | refine LeO.ite ?_ ?_
   | refine LeO.bind ?_ (fun _ => ?_)
  ·intro y0 y1
   unfold utf_bounds.j2
   repeat' first
   | (with_reducible exact ih0 _ _)
   | (with_reducible exact ih1 _ _)
   | (with_reducible exact ih2 _ _)
   | (with_reducible exact LeO.refl _)
   | (with_reducible exact LeO.none _)
   | (with_reducible refine LeO.ite ?_ ?_)
   | (with_reducible refine LeO.bind ?_ (fun _ => ?_))
   | exact ih0 _ _
   | exact ih1 _ _
   | exact ih2 _ _
   | exact LeO.none _
   | refine LeO.ite ?_ ?_
   | refine LeO.bind ?_ (fun _ => ?_)
theorem utf_bounds.mono : ∀ a0 k, LeO (utf_bounds.f k a0) (utf_bounds.f (k + 1) a0) := by
 intro a0 k
 obtain ⟨ih0, ih1, ih2⟩ := utf_bounds.mono_l k
 unfold utf_bounds.f
 repeat' first
   | (with_reducible exact ih0 _ _)
   | (with_reducible exact ih1 _ _)
   | (with_reducible exact ih2 _ _)
   | (with_reducible exact LeO.refl _)
   | (with_reducible exact LeO.none _)
   | (with_reducible refine LeO.ite ?_ ?_)
   | (with_reducible refine LeO.bind ?_ (fun _ => ?_))
   | exact ih0 _ _
   | exact ih1 _ _
   | exact ih2 _ _
   | exact LeO.none _
   | refine LeO.ite ?_ ?_
   | refine LeO.bind ?_ (fun _ => ?_)
set_option maxHeartbeats 8000000 in
set_option maxRecDepth 100000 in
theorem utf_bounds.calls (k : Nat) (a0 : Int) (r1 : Int) (r2 : Int) (r3 : Int) (w : World) (h : utf_bounds.f k a0 = some (r1, r2, r3)) :
  Calls Try.prog 89 #[.int .u8 a0] w fun e w' => e = .returned (.tuple #[.int .i64 r1, .int .u8 r2, .int .u8 r3]) ∧ Drawn0 w w' := by
 have H : (if a0 < 128 then (some (0, 0, 0)) else (if a0 ≥ 194 then (utf_bounds.j0 k a0 (decide (a0 ≤ 223))) else (utf_bounds.j0 k a0 false))) = some (r1, r2, r3) := h
 clear h
 by_cases c2 : a0 < 128
 ·rw [if_pos c2] at H
  have c2b0 : decide (a0 < 128) = true := decide_eq_true c2
  clear c2
  simp only [Option.some.injEq, Prod.mk.injEq] at H
  obtain ⟨rfl, rfl, rfl⟩ := H
  go_enter Try.func89, Try.ntmps89
  go_wp2
  go_ret3
  exact ⟨by first | rfl | (simp; done) | (simp [*]; done), by repeat (first | exact Drawn0.refl _ | apply Drawn0.step)⟩
 ·rw [if_neg c2] at H
  have c2b0 : decide (a0 < 128) = false := decide_eq_false c2
  clear c2
  have HC3 := Aside0.mk H
  clear H
  go_enter Try.func89, Try.ntmps89
  go_upto_region 3 with (fail)
  go_cut [8] (fun v8 wc => ∃ (kq : Nat) (x8_2 : Bool), v8 = .bool x8_2 ∧ Aside0 (utf_bounds.j0 kq a0 x8_2 = some (r1, r2, r3)) ∧ Aside0 (kq ≤ k) ∧ Drawn0 w wc)
  case first =>
   have H := HC3.out
   clear HC3
   by_cases c4 : a0 ≥ 194
   ·rw [if_pos c4] at H
    have c4b0 : decide (194 ≤ a0) = true := decide_eq_true c4
    clear c4
    (first | rw [c4b0] | (simp only [i64_w, i32_w]; rw [c4b0]) | skip)
    have H' := Aside0.mk H
    clear H
    go_wp2
    go_meet
    case rel => exact ⟨_, (decide (a0 ≤ 223)), (by first | rfl | (simp; done) | (simp [*]; done) | (unfold bt; split <;> first | rfl | (exfalso; simp_all; done) | (exfalso; simp_all; omega))), H', ⟨by first | omega | exact Nat.le_refl _⟩, by repeat (first | exact Drawn0.refl _ | apply Drawn0.step)⟩
   ·rw [if_neg c4] at H
    have c4b0 : decide (194 ≤ a0) = false := decide_eq_false c4
    clear c4
    (first | rw [c4b0] | (simp only [i64_w, i32_w]; rw [c4b0]) | skip)
    have H' := Aside0.mk H
    clear H
    go_wp2
    go_meet
    case rel => exact ⟨_, (false), (by first | rfl | (simp; done) | (simp [*]; done) | (unfold bt; split <;> first | rfl | (exfalso; simp_all; done) | (exfalso; simp_all; omega))), H', ⟨by first | omega | exact Nat.le_refl _⟩, by repeat (first | exact Drawn0.refl _ | apply Drawn0.step)⟩
  case rest =>
   clear HC3
   try clear c2
   try clear c2b0
   try clear p2
   try clear c4
   try clear c4b0
   obtain ⟨kq, x8_2, rfl, HA, HJ2, ⟨mc2, rfl⟩⟩ := hcut
   cases kq with
   | zero => exact absurd HA.out (by simp [utf_bounds.j0])
   | succ kj2 =>
    have H := HA.out
    clear HA
    simp only [utf_bounds.j0] at H
    by_cases c5 : x8_2 = true
    ·subst c5
     have H1 : (some (1, 128, 191)) = some (r1, r2, r3) := by rw [if_pos rfl] at H; exact H
     clear H
     have H := H1
     clear H1
     simp only [Option.some.injEq, Prod.mk.injEq] at H
     obtain ⟨rfl, rfl, rfl⟩ := H
     go_wp2
     go_ret3
     exact ⟨by first | rfl | (simp; done) | (simp [*]; done), by repeat (first | exact Drawn0.refl _ | apply Drawn0.step)⟩
    ·replace c5 := Bool.eq_false_iff.mpr c5
     subst c5
     have H1 : (if a0 = 224 then (some (2, 160, 191)) else (if a0 = 237 then (some (2, 128, 159)) else (if a0 ≥ 225 then (utf_bounds.j1 kj2 a0 (decide (a0 ≤ 239))) else (utf_bounds.j1 kj2 a0 false)))) = some (r1, r2, r3) := by rw [if_neg (show ¬ (false = true) by decide)] at H; exact H
     clear H
     have H := H1
     clear H1
     by_cases c6 : a0 = 224
     ·rw [if_pos c6] at H
      have c6b0 : (a0 == 224) = true := beq_iff_eq.mpr c6
      have c6b1 : (a0 != 224) = false := bne_eq_false_iff_eq.mpr c6
      clear c6
      simp only [Option.some.injEq, Prod.mk.injEq] at H
      obtain ⟨rfl, rfl, rfl⟩ := H
      go_wp2
      go_ret3
      exact ⟨by first | rfl | (simp; done) | (simp [*]; done), by repeat (first | exact Drawn0.refl _ | apply Drawn0.step)⟩
     ·rw [if_neg c6] at H
      have c6b0 : (a0 == 224) = false := beq_eq_false_iff_ne.mpr c6
      have c6b1 : (a0 != 224) = true := bne_iff_ne.mpr c6
      by_cases c7 : a0 = 237
      ·rw [if_pos c7] at H
       have c7b0 : (a0 == 237) = true := beq_iff_eq.mpr c7
       have c7b1 : (a0 != 237) = false := bne_eq_false_iff_eq.mpr c7
       clear c7
       simp only [Option.some.injEq, Prod.mk.injEq] at H
       obtain ⟨rfl, rfl, rfl⟩ := H
       go_wp2
       go_ret3
       exact ⟨by first | rfl | (simp; done) | (simp [*]; done), by repeat (first | exact Drawn0.refl _ | apply Drawn0.step)⟩
      ·rw [if_neg c7] at H
       have c7b0 : (a0 == 237) = false := beq_eq_false_iff_ne.mpr c7
       have c7b1 : (a0 != 237) = true := bne_iff_ne.mpr c7
       have HC8 := Aside0.mk H
       clear H
       go_upto_region 9 with (fail)
       go_cut [21] (fun v21 wc => ∃ (kq : Nat) (x21_7 : Bool), v21 = .bool x21_7 ∧ Aside0 (utf_bounds.j1 kq a0 x21_7 = some (r1, r2, r3)) ∧ Aside0 (kq ≤ kj2) ∧ Drawn0 w wc)
       case first =>
        have H := HC8.out
        clear HC8
        by_cases c9 : a0 ≥ 225
        ·rw [if_pos c9] at H
         have c9b0 : decide (225 ≤ a0) = true := decide_eq_true c9
         clear c9
         (first | rw [c9b0] | (simp only [i64_w, i32_w]; rw [c9b0]) | skip)
         have H' := Aside0.mk H
         clear H
         go_wp2
         go_meet
         case rel => exact ⟨_, (decide (a0 ≤ 239)), (by first | rfl | (simp; done) | (simp [*]; done) | (unfold bt; split <;> first | rfl | (exfalso; simp_all; done) | (exfalso; simp_all; omega))), H', ⟨by have := HJ2.out; first | omega | exact Nat.le_refl _⟩, by repeat (first | exact Drawn0.refl _ | apply Drawn0.step)⟩
        ·rw [if_neg c9] at H
         have c9b0 : decide (225 ≤ a0) = false := decide_eq_false c9
         clear c9
         (first | rw [c9b0] | (simp only [i64_w, i32_w]; rw [c9b0]) | skip)
         have H' := Aside0.mk H
         clear H
         go_wp2
         go_meet
         case rel => exact ⟨_, (false), (by first | rfl | (simp; done) | (simp [*]; done) | (unfold bt; split <;> first | rfl | (exfalso; simp_all; done) | (exfalso; simp_all; omega))), H', ⟨by have := HJ2.out; first | omega | exact Nat.le_refl _⟩, by repeat (first | exact Drawn0.refl _ | apply Drawn0.step)⟩
       case rest =>
        clear HC8
        try clear c2
        try clear c2b0
        try clear p2
        try clear c4
        try clear c4b0
        try clear c5
        try clear c6
        try clear c6b0
        try clear c6b1
        try clear c7
        try clear c7b0
        try clear c7b1
        try clear c8
        try clear c9
        try clear c9b0
        try clear p2
        obtain ⟨kq, x21_7, rfl, HA, HJ7, ⟨mc7, rfl⟩⟩ := hcut
        cases kq with
        | zero => exact absurd HA.out (by simp [utf_bounds.j1])
        | succ kj7 =>
         have H := HA.out
         clear HA
         simp only [utf_bounds.j1] at H
         by_cases c10 : x21_7 = true
         ·subst c10
          have H1 : (some (2, 128, 191)) = some (r1, r2, r3) := by rw [if_pos rfl] at H; exact H
          clear H
          have H := H1
          clear H1
          simp only [Option.some.injEq, Prod.mk.injEq] at H
          obtain ⟨rfl, rfl, rfl⟩ := H
          go_wp2
          go_ret3
          exact ⟨by first | rfl | (simp; done) | (simp [*]; done), by repeat (first | exact Drawn0.refl _ | apply Drawn0.step)⟩
         ·replace c10 := Bool.eq_false_iff.mpr c10
          subst c10
          have H1 : (if a0 = 240 then (some (3, 144, 191)) else (if a0 ≥ 241 then (utf_bounds.j2 kj7 a0 (decide (a0 ≤ 243))) else (utf_bounds.j2 kj7 a0 false))) = some (r1, r2, r3) := by rw [if_neg (show ¬ (false = true) by decide)] at H; exact H
          clear H
          have H := H1
          clear H1
          by_cases c11 : a0 = 240
          ·rw [if_pos c11] at H
           have c11b0 : (a0 == 240) = true := beq_iff_eq.mpr c11
           have c11b1 : (a0 != 240) = false := bne_eq_false_iff_eq.mpr c11
           clear c11
           simp only [Option.some.injEq, Prod.mk.injEq] at H
           obtain ⟨rfl, rfl, rfl⟩ := H
           go_wp2
           go_ret3
           exact ⟨by first | rfl | (simp; done) | (simp [*]; done), by repeat (first | exact Drawn0.refl _ | apply Drawn0.step)⟩
          ·rw [if_neg c11] at H
           have c11b0 : (a0 == 240) = false := beq_eq_false_iff_ne.mpr c11
           have c11b1 : (a0 != 240) = true := bne_iff_ne.mpr c11
           have HC12 := Aside0.mk H
           clear H
           go_upto_region 13 with (fail)
           go_cut [31] (fun v31 wc => ∃ (kq : Nat) (x31_11 : Bool), v31 = .bool x31_11 ∧ Aside0 (utf_bounds.j2 kq a0 x31_11 = some (r1, r2, r3)) ∧ Aside0 (kq ≤ kj7) ∧ Drawn0 w wc)
           case first =>
            have H := HC12.out
            clear HC12
            by_cases c13 : a0 ≥ 241
            ·rw [if_pos c13] at H
             have c13b0 : decide (241 ≤ a0) = true := decide_eq_true c13
             clear c13
             (first | rw [c13b0] | (simp only [i64_w, i32_w]; rw [c13b0]) | skip)
             have H' := Aside0.mk H
             clear H
             go_wp2
             go_meet
             case rel => exact ⟨_, (decide (a0 ≤ 243)), (by first | rfl | (simp; done) | (simp [*]; done) | (unfold bt; split <;> first | rfl | (exfalso; simp_all; done) | (exfalso; simp_all; omega))), H', ⟨by have := HJ2.out; have := HJ7.out; first | omega | exact Nat.le_refl _⟩, by repeat (first | exact Drawn0.refl _ | apply Drawn0.step)⟩
            ·rw [if_neg c13] at H
             have c13b0 : decide (241 ≤ a0) = false := decide_eq_false c13
             clear c13
             (first | rw [c13b0] | (simp only [i64_w, i32_w]; rw [c13b0]) | skip)
             have H' := Aside0.mk H
             clear H
             go_wp2
             go_meet
             case rel => exact ⟨_, (false), (by first | rfl | (simp; done) | (simp [*]; done) | (unfold bt; split <;> first | rfl | (exfalso; simp_all; done) | (exfalso; simp_all; omega))), H', ⟨by have := HJ2.out; have := HJ7.out; first | omega | exact Nat.le_refl _⟩, by repeat (first | exact Drawn0.refl _ | apply Drawn0.step)⟩
           case rest =>
            clear HC12
            try clear c1
            try clear c2
            try clear c2b0
            try clear p2
            try clear c4
            try clear c4b0
            try clear c5
            try clear c6
            try clear c6b0
            try clear c6b1
            try clear c7
            try clear c7b0
            try clear c7b1
            try clear c8
            try clear c9
            try clear c9b0
            try clear c10
            try clear c11
            try clear c11b0
            try clear c11b1
            try clear c13
            try clear c13b0
            try clear p2
            obtain ⟨kq, x31_11, rfl, HA, HJ11, ⟨mc11, rfl⟩⟩ := hcut
            cases kq with
            | zero => exact absurd HA.out (by simp [utf_bounds.j2])
            | succ kj11 =>
             have H := HA.out
             clear HA
             simp only [utf_bounds.j2] at H
             by_cases c14 : x31_11 = true
             ·subst c14
              have H1 : (some (3, 128, 191)) = some (r1, r2, r3) := by rw [if_pos rfl] at H; exact H
              clear H
              have H := H1
              clear H1
              simp only [Option.some.injEq, Prod.mk.injEq] at H
              obtain ⟨rfl, rfl, rfl⟩ := H
              go_wp2
              go_ret3
              exact ⟨by first | rfl | (simp; done) | (simp [*]; done), by repeat (first | exact Drawn0.refl _ | apply Drawn0.step)⟩
             ·replace c14 := Bool.eq_false_iff.mpr c14
              subst c14
              have H1 : (if a0 = 244 then (some (3, 128, 143)) else (some ((-1), 0, 0))) = some (r1, r2, r3) := by rw [if_neg (show ¬ (false = true) by decide)] at H; exact H
              clear H
              have H := H1
              clear H1
              by_cases c15 : a0 = 244
              ·rw [if_pos c15] at H
               have c15b0 : (a0 == 244) = true := beq_iff_eq.mpr c15
               have c15b1 : (a0 != 244) = false := bne_eq_false_iff_eq.mpr c15
               clear c15
               simp only [Option.some.injEq, Prod.mk.injEq] at H
               obtain ⟨rfl, rfl, rfl⟩ := H
               go_wp2
               go_ret3
               exact ⟨by first | rfl | (simp; done) | (simp [*]; done), by repeat (first | exact Drawn0.refl _ | apply Drawn0.step)⟩
              ·rw [if_neg c15] at H
               have c15b0 : (a0 == 244) = false := beq_eq_false_iff_ne.mpr c15
               have c15b1 : (a0 != 244) = true := bne_iff_ne.mpr c15
               simp only [Option.some.injEq, Prod.mk.injEq] at H
               obtain ⟨rfl, rfl, rfl⟩ := H
               go_wp2
               go_ret3
               exact ⟨by first | rfl | (simp; done) | (simp [*]; done), by repeat (first | exact Drawn0.refl _ | apply Drawn0.step)⟩

/-! ### utf_read: function 85 -/
def utf_read.l0 : Nat → List Int → Int → Int → Int → Int → Int → Option (Int × Int × Int)
 | 0, _, _, _, _, _, _ => none
 | k + 1, x0, x5, x6, x7, x8, x9 => if x9 ≤ x5 then (if x9 = (x0.length : Int) then (some (65533, x9, 2)) else (if 0 ≤ x9 then (if x9 < (x0.length : Int) then (if (rd x0 x9) < x6 then (some (65533, x9, 1)) else (if (rd x0 x9) > x7 then (some (65533, x9, 1)) else (utf_read.l0 k x0 x5 128 191 (Go.bits .or .i32 (wrap32 (x8 * 64)) (wrap32 (Go.bits .and .u8 (rd x0 x9) 63))) (wrap64 (x9 + 1))))) else (none)) else (none))) else (some (x8, wrap64 (x5 + 1), 0))
def utf_read.f (k : Nat) (l0 : List Int) : Option (Int × Int × Int) := if 0 < (l0.length : Int) then ((utf_bounds.f k (rd l0 0)).bind fun bt115 => (if bt115.1 < 0 then (some (65533, 1, 1)) else (if bt115.1 = 0 then (some (wrap32 (rd l0 0), 1, 0)) else (if 0 ≤ bt115.1 then (utf_read.l0 k l0 bt115.1 bt115.2.1 bt115.2.2 (Go.bits .and .i32 (wrap32 (rd l0 0)) (shr .i32 63 bt115.1)) 1) else (none))))) else (none)
theorem utf_read.mono_l : ∀ k, (∀ y0 y1 y2 y3 y4 y5, LeO (utf_read.l0 k y0 y1 y2 y3 y4 y5) (utf_read.l0 (k + 1) y0 y1 y2 y3 y4 y5))
 | 0 => fun _ _ _ _ _ _ r h => by simp [utf_read.l0] at h
 | k + 1 => by
  have ih0 := utf_read.mono_l k
  ·intro y0 y1 y2 y3 y4 y5
   unfold utf_read.l0
   repeat' first
   | (with_reducible exact ih0 _ _ _ _ _ _)
   | (with_reducible exact utf_bounds.mono _ _)
   | (with_reducible exact LeO.refl _)
   | (with_reducible exact LeO.none _)
   | (with_reducible refine LeO.ite ?_ ?_)
   | (with_reducible refine LeO.bind ?_ (fun _ => ?_))
   | exact ih0 _ _ _ _ _ _
   | exact utf_bounds.mono _ _
   | exact LeO.none _
   | refine LeO.ite ?_ ?_
   | refine LeO.bind ?_ (fun _ => ?_)
theorem utf_read.mono : ∀ a0 k, LeO (utf_read.f k a0) (utf_read.f (k + 1) a0) := by
 intro a0 k
 have ih0 := utf_read.mono_l k
 unfold utf_read.f
 repeat' first
   | (with_reducible exact ih0 _ _ _ _ _ _)
   | (with_reducible exact utf_bounds.mono _ _)
   | (with_reducible exact LeO.refl _)
   | (with_reducible exact LeO.none _)
   | (with_reducible refine LeO.ite ?_ ?_)
   | (with_reducible refine LeO.bind ?_ (fun _ => ?_))
   | exact ih0 _ _ _ _ _ _
   | exact utf_bounds.mono _ _
   | exact LeO.none _
   | refine LeO.ite ?_ ?_
   | refine LeO.bind ?_ (fun _ => ?_)
set_option maxHeartbeats 8000000 in
set_option maxRecDepth 100000 in
theorem utf_read.calls (k : Nat) (A0 : Option Addr) (c0 : Nat) (l0 : List Int) (r1 : Int) (r2 : Int) (r3 : Int) (w : World) (hr0 : Kd.C (Kd.int .u8) w A0 l0.length l0) (hc0 : l0.length ≤ c0) (h : utf_read.f k l0 = some (r1, r2, r3)) :
  Calls Try.prog 85 #[.slice A0 l0.length c0] w fun e w' => e = .returned (.tuple #[.int .i32 r1, .int .i64 r2, .int .i64 r3]) ∧ Drawn0 w w' := by
 have HR0 := Aside0.mk hr0
 have HC0 := Aside0.mk hc0
 clear hr0 hc0
 have H : (if 0 < (l0.length : Int) then ((utf_bounds.f k (rd l0 0)).bind fun bt115 => (if bt115.1 < 0 then (some (65533, 1, 1)) else (if bt115.1 = 0 then (some (wrap32 (rd l0 0), 1, 0)) else (if 0 ≤ bt115.1 then (utf_read.l0 k l0 bt115.1 bt115.2.1 bt115.2.2 (Go.bits .and .i32 (wrap32 (rd l0 0)) (shr .i32 63 bt115.1)) 1) else (none))))) else (none)) = some (r1, r2, r3) := h
 clear h
 by_cases c2 : 0 < (l0.length : Int)
 ·rw [if_pos c2] at H
  have c2b0 : decide (0 < (l0.length : Int)) = true := decide_eq_true c2
  have c2b1 : decide (0 < l0.length) = true := decide_eq_true (by omega)
  clear c2
  replace H := Option.bind_eq_some_iff.mp H
  obtain ⟨⟨t115, t116, t117⟩, A30, H⟩ := H
  replace H : (if t115 < 0 then (some (65533, 1, 1)) else (if t115 = 0 then (some (wrap32 (rd l0 0), 1, 0)) else (if 0 ≤ t115 then (utf_read.l0 k l0 t115 t116 t117 (Go.bits .and .i32 (wrap32 (rd l0 0)) (shr .i32 63 t115)) 1) else (none)))) = some (r1, r2, r3) := H
  have A3 := Aside0.mk A30
  clear A30
  by_cases c4 : t115 < 0
  ·rw [if_pos c4] at H
   have c4b0 : decide (t115 < 0) = true := decide_eq_true c4
   clear c4
   simp only [Option.some.injEq, Prod.mk.injEq] at H
   obtain ⟨rfl, rfl, rfl⟩ := H
   have p114 : 0 ≤ (0 : Int) := (by omega)
   have q114 : 0 < (l0.length : Int) := of_decide_eq_true (by first | (with_reducible assumption) | assumption)
   obtain ⟨ad114, e114, hx114_0⟩ := Kd.at_int HR0.out 0 p114 q114
   cases e114
   have qi114 : (0 < l0.length) = True := eq_true (by omega)
   (try rw [show ((0 : Int)).toNat = 0 from rfl] at hx114_0)
   (try rw [Addr.add_zero'] at hx114_0)
   replace p114 := eq_true p114
   replace q114 := eq_true q114
   go_enter Try.func85, Try.ntmps85
   go_wp2_with (first | (go_at_call 89; (with_reducible refine (utf_bounds.calls k (rd l0 0) t115 t116 t117 _ A3.out).mono ?_); rintro e w' ⟨rfl, ⟨nd, rfl⟩⟩; (try first | exact ⟨rfl, _, World.drewN_drewN _ _ _⟩ | exact ⟨rfl, _, Eq.trans (World.drewN_drewN _ _ _) (congrArg (World.drewN _) (Nat.add_assoc _ _ _))⟩)))
   repeat (go_quiet (first | (go_at_call 89; (with_reducible refine (utf_bounds.calls k (rd l0 0) t115 t116 t117 _ A3.out).mono ?_); rintro e w' ⟨rfl, ⟨nd, rfl⟩⟩; (try first | exact ⟨rfl, _, World.drewN_drewN _ _ _⟩ | exact ⟨rfl, _, Eq.trans (World.drewN_drewN _ _ _) (congrArg (World.drewN _) (Nat.add_assoc _ _ _))⟩))); try go_wp2_with (first | (go_at_call 89; (with_reducible refine (utf_bounds.calls k (rd l0 0) t115 t116 t117 _ A3.out).mono ?_); rintro e w' ⟨rfl, ⟨nd, rfl⟩⟩; (try first | exact ⟨rfl, _, World.drewN_drewN _ _ _⟩ | exact ⟨rfl, _, Eq.trans (World.drewN_drewN _ _ _) (congrArg (World.drewN _) (Nat.add_assoc _ _ _))⟩))))
   go_ret3
   exact ⟨by first | rfl | (simp; done) | (simp [*]; done), by repeat (first | exact Drawn0.refl _ | apply Drawn0.step)⟩
  ·rw [if_neg c4] at H
   have c4b0 : decide (t115 < 0) = false := decide_eq_false c4
   clear c4
   by_cases c5 : t115 = 0
   ·rw [if_pos c5] at H
    have c5b0 : (t115 == 0) = true := beq_iff_eq.mpr c5
    have c5b1 : (t115 != 0) = false := bne_eq_false_iff_eq.mpr c5
    clear c5
    simp only [Option.some.injEq, Prod.mk.injEq] at H
    obtain ⟨rfl, rfl, rfl⟩ := H
    have p114 : 0 ≤ (0 : Int) := (by omega)
    have q114 : 0 < (l0.length : Int) := of_decide_eq_true (by first | (with_reducible assumption) | assumption)
    obtain ⟨ad114, e114, hx114_0⟩ := Kd.at_int HR0.out 0 p114 q114
    cases e114
    have qi114 : (0 < l0.length) = True := eq_true (by omega)
    (try rw [show ((0 : Int)).toNat = 0 from rfl] at hx114_0)
    (try rw [Addr.add_zero'] at hx114_0)
    replace p114 := eq_true p114
    replace q114 := eq_true q114
    go_enter Try.func85, Try.ntmps85
    go_wp2_with (first | (go_at_call 89; (with_reducible refine (utf_bounds.calls k (rd l0 0) t115 t116 t117 _ A3.out).mono ?_); rintro e w' ⟨rfl, ⟨nd, rfl⟩⟩; (try first | exact ⟨rfl, _, World.drewN_drewN _ _ _⟩ | exact ⟨rfl, _, Eq.trans (World.drewN_drewN _ _ _) (congrArg (World.drewN _) (Nat.add_assoc _ _ _))⟩); have p118 : 0 ≤ (0 : Int) := (by omega); have q118 : 0 < (l0.length : Int) := of_decide_eq_true (by first | (with_reducible assumption) | assumption); obtain ⟨ad118, e118, hx118_0⟩ := Kd.at_int HR0.out 0 p118 q118; obtain rfl : ad114 = ad118 := (by injection e118); have qi118 : (0 < l0.length) = True := eq_true (by omega); (try rw [show ((0 : Int)).toNat = 0 from rfl] at hx118_0); (try rw [Addr.add_zero'] at hx118_0); replace p118 := eq_true p118; replace q118 := eq_true q118))
    repeat (go_quiet (first | (go_at_call 89; (with_reducible refine (utf_bounds.calls k (rd l0 0) t115 t116 t117 _ A3.out).mono ?_); rintro e w' ⟨rfl, ⟨nd, rfl⟩⟩; (try first | exact ⟨rfl, _, World.drewN_drewN _ _ _⟩ | exact ⟨rfl, _, Eq.trans (World.drewN_drewN _ _ _) (congrArg (World.drewN _) (Nat.add_assoc _ _ _))⟩); have p118 : 0 ≤ (0 : Int) := (by omega); have q118 : 0 < (l0.length : Int) := of_decide_eq_true (by first | (with_reducible assumption) | assumption); obtain ⟨ad118, e118, hx118_0⟩ := Kd.at_int HR0.out 0 p118 q118; obtain rfl : ad114 = ad118 := (by injection e118); have qi118 : (0 < l0.length) = True := eq_true (by omega); (try rw [show ((0 : Int)).toNat = 0 from rfl] at hx118_0); (try rw [Addr.add_zero'] at hx118_0); replace p118 := eq_true p118; replace q118 := eq_true q118)); try go_wp2_with (first | (go_at_call 89; (with_reducible refine (utf_bounds.calls k (rd l0 0) t115 t116 t117 _ A3.out).mono ?_); rintro e w' ⟨rfl, ⟨nd, rfl⟩⟩; (try first | exact ⟨rfl, _, World.drewN_drewN _ _ _⟩ | exact ⟨rfl, _, Eq.trans (World.drewN_drewN _ _ _) (congrArg (World.drewN _) (Nat.add_assoc _ _ _))⟩); have p118 : 0 ≤ (0 : Int) := (by omega); have q118 : 0 < (l0.length : Int) := of_decide_eq_true (by first | (with_reducible assumption) | assumption); obtain ⟨ad118, e118, hx118_0⟩ := Kd.at_int HR0.out 0 p118 q118; obtain rfl : ad114 = ad118 := (by injection e118); have qi118 : (0 < l0.length) = True := eq_true (by omega); (try rw [show ((0 : Int)).toNat = 0 from rfl] at hx118_0); (try rw [Addr.add_zero'] at hx118_0); replace p118 := eq_true p118; replace q118 := eq_true q118)))
    go_ret3
    exact ⟨by first | rfl | (simp; done) | (simp [*]; done), by repeat (first | exact Drawn0.refl _ | apply Drawn0.step)⟩
   ·rw [if_neg c5] at H
    have c5b0 : (t115 == 0) = false := beq_eq_false_iff_ne.mpr c5
    have c5b1 : (t115 != 0) = true := bne_iff_ne.mpr c5
    by_cases c6 : 0 ≤ t115
    ·rw [if_pos c6] at H
     have c6b0 := eq_true c6
     have c6b1 : decide (0 ≤ t115) = true := decide_eq_true c6
     clear c6
     obtain ⟨ji7, hji7⟩ : ∃ j_ : Int, (shr .i32 63 t115) = j_ := ⟨_, rfl⟩
     replace H : (utf_read.l0 k l0 t115 t116 t117 (Go.bits .and .i32 (wrap32 (rd l0 0)) (ji7)) 1) = some (r1, r2, r3) := by first | (rw [hji7] at H; exact H) | (simp only [hji7] at H ⊢; exact H)
     (try rw [hji7] at A3)
     have hji7_ : (63 / 2 ^ min t115.toNat 32) = ji7 := hji7
     have hji7z : t115 ≤ 32 → (63 / 2 ^ t115.toNat) = ji7 := shr_small hji7
     have H' := Aside0.mk H
     clear H
     have p114 : 0 ≤ (0 : Int) := (by omega)
     have q114 : 0 < (l0.length : Int) := of_decide_eq_true (by first | (with_reducible assumption) | assumption)
     obtain ⟨ad114, e114, hx114_0⟩ := Kd.at_int HR0.out 0 p114 q114
     cases e114
     have qi114 : (0 < l0.length) = True := eq_true (by omega)
     (try rw [show ((0 : Int)).toNat = 0 from rfl] at hx114_0)
     (try rw [Addr.add_zero'] at hx114_0)
     replace p114 := eq_true p114
     replace q114 := eq_true q114
     go_enter Try.func85, Try.ntmps85
     go_wp2_with (first | (go_at_call 89; (with_reducible refine (utf_bounds.calls k (rd l0 0) t115 t116 t117 _ A3.out).mono ?_); rintro e w' ⟨rfl, ⟨nd, rfl⟩⟩; (try first | exact ⟨rfl, _, World.drewN_drewN _ _ _⟩ | exact ⟨rfl, _, Eq.trans (World.drewN_drewN _ _ _) (congrArg (World.drewN _) (Nat.add_assoc _ _ _))⟩); have p119 : 0 ≤ (0 : Int) := (by omega); have q119 : 0 < (l0.length : Int) := of_decide_eq_true (by first | (with_reducible assumption) | assumption); obtain ⟨ad119, e119, hx119_0⟩ := Kd.at_int HR0.out 0 p119 q119; obtain rfl : ad114 = ad119 := (by injection e119); have qi119 : (0 < l0.length) = True := eq_true (by omega); (try rw [show ((0 : Int)).toNat = 0 from rfl] at hx119_0); (try rw [Addr.add_zero'] at hx119_0); replace p119 := eq_true p119; replace q119 := eq_true q119))
     repeat (go_quiet (first | (go_at_call 89; (with_reducible refine (utf_bounds.calls k (rd l0 0) t115 t116 t117 _ A3.out).mono ?_); rintro e w' ⟨rfl, ⟨nd, rfl⟩⟩; (try first | exact ⟨rfl, _, World.drewN_drewN _ _ _⟩ | exact ⟨rfl, _, Eq.trans (World.drewN_drewN _ _ _) (congrArg (World.drewN _) (Nat.add_assoc _ _ _))⟩); have p119 : 0 ≤ (0 : Int) := (by omega); have q119 : 0 < (l0.length : Int) := of_decide_eq_true (by first | (with_reducible assumption) | assumption); obtain ⟨ad119, e119, hx119_0⟩ := Kd.at_int HR0.out 0 p119 q119; obtain rfl : ad114 = ad119 := (by injection e119); have qi119 : (0 < l0.length) = True := eq_true (by omega); (try rw [show ((0 : Int)).toNat = 0 from rfl] at hx119_0); (try rw [Addr.add_zero'] at hx119_0); replace p119 := eq_true p119; replace q119 := eq_true q119)); try go_wp2_with (first | (go_at_call 89; (with_reducible refine (utf_bounds.calls k (rd l0 0) t115 t116 t117 _ A3.out).mono ?_); rintro e w' ⟨rfl, ⟨nd, rfl⟩⟩; (try first | exact ⟨rfl, _, World.drewN_drewN _ _ _⟩ | exact ⟨rfl, _, Eq.trans (World.drewN_drewN _ _ _) (congrArg (World.drewN _) (Nat.add_assoc _ _ _))⟩); have p119 : 0 ≤ (0 : Int) := (by omega); have q119 : 0 < (l0.length : Int) := of_decide_eq_true (by first | (with_reducible assumption) | assumption); obtain ⟨ad119, e119, hx119_0⟩ := Kd.at_int HR0.out 0 p119 q119; obtain rfl : ad114 = ad119 := (by injection e119); have qi119 : (0 < l0.length) = True := eq_true (by omega); (try rw [show ((0 : Int)).toNat = 0 from rfl] at hx119_0); (try rw [Addr.add_zero'] at hx119_0); replace p119 := eq_true p119; replace q119 := eq_true q119)))
     go_loopg [6, 7, 8, 9] k (fun kq v6 v7 v8 v9 w' => ∃ (x6_1 : Int) (x7_1 : Int) (x8_1 : Int) (x9_1 : Int), v6 = .int .u8 x6_1 ∧ v7 = .int .u8 x7_1 ∧ v8 = .int .i32 x8_1 ∧ v9 = .int .i64 x9_1 ∧ Aside0 (utf_read.l0 kq l0 t115 x6_1 x7_1 x8_1 x9_1 = some (r1, r2, r3)) ∧ Aside0 (kq ≤ k) ∧ Drawn0 w w')
     case atStart => exact ⟨(t116), (t117), (Go.bits .and .i32 (wrap32 (rd l0 0)) (ji7)), (1), (by first | rfl | (simp; done) | (simp [*]; done) | (unfold bt; split <;> first | rfl | (exfalso; simp_all; done) | (exfalso; simp_all; omega))), (by first | rfl | (simp; done) | (simp [*]; done) | (unfold bt; split <;> first | rfl | (exfalso; simp_all; done) | (exfalso; simp_all; omega))), (by first | rfl | (simp; done) | (simp only [← hji7] <;> (first | rfl | simp)) | (simp [*]; done)), (by first | rfl | (simp; done) | (simp [*]; done) | (unfold bt; split <;> first | rfl | (exfalso; simp_all; done) | (exfalso; simp_all; omega))), H', ⟨Nat.le_refl _⟩, by repeat (first | exact Drawn0.refl _ | apply Drawn0.step)⟩
     case round =>
      clear H'
      try clear p1
      try clear q1
      try clear hx1
      try clear qi1
      try clear c2
      try clear c2b0
      try clear c2b1
      try clear p2
      try clear p3
      try clear c4
      try clear c4b0
      try clear c5
      try clear c5b0
      try clear c5b1
      try clear c6
      try clear c6b0
      try clear c6b1
      try clear hx114_0
      try clear hx118_0
      try clear hx119_0
      try clear p114
      try clear p118
      try clear p119
      try clear q114
      try clear q118
      try clear q119
      obtain ⟨x6_1, x7_1, x8_1, x9_1, rfl, rfl, rfl, rfl, HA, HK1, ⟨m1, rfl⟩⟩ := hrel
      cases gk with
      | zero => exact absurd HA.out (by simp [utf_read.l0])
      | succ k1 =>
       have H := HA.out
       clear HA
       simp only [utf_read.l0] at H
       by_cases c8 : x9_1 ≤ t115
       ·rw [if_pos c8] at H
        have c8b0 : decide (x9_1 ≤ t115) = true := decide_eq_true c8
        clear c8
        by_cases c9 : x9_1 = (l0.length : Int)
        ·rw [if_pos c9] at H
         have c9b0 : (x9_1 == (l0.length : Int)) = true := beq_iff_eq.mpr c9
         have c9b1 : (x9_1 != (l0.length : Int)) = false := bne_eq_false_iff_eq.mpr c9
         clear c9
         simp only [Option.some.injEq, Prod.mk.injEq] at H
         obtain ⟨rfl, rfl, rfl⟩ := H
         go_wp2
         repeat (go_quiet (fail); try go_wp2)
         go_ret3
         exact ⟨by first | rfl | (simp; done) | (simp only [← hji7] <;> (first | rfl | simp)) | (simp [*]; done), by repeat (first | exact Drawn0.refl _ | apply Drawn0.step)⟩
        ·rw [if_neg c9] at H
         have c9b0 : (x9_1 == (l0.length : Int)) = false := beq_eq_false_iff_ne.mpr c9
         have c9b1 : (x9_1 != (l0.length : Int)) = true := bne_iff_ne.mpr c9
         by_cases c10 : 0 ≤ x9_1
         ·rw [if_pos c10] at H
          have c10b0 : decide (0 ≤ x9_1) = true := decide_eq_true c10
          clear c10
          by_cases c11 : x9_1 < (l0.length : Int)
          ·rw [if_pos c11] at H
           have c11b0 : decide (x9_1 < (l0.length : Int)) = true := decide_eq_true c11
           clear c11
           by_cases c12 : (rd l0 x9_1) < x6_1
           ·rw [if_pos c12] at H
            have c12b0 : decide ((rd l0 x9_1) < x6_1) = true := decide_eq_true c12
            clear c12
            simp only [Option.some.injEq, Prod.mk.injEq] at H
            obtain ⟨rfl, rfl, rfl⟩ := H
            have p120 : 0 ≤ (x9_1 : Int) := of_decide_eq_true (by first | (with_reducible assumption) | assumption)
            have q120 : x9_1 < (l0.length : Int) := of_decide_eq_true (by first | (with_reducible assumption) | assumption)
            obtain ⟨ad120, e120, hx120_0⟩ := Kd.at_int HR0.out x9_1 p120 q120
            obtain rfl : ad114 = ad120 := (by injection e120)
            replace p120 := eq_true p120
            replace q120 := eq_true q120
            go_wp2
            repeat (go_quiet (fail); try go_wp2)
            go_ret3
            exact ⟨by first | rfl | (simp; done) | (simp only [← hji7] <;> (first | rfl | simp)) | (simp [*]; done), by repeat (first | exact Drawn0.refl _ | apply Drawn0.step)⟩
           ·rw [if_neg c12] at H
            have c12b0 : decide ((rd l0 x9_1) < x6_1) = false := decide_eq_false c12
            clear c12
            by_cases c13 : (rd l0 x9_1) > x7_1
            ·rw [if_pos c13] at H
             have c13b0 : decide (x7_1 < (rd l0 x9_1)) = true := decide_eq_true c13
             clear c13
             simp only [Option.some.injEq, Prod.mk.injEq] at H
             obtain ⟨rfl, rfl, rfl⟩ := H
             have p120 : 0 ≤ (x9_1 : Int) := of_decide_eq_true (by first | (with_reducible assumption) | assumption)
             have q120 : x9_1 < (l0.length : Int) := of_decide_eq_true (by first | (with_reducible assumption) | assumption)
             obtain ⟨ad120, e120, hx120_0⟩ := Kd.at_int HR0.out x9_1 p120 q120
             obtain rfl : ad114 = ad120 := (by injection e120)
             replace p120 := eq_true p120
             replace q120 := eq_true q120
             have p121 : 0 ≤ (x9_1 : Int) := of_decide_eq_true (by first | (with_reducible assumption) | assumption)
             have q121 : x9_1 < (l0.length : Int) := of_decide_eq_true (by first | (with_reducible assumption) | assumption)
             obtain ⟨ad121, e121, hx121_0⟩ := Kd.at_int HR0.out x9_1 p121 q121
             obtain rfl : ad114 = ad121 := (by injection e121)
             replace p121 := eq_true p121
             replace q121 := eq_true q121
             go_wp2
             repeat (go_quiet (fail); try go_wp2)
             go_ret3
             exact ⟨by first | rfl | (simp; done) | (simp only [← hji7] <;> (first | rfl | simp)) | (simp [*]; done), by repeat (first | exact Drawn0.refl _ | apply Drawn0.step)⟩
            ·rw [if_neg c13] at H
             have c13b0 : decide (x7_1 < (rd l0 x9_1)) = false := decide_eq_false c13
             clear c13
             have H' := Aside0.mk H
             clear H
             have p120 : 0 ≤ (x9_1 : Int) := of_decide_eq_true (by first | (with_reducible assumption) | assumption)
             have q120 : x9_1 < (l0.length : Int) := of_decide_eq_true (by first | (with_reducible assumption) | assumption)
             obtain ⟨ad120, e120, hx120_0⟩ := Kd.at_int HR0.out x9_1 p120 q120
             obtain rfl : ad114 = ad120 := (by injection e120)
             replace p120 := eq_true p120
             replace q120 := eq_true q120
             have p121 : 0 ≤ (x9_1 : Int) := of_decide_eq_true (by first | (with_reducible assumption) | assumption)
             have q121 : x9_1 < (l0.length : Int) := of_decide_eq_true (by first | (with_reducible assumption) | assumption)
             obtain ⟨ad121, e121, hx121_0⟩ := Kd.at_int HR0.out x9_1 p121 q121
             obtain rfl : ad114 = ad121 := (by injection e121)
             replace p121 := eq_true p121
             replace q121 := eq_true q121
             have p122 : 0 ≤ (x9_1 : Int) := of_decide_eq_true (by first | (with_reducible assumption) | assumption)
             have q122 : x9_1 < (l0.length : Int) := of_decide_eq_true (by first | (with_reducible assumption) | assumption)
             obtain ⟨ad122, e122, hx122_0⟩ := Kd.at_int HR0.out x9_1 p122 q122
             obtain rfl : ad114 = ad122 := (by injection e122)
             replace p122 := eq_true p122
             replace q122 := eq_true q122
             go_wp2
             repeat (go_quiet (fail); try go_wp2)
             go_roundg k1
             case measure => have := HK1.out; omega
             case rel => exact ⟨(128), (191), (Go.bits .or .i32 (wrap32 (x8_1 * 64)) (wrap32 (Go.bits .and .u8 (rd l0 x9_1) 63))), (wrap64 (x9_1 + 1)), (by first | rfl | (simp; done) | (simp [*]; done) | (unfold bt; split <;> first | rfl | (exfalso; simp_all; done) | (exfalso; simp_all; omega))), (by first | rfl | (simp; done) | (simp [*]; done) | (unfold bt; split <;> first | rfl | (exfalso; simp_all; done) | (exfalso; simp_all; omega))), (by first | rfl | (simp; done) | (simp [*]; done) | (unfold bt; split <;> first | rfl | (exfalso; simp_all; done) | (exfalso; simp_all; omega))), (by first | rfl | (simp; done) | (simp [*]; done) | (unfold bt; split <;> first | rfl | (exfalso; simp_all; done) | (exfalso; simp_all; omega))), H', ⟨by have := HK1.out; omega⟩, by repeat (first | exact Drawn0.refl _ | apply Drawn0.step)⟩
          ·rw [if_neg c11] at H
           exact absurd H (by simp)
         ·rw [if_neg c10] at H
          exact absurd H (by simp)
       ·rw [if_neg c8] at H
        have c8b0 : decide (x9_1 ≤ t115) = false := decide_eq_false c8
        clear c8
        simp only [Option.some.injEq, Prod.mk.injEq] at H
        obtain ⟨rfl, rfl, rfl⟩ := H
        go_wp2
        repeat (go_quiet (fail); try go_wp2)
        go_ret3
        exact ⟨by first | rfl | (simp; done) | (simp only [← hji7] <;> (first | rfl | simp)) | (simp [*]; done), by repeat (first | exact Drawn0.refl _ | apply Drawn0.step)⟩
    ·rw [if_neg c6] at H
     exact absurd H (by simp)
 ·rw [if_neg c2] at H
  exact absurd H (by simp)

end Go.Proofs.Ytilpbfbnnmclhaa.P
end
section
/-
  UTF-8 in plain Lean: the runes of bytes, the bytes of runes, there and back.
-/
set_option linter.unusedVariables false
namespace Go.Proofs.Ytilpbfbnnmclhaa.P
open Go.Lib

/-- the rune at the head, its width, and 0: whole, 1: wrong, 2: begun -/
def rdN (n b0 b1 b2 b3 : Nat) : Nat × Nat × Nat :=
  if b0 < 128 then (b0, 1, 0)
  else if b0 < 194 then (65533, 1, 1)
  else if b0 < 224 then
    (if n ≤ 1 then (65533, 1, 2) else if b1 < 128 ∨ 191 < b1 then (65533, 1, 1) else (b0 % 32 * 64 + b1 % 64, 2, 0))
  else if b0 < 240 then
    (if n ≤ 1 then (65533, 1, 2) else if b1 < 128 ∨ 191 < b1 ∨ (b0 = 224 ∧ b1 < 160) ∨ (b0 = 237 ∧ 159 < b1) then (65533, 1, 1)
     else if n ≤ 2 then (65533, 2, 2) else if b2 < 128 ∨ 191 < b2 then (65533, 2, 1)
     else (b0 % 16 * 4096 + b1 % 64 * 64 + b2 % 64, 3, 0))
  else if b0 < 245 then
    (if n ≤ 1 then (65533, 1, 2) else if b1 < 128 ∨ 191 < b1 ∨ (b0 = 240 ∧ b1 < 144) ∨ (b0 = 244 ∧ 143 < b1) then (65533, 1, 1)
     else if n ≤ 2 then (65533, 2, 2) else if b2 < 128 ∨ 191 < b2 then (65533, 2, 1)
     else if n ≤ 3 then (65533, 3, 2) else if b3 < 128 ∨ 191 < b3 then (65533, 3, 1)
     else (b0 % 8 * 262144 + b1 % 64 * 4096 + b2 % 64 * 64 + b3 % 64, 4, 0))
  else (65533, 1, 1)

def goodR (r : Int) : Prop := (0 ≤ r ∧ r < 55296) ∨ (57344 ≤ r ∧ r ≤ 1114111)
instance (r : Int) : Decidable (goodR r) := by unfold goodR; infer_instance

theorem ite_ok {α : Type} {P : α → Prop} {c : Prop} [Decidable c] {a b : α} (hp : c → P a) (hn : ¬ c → P b) : P (if c then a else b) := by
  split
  · exact hp ‹_›
  · exact hn ‹_›

def FactsN (n : Nat) (r : Nat × Nat × Nat) : Prop :=
  1 ≤ r.2.1 ∧ r.2.1 ≤ n ∧ r.2.1 ≤ 4 ∧ r.2.2 ≤ 2 ∧ (r.1 < 55296 ∨ (57344 ≤ r.1 ∧ r.1 ≤ 1114111)) ∧ (r.2.2 ≠ 0 → r.1 = 65533)

theorem rdN_facts (n b0 b1 b2 b3 : Nat) (hn : 1 ≤ n) (h0 : b0 < 256) (h1 : b1 < 256) (h2 : b2 < 256) (h3 : b3 < 256) : FactsN n (rdN n b0 b1 b2 b3) := by
  unfold rdN
  repeat' (refine ite_ok (fun _ => ?_) (fun _ => ?_))
  all_goals (refine ⟨?_, ?_, ?_, ?_, ?_, fun _ => ?_⟩ <;> simp only at * <;> omega)

def DecN (n b0 b1 b2 b3 : Nat) (r : Nat × Nat × Nat) : Prop := decodeN n b0 b1 b2 b3 = if r.2.2 = 0 then (r.1, r.2.1) else (65533, 1)
set_option maxHeartbeats 2000000 in
set_option maxRecDepth 100000 in
/-- against the model's own decode -/
theorem rdN_decode (n b0 b1 b2 b3 : Nat) (hn : 1 ≤ n) (h0 : b0 < 256) (h1 : b1 < 256) (h2 : b2 < 256) (h3 : b3 < 256) : DecN n b0 b1 b2 b3 (rdN n b0 b1 b2 b3) := by
  unfold rdN
  repeat' (with_reducible refine ite_ok (P := DecN n b0 b1 b2 b3) (fun _ => ?_) (fun _ => ?_))
  all_goals (unfold DecN decodeN; simp only [Nat.succ_ne_zero, if_true, if_false])
  all_goals (repeat' split)
  all_goals first | rfl | (exfalso; omega) | omega

/-! ### lists of bytes -/
def rdL (l : List UInt8) : Nat × Nat × Nat := rdN l.length (l.getD 0 0).toNat (l.getD 1 0).toNat (l.getD 2 0).toNat (l.getD 3 0).toNat

theorem rdL_facts (l : List UInt8) (h : l ≠ []) : FactsN l.length (rdL l) :=
  rdN_facts _ _ _ _ _ (List.length_pos_iff.2 h) (UInt8.toNat_lt _) (UInt8.toNat_lt _) (UInt8.toNat_lt _) (UInt8.toNat_lt _)

theorem rdL_decode (l : List UInt8) (h : l ≠ []) : decodeL l = if (rdL l).2.2 = 0 then ((rdL l).1, (rdL l).2.1) else (65533, 1) := by
  rw [decodeL_N]
  exact rdN_decode _ _ _ _ _ (List.length_pos_iff.2 h) (UInt8.toNat_lt _) (UInt8.toNat_lt _) (UInt8.toNat_lt _) (UInt8.toNat_lt _)

/-- the runes of bytes -/
def runesGo : Nat → List UInt8 → List Int
  | 0, _ => []
  | n + 1, l => if l = [] then [] else ((rdL l).1 : Int) :: runesGo n (l.drop (rdL l).2.1)
def runes (l : List UInt8) : List Int := runesGo l.length l

theorem runesGo_nil (n : Nat) : runesGo n [] = [] := by cases n <;> simp [runesGo]
theorem runesGo_fuel : ∀ (n m : Nat) (l : List UInt8), l.length ≤ n → l.length ≤ m → runesGo n l = runesGo m l
  | 0, m, l, hn, _ => by
    obtain rfl : l = [] := List.eq_nil_of_length_eq_zero (by omega)
    rw [runesGo_nil, runesGo_nil]
  | n + 1, 0, l, _, hm => by
    obtain rfl : l = [] := List.eq_nil_of_length_eq_zero (by omega)
    rw [runesGo_nil, runesGo_nil]
  | n + 1, m + 1, l, hn, hm => by
    unfold runesGo
    by_cases hne : l = []
    · simp [hne]
    · have hw := (rdL_facts l hne).1
      have hl : 0 < l.length := List.length_pos_iff.2 hne
      rw [if_neg hne, if_neg hne, runesGo_fuel n m (l.drop (rdL l).2.1) (by rw [List.length_drop]; omega) (by rw [List.length_drop]; omega)]
theorem runes_nil : runes [] = [] := rfl
theorem runes_step (l : List UInt8) (hne : l ≠ []) : runes l = ((rdL l).1 : Int) :: runes (l.drop (rdL l).2.1) := by
  have hl : 0 < l.length := List.length_pos_iff.2 hne
  have hw := (rdL_facts l hne).1
  obtain ⟨n, hn⟩ : ∃ n, l.length = n + 1 := ⟨l.length - 1, by omega⟩
  unfold runes
  rw [hn]
  show (if l = [] then [] else _) = _
  rw [if_neg hne, runesGo_fuel n (l.drop (rdL l).2.1).length _ (by rw [List.length_drop]; omega) (Nat.le_refl _)]

/-- all is whole -/
def validGo : Nat → List UInt8 → Bool
  | 0, _ => true
  | n + 1, l => if l = [] then true else if (rdL l).2.2 = 0 then validGo n (l.drop (rdL l).2.1) else false
def valid (l : List UInt8) : Bool := validGo l.length l
theorem validGo_nil (n : Nat) : validGo n [] = true := by cases n <;> simp [validGo]
theorem validGo_fuel : ∀ (n m : Nat) (l : List UInt8), l.length ≤ n → l.length ≤ m → validGo n l = validGo m l
  | 0, m, l, hn, _ => by
    obtain rfl : l = [] := List.eq_nil_of_length_eq_zero (by omega)
    rw [validGo_nil, validGo_nil]
  | n + 1, 0, l, _, hm => by
    obtain rfl : l = [] := List.eq_nil_of_length_eq_zero (by omega)
    rw [validGo_nil, validGo_nil]
  | n + 1, m + 1, l, hn, hm => by
    unfold validGo
    by_cases hne : l = []
    · simp [hne]
    · have hw := (rdL_facts l hne).1
      have hl : 0 < l.length := List.length_pos_iff.2 hne
      rw [if_neg hne, if_neg hne, validGo_fuel n m (l.drop (rdL l).2.1) (by rw [List.length_drop]; omega) (by rw [List.length_drop]; omega)]
theorem valid_nil : valid [] = true := rfl
theorem valid_step (l : List UInt8) (hne : l ≠ []) : valid l = if (rdL l).2.2 = 0 then valid (l.drop (rdL l).2.1) else false := by
  have hl : 0 < l.length := List.length_pos_iff.2 hne
  have hw := (rdL_facts l hne).1
  obtain ⟨n, hn⟩ : ∃ n, l.length = n + 1 := ⟨l.length - 1, by omega⟩
  unfold valid
  rw [hn]
  show (if l = [] then true else _) = _
  rw [if_neg hne, validGo_fuel n (l.drop (rdL l).2.1).length _ (by rw [List.length_drop]; omega) (Nat.le_refl _)]

/-! ### there and back -/
def text (rs : List Int) : List UInt8 := rs.flatMap encodeRune
theorem text_nil : text [] = [] := rfl
theorem text_cons (r : Int) (rs : List Int) : text (r :: rs) = encodeRune r ++ text rs := by simp [text]
theorem text_append (a b : List Int) : text (a ++ b) = text a ++ text b := by simp [text]

theorem tob (b : UInt8) (z : Int) (h : z = (b.toNat : Int)) : (z.toNat).toUInt8 = b := by subst h; simp

theorem len0 {l : List UInt8} (h : l ≠ []) : l = l.getD 0 0 :: l.drop 1 := by cases l with | nil => exact absurd rfl h | cons b t => simp
theorem lenS {l : List UInt8} (k : Nat) (h : k < l.length) : l.drop k = l.getD k 0 :: l.drop (k + 1) := by
  rw [List.drop_eq_getElem_cons h]; simp [List.getD_eq_getElem?_getD, List.getElem?_eq_getElem h]

/-- what is whole is its rune's own bytes -/
theorem rdL_whole (l : List UInt8) (h : (rdL l).2.2 = 0) (hne : l ≠ []) : l = encodeRune ((rdL l).1 : Nat) ++ l.drop (rdL l).2.1 := by
  have hl : 0 < l.length := List.length_pos_iff.2 hne
  have q0 := (l.getD 0 0).toNat_lt
  have q1 := (l.getD 1 0).toNat_lt
  have q2 := (l.getD 2 0).toNat_lt
  have q3 := (l.getD 3 0).toNat_lt
  have e0 := lenS (l := l) 0 hl
  rw [List.drop_zero] at e0
  revert h
  unfold rdL rdN
  by_cases c0 : (l.getD 0 0).toNat < 128
  · rw [if_pos c0]
    intro _
    simp only [encodeRune]
    rw [encodeRuneZ_one (by omega) (by omega)]
    simp only [List.map_cons, List.map_nil]
    rw [tob (l.getD 0 0) _ rfl]
    exact e0
  rw [if_neg c0]
  by_cases c1 : (l.getD 0 0).toNat < 194
  · rw [if_pos c1]; intro h; exact absurd h (by simp)
  rw [if_neg c1]
  by_cases c2 : (l.getD 0 0).toNat < 224
  · rw [if_pos c2]
    by_cases d1 : l.length ≤ 1
    · rw [if_pos d1]; intro h; exact absurd h (by simp)
    rw [if_neg d1]
    have e1 := lenS (l := l) 1 (by omega)
    by_cases d2 : (l.getD 1 0).toNat < 128 ∨ 191 < (l.getD 1 0).toNat
    · rw [if_pos d2]; intro h; exact absurd h (by simp)
    rw [if_neg d2]
    intro _
    simp only [encodeRune]
    rw [encodeRuneZ_two (by omega) (by omega)]
    simp only [List.map_cons, List.map_nil]
    rw [tob (l.getD 0 0) _ (by omega), tob (l.getD 1 0) _ (by omega)]
    rw [e1] at e0
    exact e0
  rw [if_neg c2]
  by_cases c3 : (l.getD 0 0).toNat < 240
  · rw [if_pos c3]
    by_cases d1 : l.length ≤ 1
    · rw [if_pos d1]; intro h; exact absurd h (by simp)
    rw [if_neg d1]
    have e1 := lenS (l := l) 1 (by omega)
    by_cases d2 : (l.getD 1 0).toNat < 128 ∨ 191 < (l.getD 1 0).toNat ∨ ((l.getD 0 0).toNat = 224 ∧ (l.getD 1 0).toNat < 160) ∨ ((l.getD 0 0).toNat = 237 ∧ 159 < (l.getD 1 0).toNat)
    · rw [if_pos d2]; intro h; exact absurd h (by simp)
    rw [if_neg d2]
    by_cases d3 : l.length ≤ 2
    · rw [if_pos d3]; intro h; exact absurd h (by simp)
    rw [if_neg d3]
    have e2 := lenS (l := l) 2 (by omega)
    by_cases d4 : (l.getD 2 0).toNat < 128 ∨ 191 < (l.getD 2 0).toNat
    · rw [if_pos d4]; intro h; exact absurd h (by simp)
    rw [if_neg d4]
    intro _
    simp only [encodeRune]
    rw [encodeRuneZ_three (by omega)]
    simp only [List.map_cons, List.map_nil]
    rw [tob (l.getD 0 0) _ (by omega), tob (l.getD 1 0) _ (by omega), tob (l.getD 2 0) _ (by omega)]
    rw [e1, e2] at e0
    exact e0
  rw [if_neg c3]
  by_cases c4 : (l.getD 0 0).toNat < 245
  · rw [if_pos c4]
    by_cases d1 : l.length ≤ 1
    · rw [if_pos d1]; intro h; exact absurd h (by simp)
    rw [if_neg d1]
    have e1 := lenS (l := l) 1 (by omega)
    by_cases d2 : (l.getD 1 0).toNat < 128 ∨ 191 < (l.getD 1 0).toNat ∨ ((l.getD 0 0).toNat = 240 ∧ (l.getD 1 0).toNat < 144) ∨ ((l.getD 0 0).toNat = 244 ∧ 143 < (l.getD 1 0).toNat)
    · rw [if_pos d2]; intro h; exact absurd h (by simp)
    rw [if_neg d2]
    by_cases d3 : l.length ≤ 2
    · rw [if_pos d3]; intro h; exact absurd h (by simp)
    rw [if_neg d3]
    have e2 := lenS (l := l) 2 (by omega)
    by_cases d4 : (l.getD 2 0).toNat < 128 ∨ 191 < (l.getD 2 0).toNat
    · rw [if_pos d4]; intro h; exact absurd h (by simp)
    rw [if_neg d4]
    by_cases d5 : l.length ≤ 3
    · rw [if_pos d5]; intro h; exact absurd h (by simp)
    rw [if_neg d5]
    have e3 := lenS (l := l) 3 (by omega)
    by_cases d6 : (l.getD 3 0).toNat < 128 ∨ 191 < (l.getD 3 0).toNat
    · rw [if_pos d6]; intro h; exact absurd h (by simp)
    rw [if_neg d6]
    intro _
    simp only [encodeRune]
    rw [encodeRuneZ_four (by omega) (by omega)]
    simp only [List.map_cons, List.map_nil]
    rw [tob (l.getD 0 0) _ (by omega), tob (l.getD 1 0) _ (by omega), tob (l.getD 2 0) _ (by omega), tob (l.getD 3 0) _ (by omega)]
    rw [e1, e2, e3] at e0
    exact e0
  · rw [if_neg c4]; intro h; exact absurd h (by simp)
end Go.Proofs.Ytilpbfbnnmclhaa.P
end
section
/-
  utf.All: what it hands back, over a copy of the bytes; what its function does at a loop's rounds: the contract of the iterator.
-/
namespace Go.Proofs.Ytilpbfbnnmclhaa.P
open Go.RowKit Go.Shelf Go.Proofs.YtilpbfbnnmclhaaW.PrintWords Go.Proofs.YtilpbfbnnmclhaaW.PrintLast Go.Proofs.YtilpbfbnnmclhaaW.PrintMore
set_option linter.unusedVariables false
set_option linter.unusedSimpArgs false

set_option maxHeartbeats 1000000 in
theorem utf_All_calls (A : Option Addr) (c0 : Nat) (l0 : List Int) (w : World) (hr : Kd.C (Kd.int .u8) w A l0.length l0) (hb : l0.length ≤ 140737488355328) :
    Calls Try.prog 76 #[.slice A l0.length c0] w fun e w' => e = .returned (.func (.func 84) #[] #[.pointer (some ⟨w.heap.size, 0, none⟩)]) ∧
      (∃ v, w'.heap[w.heap.size]? = some (.cells #[v] 31 (0, 0)) ∧ Kd.R (Kd.int .u8) 5 w' w.heap.size (fun k => k ≠ w.heap.size) v l0) ∧ Below w.heap.size w w' := by
  have HR := Aside0.mk hr
  clear hr
  go_enter Try.func76, Try.ntmps76
  go_wp2_with (at_builtin; refine Kd.R_append_row (Value.int .u8) (0 : Int) (w0 := w) (h1 := fun _ => rfl) w.heap.size rfl (.const (.slice none 0 0)) (.tmp 3) 31 5 (.int .u8 0) 1 rfl Try.underlying31 info5 rfl (by omega) (.slice none 0 0) [] l0 A l0.length c0 (fun k => k ≠ w.heap.size) rfl rfl ?aF ?aO ?aC ?aB ?aS ?aL ?_)
  case aF => intro k hk; simp at hk; omega
  case aO => exact Kd.R_nil _ _ _ _ _
  case aC => exact Kd.C_alloc HR.out _
  case aB => exact (Below.refl _ _).alloc (Nat.le_refl _) _
  case aS => simp
  case aL => simpa using hb
  intro v1 w1 ho hbw hg hat
  obtain ⟨Ao, co, rfl⟩ := Kd.R_slice ho
  have hblk : w1.heap[w.heap.size]? = some (.cells #[.slice A l0.length c0] 31 (0, 0)) := (hg.block w.heap.size (by simp) (by simp [Value.ownBlock])).trans (heap_alloc_new w _)
  have HO := Aside0.mk ho
  have HB := Aside0.mk hbw
  have HBK := Aside0.mk hblk
  have hc : w1.cell? ⟨w.heap.size, 0, none⟩ = some (.slice A l0.length c0) := (blk_cell hblk 0).trans rfl
  have hf := blk_frozen hblk 0
  clear ho hbw hg hat hblk
  go_wp2
  go_ret
  refine ⟨rfl, ⟨.slice Ao l0.length co, ?_, ?_⟩, ?_⟩
  · exact blk_put (cs := #[.slice A l0.length c0]) HBK.out 0 _ rfl
  · exact Kd.R_far (p := ⟨w.heap.size, 0, none⟩) HO.out (fun _ hk => hk) _
  · exact below_set HB.out (Nat.le_refl _)

/-! ### bytes that lie in blocks m0 .. n0, and are read -/
def Mid (m0 n0 : Nat) (W W' : World) : Prop := ∀ k, m0 ≤ k → k < n0 → W'.heap[k]? = W.heap[k]?
theorem Mid.refl (m0 n0 : Nat) (W : World) : Mid m0 n0 W W := fun _ _ _ => rfl
theorem Mid.trans {m0 n0 : Nat} {A B C : World} (h : Mid m0 n0 A B) (k : Mid m0 n0 B C) : Mid m0 n0 A C := fun i h1 h2 => (k i h1 h2).trans (h i h1 h2)
theorem Mid.drewN {m0 n0 : Nat} {A B : World} (h : Mid m0 n0 A B) (m : Nat) : Mid m0 n0 A (B.drewN m) := h
theorem Mid.below {m0 n0 : Nat} {A B : World} (h : Below n0 A B) : Mid m0 n0 A B := fun k _ hk => h.block k hk
theorem Mid.grown {m0 n0 : Nat} {A B : World} {row : Option Nat} (h : A.grownBy B row) (hs : n0 ≤ A.heap.size) (hr : ∀ r, row = some r → r < m0 ∨ n0 ≤ r) : Mid m0 n0 A B :=
  fun k h1 h2 => h.block k (by omega) (fun e => by have := hr k e.symm; omega)
theorem Mid.cell {m0 n0 : Nat} {A B : World} (h : Mid m0 n0 A B) {p : Addr} (h1 : m0 ≤ p.block) (h2 : p.block < n0) : B.cell? p = A.cell? p := World.cell?_of_block (h _ h1 h2)
theorem Mid.putObj {m0 n0 : Nat} {W : World} {l : Nat} {o o' : Obj} (hl : n0 ≤ l) (h : W.heap[l]? = some o) : Mid m0 n0 W (W.putObj l o') :=
  Mid.grown (grownBy_putObj' W l o') (by have := (Array.getElem?_eq_some_iff.1 h).1; omega) (fun r e => by cases e; exact .inr hl)
def BytesAt (m0 n0 : Nat) (W : World) (A : Option Addr) (zs : List Int) : Prop :=
  zs.length ≤ 9223372036854775807 ∧ (0 < zs.length → ∃ ad, A = some ad ∧ (m0 ≤ ad.block ∧ ad.block < n0) ∧ ∀ j, j < zs.length → W.cell? (ad.add j) = some (.int .u8 (zs.getD j 0)))
theorem block_add (a : Addr) (n : Nat) : (a.add n).block = a.block := by unfold Addr.add; split <;> rfl
theorem BytesAt.mid {m0 n0 : Nat} {W W' : World} {A : Option Addr} {zs : List Int} (h : BytesAt m0 n0 W A zs) (hb : Mid m0 n0 W W') : BytesAt m0 n0 W' A zs :=
  ⟨h.1, fun hn => by
    obtain ⟨ad, e, hlt, hc⟩ := h.2 hn
    exact ⟨ad, e, hlt, fun j hj => (hb.cell (p := ad.add j) (by rw [block_add]; exact hlt.1) (by rw [block_add]; exact hlt.2)).trans (hc j hj)⟩⟩
theorem BytesAt.C {m0 n0 : Nat} {W : World} {A : Option Addr} {zs : List Int} (h : BytesAt m0 n0 W A zs) : Kd.C (Kd.int .u8) W A zs.length zs :=
  Kd.C_of_reads (enc := Value.int .u8) (d := (0 : Int)) (h1 := fun _ => rfl) ⟨rfl, h.1, fun hn => by
    obtain ⟨ad, e, _, hc⟩ := h.2 hn
    exact ⟨ad, e, hc⟩⟩
theorem BytesAt.of_R {base : Nat} {ok : Nat → Prop} {W : World} {A : Option Addr} {c : Nat} {zs : List Int} (h : Kd.R (Kd.int .u8) 5 W base ok (.slice A zs.length c) zs) : BytesAt base W.heap.size W A zs ∧ zs.length ≤ c := by
  obtain ⟨h1, h2, h3⟩ := Kd.R_reads' h
  have hr := Kd.reads_of_C (enc := Value.int .u8) (d := (0 : Int)) (h1 := fun _ => rfl) h3
  have hb := Kd.R_base h
  refine ⟨⟨hr.2.1, fun hn => ?_⟩, h2⟩
  obtain ⟨ad, e, hc⟩ := hr.2.2 hn
  subst e
  refine ⟨ad, rfl, ⟨?_, ?_⟩, hc⟩
  · have := own_base (Kd.own_of_R h) ad.block rfl
    exact this
  · have := World.block_lt_of_cell? _ _ (hc 0 hn)
    rwa [block_add] at this

/-! ### the pieces of bytes: where each begins, and its rune -/
def pcsGo : Nat → Nat → List UInt8 → List (Nat × Int)
  | 0, _, _ => []
  | n + 1, p, l => if l = [] then [] else (p, ((rdL l).1 : Int)) :: pcsGo n (p + (rdL l).2.1) (l.drop (rdL l).2.1)
def pcs (p : Nat) (l : List UInt8) : List (Nat × Int) := pcsGo l.length p l
theorem pcsGo_fuel : ∀ (n m p : Nat) (l : List UInt8), l.length ≤ n → l.length ≤ m → pcsGo n p l = pcsGo m p l
  | 0, m, p, l, hn, _ => by
    obtain rfl : l = [] := List.eq_nil_of_length_eq_zero (by omega)
    cases m <;> simp [pcsGo]
  | n + 1, 0, p, l, _, hm => by
    obtain rfl : l = [] := List.eq_nil_of_length_eq_zero (by omega)
    simp [pcsGo]
  | n + 1, m + 1, p, l, hn, hm => by
    unfold pcsGo
    by_cases hne : l = []
    · simp [hne]
    · have hw := (rdL_facts l hne).1
      have hl : 0 < l.length := List.length_pos_iff.2 hne
      rw [if_neg hne, if_neg hne, pcsGo_fuel n m _ (l.drop (rdL l).2.1) (by rw [List.length_drop]; omega) (by rw [List.length_drop]; omega)]
theorem pcs_nil (p : Nat) : pcs p [] = [] := rfl
theorem pcs_step (p : Nat) (l : List UInt8) (hne : l ≠ []) : pcs p l = (p, ((rdL l).1 : Int)) :: pcs (p + (rdL l).2.1) (l.drop (rdL l).2.1) := by
  have hl : 0 < l.length := List.length_pos_iff.2 hne
  have hw := (rdL_facts l hne).1
  obtain ⟨n, hn⟩ : ∃ n, l.length = n + 1 := ⟨l.length - 1, by omega⟩
  unfold pcs
  rw [hn]
  show (if l = [] then [] else _) = _
  rw [if_neg hne, pcsGo_fuel n (l.drop (rdL l).2.1).length _ _ (by rw [List.length_drop]; omega) (Nat.le_refl _)]
theorem pcs_runes : ∀ (n : Nat) (l : List UInt8) (p : Nat), l.length ≤ n → (pcs p l).map (·.2) = runes l
  | 0, l, p, h => by
    obtain rfl : l = [] := List.eq_nil_of_length_eq_zero (by omega)
    rfl
  | n + 1, l, p, h => by
    by_cases hne : l = []
    · subst hne; rfl
    · have hw := (rdL_facts l hne).1
      have hl : 0 < l.length := List.length_pos_iff.2 hne
      rw [pcs_step p l hne, runes_step l hne, List.map_cons, pcs_runes n _ _ (by rw [List.length_drop]; omega)]


def zs (l : List UInt8) : List Int := l.map fun b => (b.toNat : Int)
theorem zs_length (l : List UInt8) : (zs l).length = l.length := by simp [zs]
theorem zs_drop (l : List UInt8) (k : Nat) : (zs l).drop k = zs (l.drop k) := by simp [zs]

/-- what 'utf.read' tells at the head of bytes: a premise here, paid in plain Lean elsewhere -/
def ReadTells : Prop := ∀ l : List UInt8, l ≠ [] → ∃ k, utf_read.f k (zs l) = some (((rdL l).1 : Int), ((rdL l).2.1 : Int), ((rdL l).2.2 : Int))

attribute [local go_sem] Oper.semAt_some

set_option maxHeartbeats 4000000 in
set_option maxRecDepth 100000 in
theorem all1_in (hrd : ReadTells) (n : Nat) (hn : 1 ≤ n) (l Bb m0 n0 : Nat) (A : Option Addr) (cap : Nat) (bs : List UInt8) (hlen : bs.length ≤ 140737488355328) (hcap : bs.length ≤ cap) (J Jx : List (Nat × Int) → World → Prop)
    (hJd : ∀ s W W', J s W → Below W.heap.size W W' → J s W')
    (hY : ∀ pre x W, J pre W → pre.length < (pcs 0 bs).length → YieldAt Fence.wide (n - 1) Try.prog l #[.int .i64 (x.1 : Nat), .int .i32 x.2] W fun e W' =>
      (e = .returned (.bool true) ∧ J (pre ++ [x]) W' ∧ Mid m0 n0 W W') ∨ (e = .returned (.bool false) ∧ Jx (pre ++ [x]) W'))
    (W : World) (hBb : m0 ≤ Bb ∧ Bb < n0) (hbox : W.cell? ⟨Bb, 0, none⟩ = some (.slice A bs.length cap)) (hby : BytesAt m0 n0 W A (zs bs)) (h0 : J [] W) :
    CallsIn Fence.wide n Try.prog 84 #[.func (.yield l) #[] #[], .pointer (some ⟨Bb, 0, none⟩)] W fun e W' => (∃ v, e = .returned v) ∧
      ((∃ ys, ys = pcs 0 bs ∧ J ys W') ∨ (∃ pre, pre <+: pcs 0 bs ∧ Jx pre W')) := by
  have HY := Aside0.mk hY
  have HJd := Aside0.mk hJd
  have HBY := Aside0.mk hby
  have HRD := Aside0.mk hrd
  clear hY hJd hby hrd
  obtain ⟨i07, hi07, _, hsz7, _⟩ := info_parts info5
  refine callsIn_of_wp Try.func84 rfl trivial ?_ rfl
  simp only [Try.ntmps84, List.size_toArray, List.length_cons, List.length_nil, Nat.reduceAdd, Nat.reduceSub, Array.replicate_succ, Array.replicate_zero, List.push_toArray, List.append_toArray, List.nil_append, List.cons_append]
  gi_wp2
  gi_loopw [3] (fun at_ wr => ∃ (k : Nat) (pre : List (Nat × Int)), k ≤ bs.length ∧ at_ = .int .i64 k ∧ Aside0 (J pre wr) ∧ Aside0 (pre ++ pcs k (bs.drop k) = pcs 0 bs) ∧ Aside0 (Mid m0 n0 W wr))
    (fun at_ _ => bs.length - (intOf at_).toNat)
  case atStart => exact ⟨0, [], Nat.zero_le _, rfl, ⟨h0⟩, ⟨by simp⟩, ⟨Mid.refl _ _ _⟩⟩
  case round =>
    obtain ⟨k, pre, hk, rfl, hJ, hpre, hbl⟩ := hrel
    have hc : wr.cell? ⟨Bb, 0, none⟩ = some (.slice A bs.length cap) := (hbl.out.cell (p := ⟨Bb, 0, none⟩) hBb.1 hBb.2).trans hbox
    by_cases hlt : k < bs.length
    · have hne : bs.drop k ≠ [] := by
        intro e
        have := congrArg List.length e
        simp at this
        omega
      have hstep := pcs_step k (bs.drop k) hne
      have hfacts := rdL_facts (bs.drop k) hne
      obtain ⟨kr, hread⟩ := HRD.out (bs.drop k) hne
      have hbyt := HBY.out.mid hbl.out
      obtain ⟨A7, hcut7, hA7, hC7⟩ := print_drop_of (P := Try.prog) (Value.int .u8) 0 31 5 .i64 Try.underlying31 hi07 hsz7 A cap (zs bs) (k : Int) (by omega) (by rw [zs_length]; omega) (by rw [zs_length]; exact hcap)
      have hC := Aside0.mk (Kd.C_of_reads (h1 := fun _ => rfl) (hA7 wr (Kd.reads_of_C (d := (0 : Int)) hbyt.C)))
      clear hA7 hbyt
      simp only [Int.toNat_natCast, zs_drop] at hcut7 hC hC7
      generalize zs (bs.drop k) = Z at hcut7 hC hC7 hread
      rw [zs_length] at hcut7
      have hmk : k + (rdL (bs.drop k)).2.1 ≤ bs.length := by
        have := hfacts.2.1
        rw [List.length_drop] at this
        omega
      have hm1 := hfacts.1
      clear hfacts hne
      have hpl : pre.length < (pcs 0 bs).length := by
        rw [← hpre.out, hstep]
        simp
      have hpre2 : (pre ++ [(k, ((rdL (bs.drop k)).1 : Int))]) ++ pcs (k + (rdL (bs.drop k)).2.1) (bs.drop (k + (rdL (bs.drop k)).2.1)) = pcs 0 bs := by
        rw [← hpre.out, hstep, List.append_assoc, List.drop_drop]
        rfl
      have HP2 := Aside0.mk hpre2
      have HPL := Aside0.mk hpl
      clear hstep hpre2 hpl hpre
      generalize rdL (bs.drop k) = q at hread hmk hm1 HP2
      obtain ⟨q1, q2, q3⟩ := q
      dsimp only at hread hmk hm1 HP2
      have HREAD := Aside0.mk hread
      have HC7 := Aside0.mk hC7
      clear hread hC7
      have hw3 : IntKind.i64.wrap ((k : Int) + (q2 : Int)) = (k : Int) + (q2 : Int) := IntWalk.i64_in _ (by omega)
      gi_wp2_with (refine ⟨trivial, ?_⟩; gi_at_call 85; refine (callsIn_wide.2 (utf_read.calls kr _ _ Z _ _ _ _ hC.out HC7.out HREAD.out)).mono ?_; rintro e w' ⟨rfl, hdr⟩; obtain ⟨md, rfl⟩ := hdr.out; obtain ⟨fn, tmps, assign, body, hy, hR⟩ := HY.out pre (k, (q1 : Int)) _ (HJd.out _ _ _ hJ.out (pw_below_drewN (Below.refl _ _) md)) HPL.out; dsimp only at hy)
      refine hR.mono ?_
      rintro e W3 (⟨rfl, hJ3, hk3⟩ | ⟨rfl, hJx3⟩)
      · have HJ3 := Aside0.mk hJ3
        have HK3 := Aside0.mk hk3
        clear hJ3 hk3
        gi_wp2
        go_roundw
        case rel => exact ⟨k + q2, pre ++ [(k, (q1 : Int))], hmk, by go_num, HJ3, HP2, ⟨(hbl.out.drewN md).trans HK3.out⟩⟩
        case measure => simp [intOf]; omega
      · have HJx3 := Aside0.mk hJx3
        clear hJx3
        gi_wp2
        refine bodyPost_ret (results_none rfl _ _ _) rfl ?_
        exact ⟨⟨_, rfl⟩, .inr ⟨pre ++ [(k, (q1 : Int))], ⟨_, HP2.out⟩, HJx3.out⟩⟩
    · obtain rfl : k = bs.length := by omega
      gi_wp2
      go_end0
      exact ⟨⟨_, rfl⟩, .inl ⟨pre, by have := hpre.out; simpa [pcs_nil] using this, hJ.out⟩⟩

theorem all_stops (hrd : ReadTells) (n : Nat) (hn : 1 ≤ n) (Bb m0 n0 : Nat) (A : Option Addr) (cap : Nat) (bs : List UInt8) (hlen : bs.length ≤ 140737488355328) (hcap : bs.length ≤ cap) (w : World)
    (hBb : m0 ≤ Bb ∧ Bb < n0) (hn0 : n0 ≤ w.heap.size) (hbox : w.cell? ⟨Bb, 0, none⟩ = some (.slice A bs.length cap)) (hby : BytesAt m0 n0 w A (zs bs)) :
    SeqStopsK Fence.wide n Try.prog 84 #[.pointer (some ⟨Bb, 0, none⟩)] (fun x : Nat × Int => #[Value.int .i64 (x.1 : Nat), Value.int .i32 x.2]) (Mid m0 n0) (fun ys => ys = pcs 0 bs) (fun pre => pre <+: pcs 0 bs) (pcs 0 bs).length w :=
  fun l J Jx W hW hJ _ hY h0 => all1_in hrd n hn l Bb m0 n0 A cap bs hlen hcap J Jx (fun s W1 W2 hs hb => hJ s W1 W2 none hs (grown_of_below hb none) (fun r e => by cases e)) hY W hBb
    ((hW.cell (p := ⟨Bb, 0, none⟩) (by show Bb < _; omega)).trans hbox) (hby.mid (Mid.below (hW.mono hn0))) h0
end Go.Proofs.Ytilpbfbnnmclhaa.P
end
section
/-
  utf.read, in plain Lean: what the printed function tells is 'rdL'.
-/
namespace Go.Proofs.Ytilpbfbnnmclhaa.P
open Go.RowKit Go.Proofs.YtilpbfbnnmclhaaW.PrintWords Go.Proofs.YtilpbfbnnmclhaaW.PrintLast Go.Proofs.YtilpbfbnnmclhaaW.PrintMore
set_option linter.unusedVariables false
set_option linter.unusedSimpArgs false

def bdN (b : Nat) : Int × Int × Int :=
  if b < 128 then (0, 0, 0) else if b < 194 then (-1, 0, 0) else if b < 224 then (1, 128, 191) else if b = 224 then (2, 160, 191)
  else if b = 237 then (2, 128, 159) else if b < 240 then (2, 128, 191) else if b = 240 then (3, 144, 191) else if b < 244 then (3, 128, 191)
  else if b = 244 then (3, 128, 143) else (-1, 0, 0)
theorem bd_all : ∀ b : Fin 256, utf_bounds.f 9 ((b.val : Nat) : Int) = some (bdN b.val) := by decide +kernel
theorem and_all : ∀ b : Fin 256, Go.bits .and .u8 ((b.val : Nat) : Int) 63 = ((b.val % 64 : Nat) : Int) := by decide +kernel
theorem and_1 : ∀ b : Fin 256, Go.bits .and .i32 (wrap32 ((b.val : Nat) : Int)) (shr .i32 63 1) = ((b.val % 32 : Nat) : Int) := by decide +kernel
theorem and_2 : ∀ b : Fin 256, Go.bits .and .i32 (wrap32 ((b.val : Nat) : Int)) (shr .i32 63 2) = ((b.val % 16 : Nat) : Int) := by decide +kernel
theorem and_3 : ∀ b : Fin 256, Go.bits .and .i32 (wrap32 ((b.val : Nat) : Int)) (shr .i32 63 3) = ((b.val % 8 : Nat) : Int) := by decide +kernel

theorem i32_or_nat (a b : Nat) (ha : a < 2147483648) (hb : b < 2147483648) : Go.bits .or .i32 (a : Int) (b : Int) = ((a ||| b : Nat) : Int) := by
  have hab : a ||| b < 2147483648 := Nat.or_lt_two_pow (n := 31) ha hb
  have e : (BitVec.ofInt 32 (a : Int) ||| BitVec.ofInt 32 (b : Int)).toNat = a ||| b := by
    rw [BitVec.toNat_or, Go.ofInt_u32 a (by omega), Go.ofInt_u32 b (by omega)]
  have e0 : Go.bits .or .i32 (a : Int) (b : Int) = IntKind.i32.wrap (((BitVec.ofInt 32 (a : Int) ||| BitVec.ofInt 32 (b : Int)).toNat : Nat) : Int) := rfl
  rw [e0, e, i32_w]
  unfold wrap32
  omega
theorem or_add (x y : Nat) (hy : y < 64) : (x * 64) ||| y = x * 64 + y := nat_join 6 _ _ (by omega) (by simpa using hy)
theorem orL (x b : Nat) (hx : x < 33554432) (hb : b < 256) :
    Go.bits .or .i32 (wrap32 ((x : Int) * 64)) (wrap32 (Go.bits .and .u8 (b : Int) 63)) = ((x * 64 + b % 64 : Nat) : Int) := by
  have h1 := and_all ⟨b, hb⟩
  simp only at h1
  rw [h1]
  have e1 : wrap32 ((x : Int) * 64) = ((x * 64 : Nat) : Int) := by unfold wrap32; omega
  have e2 : wrap32 ((b % 64 : Nat) : Int) = ((b % 64 : Nat) : Int) := by unfold wrap32; omega
  rw [e1, e2, i32_or_nat _ _ (by omega) (by omega), or_add _ _ (by omega)]
theorem rd_zs (l : List UInt8) (i : Nat) : rd (zs l) (i : Int) = ((l.getD i 0).toNat : Int) := by
  unfold rd zs
  simp only [Int.toNat_natCast, List.getD_eq_getElem?_getD, List.getElem?_map]
  cases l[i]? <;> simp

theorem l0_go (k : Nat) (l : List UInt8) (m lo hi x i : Nat) (hi' : i ≤ l.length) (hi4 : i ≤ 4) (hm : m ≤ 4) (hx : x < 33554432) :
    utf_read.l0 (k + 1) (zs l) m lo hi x i = if m < i then some ((x : Int), ((m + 1 : Nat) : Int), 0) else if i = l.length then some (65533, (i : Int), 2)
      else if (l.getD i 0).toNat < lo then some (65533, (i : Int), 1) else if hi < (l.getD i 0).toNat then some (65533, (i : Int), 1)
      else utf_read.l0 k (zs l) m (128 : Nat) (191 : Nat) ((x * 64 + (l.getD i 0).toNat % 64 : Nat) : Int) ((i + 1 : Nat) : Int) := by
  rw [utf_read.l0, rd_zs, zs_length, orL x _ hx (UInt8.toNat_lt _)]
  have e1 : wrap64 ((i : Int) + 1) = ((i + 1 : Nat) : Int) := by unfold wrap64; omega
  have e2 : wrap64 ((m : Int) + 1) = ((m + 1 : Nat) : Int) := by unfold wrap64; omega
  rw [e1, e2]
  by_cases c1 : m < i
  · rw [if_neg (by omega), if_pos c1]
  rw [if_pos (by omega), if_neg c1]
  by_cases c2 : i = l.length
  · rw [if_pos (by omega), if_pos c2]
  rw [if_neg (by omega), if_neg c2, if_pos (by omega), if_pos (by omega)]
  by_cases c3 : (l.getD i 0).toNat < lo
  · rw [if_pos (by omega), if_pos c3]
  rw [if_neg (by omega), if_neg c3]
  by_cases c4 : hi < (l.getD i 0).toNat
  · rw [if_pos (by omega), if_pos c4]
  rw [if_neg (by omega), if_neg c4]
  rfl

theorem read_tells : ReadTells := by
  intro l hne
  refine ⟨9, ?_⟩
  have hl : 0 < l.length := List.length_pos_iff.2 hne
  have q0 := (l.getD 0 0).toNat_lt
  have q1 := (l.getD 1 0).toNat_lt
  have q2 := (l.getD 2 0).toNat_lt
  have q3 := (l.getD 3 0).toNat_lt
  have hb := bd_all ⟨_, q0⟩
  have h1 := and_1 ⟨_, q0⟩
  have h2 := and_2 ⟨_, q0⟩
  have h3 := and_3 ⟨_, q0⟩
  simp only at hb h1 h2 h3
  have e0 : rd (zs l) 0 = ((l.getD 0 0).toNat : Int) := rd_zs l 0
  unfold utf_read.f
  rw [zs_length, if_pos (by omega), e0, hb]
  show (if (bdN _).1 < 0 then _ else _) = _
  unfold rdL rdN
  by_cases c0 : (l.getD 0 0).toNat < 128
  · have eb : bdN (l.getD 0 0).toNat = (0, 0, 0) := by unfold bdN; rw [if_pos c0]
    rw [eb, if_pos c0, if_neg (by decide), if_pos rfl]
    have : wrap32 (((l.getD 0 0).toNat : Nat) : Int) = ((l.getD 0 0).toNat : Int) := by unfold wrap32; omega
    rw [this]
    rfl
  rw [if_neg c0]
  by_cases c1 : (l.getD 0 0).toNat < 194
  · have eb : bdN (l.getD 0 0).toNat = (-1, 0, 0) := by unfold bdN; rw [if_neg c0, if_pos c1]
    rw [eb, if_pos c1, if_pos (by decide)]
    rfl
  rw [if_neg c1]
  by_cases c2 : (l.getD 0 0).toNat < 224
  · have eb : bdN (l.getD 0 0).toNat = (1, 128, 191) := by unfold bdN; rw [if_neg c0, if_neg c1, if_pos c2]
    rw [eb, if_pos c2, if_neg (by decide), if_neg (by decide), if_pos (by decide), h1]
    have g := l0_go 8 l 1 128 191 ((l.getD 0 0).toNat % 32) 1 (by omega) (by omega) (by omega) (by omega)
    refine Eq.trans g ?_
    rw [if_neg (by omega)]
    by_cases d1 : l.length ≤ 1
    · rw [if_pos (by omega), if_pos d1]; rfl
    rw [if_neg (by omega), if_neg d1]
    by_cases d2 : (l.getD 1 0).toNat < 128
    · rw [if_pos d2, if_pos (by omega)]; rfl
    rw [if_neg d2]
    by_cases d3 : 191 < (l.getD 1 0).toNat
    · rw [if_pos d3, if_pos (by omega)]; rfl
    rw [if_neg d3, if_neg (by omega), l0_go 7 l 1 128 191 _ 2 (by omega) (by omega) (by omega) (by omega), if_pos (by omega)]
    rfl
  rw [if_neg c2]
  by_cases c3 : (l.getD 0 0).toNat < 240
  · obtain ⟨lo, hi, eb, hlh⟩ : ∃ lo hi : Nat, bdN (l.getD 0 0).toNat = (2, (lo : Int), (hi : Int)) ∧
        (((l.getD 1 0).toNat < lo ∨ hi < (l.getD 1 0).toNat) ↔ ((l.getD 1 0).toNat < 128 ∨ 191 < (l.getD 1 0).toNat ∨ ((l.getD 0 0).toNat = 224 ∧ (l.getD 1 0).toNat < 160) ∨ ((l.getD 0 0).toNat = 237 ∧ 159 < (l.getD 1 0).toNat))) := by
      unfold bdN
      rw [if_neg c0, if_neg c1, if_neg c2]
      by_cases f1 : (l.getD 0 0).toNat = 224
      · exact ⟨160, 191, by rw [if_pos f1]; rfl, by omega⟩
      by_cases f2 : (l.getD 0 0).toNat = 237
      · exact ⟨128, 159, by rw [if_neg f1, if_pos f2]; rfl, by omega⟩
      exact ⟨128, 191, by rw [if_neg f1, if_neg f2, if_pos c3]; rfl, by omega⟩
    rw [eb, if_pos c3, if_neg (show ¬ ((2 : Int) < 0) by decide), if_neg (show ¬ ((2 : Int) = 0) by decide), if_pos (show (0 : Int) ≤ 2 by decide), h2]
    have g := l0_go 8 l 2 lo hi ((l.getD 0 0).toNat % 16) 1 (by omega) (by omega) (by omega) (by omega)
    refine Eq.trans g ?_
    rw [if_neg (by omega)]
    by_cases d1 : l.length ≤ 1
    · rw [if_pos (by omega), if_pos d1]; rfl
    rw [if_neg (by omega), if_neg d1]
    by_cases d2 : (l.getD 1 0).toNat < lo
    · rw [if_pos d2, if_pos (hlh.1 (.inl d2))]; rfl
    rw [if_neg d2]
    by_cases d3 : hi < (l.getD 1 0).toNat
    · rw [if_pos d3, if_pos (hlh.1 (.inr d3))]; rfl
    rw [if_neg d3, if_neg (fun h => (hlh.2 h).elim d2 d3), l0_go 7 l 2 128 191 _ 2 (by omega) (by omega) (by omega) (by omega), if_neg (by omega)]
    by_cases d4 : l.length ≤ 2
    · rw [if_pos (by omega), if_pos d4]; rfl
    rw [if_neg (by omega), if_neg d4]
    by_cases d5 : (l.getD 2 0).toNat < 128
    · rw [if_pos d5, if_pos (by omega)]; rfl
    rw [if_neg d5]
    by_cases d6 : 191 < (l.getD 2 0).toNat
    · rw [if_pos d6, if_pos (by omega)]; rfl
    rw [if_neg d6, if_neg (by omega), l0_go 6 l 2 128 191 _ 3 (by omega) (by omega) (by omega) (by omega), if_pos (by omega)]
    refine congrArg some (Prod.ext ?_ rfl)
    show (_ : Int) = ((_ : Nat) : Int)
    omega
  rw [if_neg c3]
  by_cases c4 : (l.getD 0 0).toNat < 245
  · obtain ⟨lo, hi, eb, hlh⟩ : ∃ lo hi : Nat, bdN (l.getD 0 0).toNat = (3, (lo : Int), (hi : Int)) ∧
        (((l.getD 1 0).toNat < lo ∨ hi < (l.getD 1 0).toNat) ↔ ((l.getD 1 0).toNat < 128 ∨ 191 < (l.getD 1 0).toNat ∨ ((l.getD 0 0).toNat = 240 ∧ (l.getD 1 0).toNat < 144) ∨ ((l.getD 0 0).toNat = 244 ∧ 143 < (l.getD 1 0).toNat))) := by
      unfold bdN
      rw [if_neg c0, if_neg c1, if_neg c2, if_neg (by omega : ¬ (l.getD 0 0).toNat = 224), if_neg (by omega : ¬ (l.getD 0 0).toNat = 237), if_neg c3]
      by_cases f1 : (l.getD 0 0).toNat = 240
      · exact ⟨144, 191, by rw [if_pos f1]; rfl, by omega⟩
      by_cases f2 : (l.getD 0 0).toNat < 244
      · exact ⟨128, 191, by rw [if_neg f1, if_pos f2]; rfl, by omega⟩
      exact ⟨128, 143, by rw [if_neg f1, if_neg f2, if_pos (by omega)]; rfl, by omega⟩
    rw [eb, if_pos c4, if_neg (show ¬ ((3 : Int) < 0) by decide), if_neg (show ¬ ((3 : Int) = 0) by decide), if_pos (show (0 : Int) ≤ 3 by decide), h3]
    have g := l0_go 8 l 3 lo hi ((l.getD 0 0).toNat % 8) 1 (by omega) (by omega) (by omega) (by omega)
    refine Eq.trans g ?_
    rw [if_neg (by omega)]
    by_cases d1 : l.length ≤ 1
    · rw [if_pos (by omega), if_pos d1]; rfl
    rw [if_neg (by omega), if_neg d1]
    by_cases d2 : (l.getD 1 0).toNat < lo
    · rw [if_pos d2, if_pos (hlh.1 (.inl d2))]; rfl
    rw [if_neg d2]
    by_cases d3 : hi < (l.getD 1 0).toNat
    · rw [if_pos d3, if_pos (hlh.1 (.inr d3))]; rfl
    rw [if_neg d3, if_neg (fun h => (hlh.2 h).elim d2 d3), l0_go 7 l 3 128 191 _ 2 (by omega) (by omega) (by omega) (by omega), if_neg (by omega)]
    by_cases d4 : l.length ≤ 2
    · rw [if_pos (by omega), if_pos d4]; rfl
    rw [if_neg (by omega), if_neg d4]
    by_cases d5 : (l.getD 2 0).toNat < 128
    · rw [if_pos d5, if_pos (by omega)]; rfl
    rw [if_neg d5]
    by_cases d6 : 191 < (l.getD 2 0).toNat
    · rw [if_pos d6, if_pos (by omega)]; rfl
    rw [if_neg d6, if_neg (by omega), l0_go 6 l 3 128 191 _ 3 (by omega) (by omega) (by omega) (by omega), if_neg (by omega)]
    by_cases d7 : l.length ≤ 3
    · rw [if_pos (by omega), if_pos d7]; rfl
    rw [if_neg (by omega), if_neg d7]
    by_cases d8 : (l.getD 3 0).toNat < 128
    · rw [if_pos d8, if_pos (by omega)]; rfl
    rw [if_neg d8]
    by_cases d9 : 191 < (l.getD 3 0).toNat
    · rw [if_pos d9, if_pos (by omega)]; rfl
    rw [if_neg d9, if_neg (by omega), l0_go 5 l 3 128 191 _ 4 (by omega) (by omega) (by omega) (by omega), if_pos (by omega)]
    refine congrArg some (Prod.ext ?_ rfl)
    show (_ : Int) = ((_ : Nat) : Int)
    omega
  · have eb : bdN (l.getD 0 0).toNat = (-1, 0, 0) := by
      unfold bdN
      rw [if_neg c0, if_neg c1, if_neg c2, if_neg (by omega), if_neg (by omega), if_neg c3, if_neg (by omega), if_neg (by omega), if_neg (by omega)]
    rw [eb, if_neg c4, if_pos (by decide)]
    rfl
end Go.Proofs.Ytilpbfbnnmclhaa.P
end
section
/-
  Mended text in plain Lean: what stands for a text's bytes, and that a text and its mended form agree in all that ASCII asks of them.
-/
set_option linter.unusedVariables false
set_option linter.unusedSimpArgs false
namespace Go.Proofs.Ytilpbfbnnmclhaa.P
open Go.Lib

/-! ### the model's own conversion is the same -/
theorem encode_list (r : Int) : (Utf8.encode r).data.toList = encodeRune r := by
  unfold encodeRune
  by_cases hb : r < 0 ∨ (55296 ≤ r ∧ r ≤ 57343) ∨ 1114111 < r
  · have v : Utf8.valid r = false := by simp [Utf8.valid]; omega
    rw [encodeRuneZ_bad hb]
    simp [Utf8.encode, v, Utf8.runeError]
  have v : Utf8.valid r = true := by simp [Utf8.valid]; omega
  obtain ⟨n, rfl⟩ : ∃ n : Nat, r = n := ⟨r.toNat, by omega⟩
  by_cases c1 : n < 128
  · rw [encodeRuneZ_one (by omega) (by omega)]
    simp [Utf8.encode, v, c1]
  by_cases c2 : n < 2048
  · rw [encodeRuneZ_two (by omega) (by omega)]
    simp only [Utf8.encode, v, List.map_cons, List.map_nil]
    have e1 : ((192 : Int) + (n : Int) / 64).toNat = 192 + n / 64 := by omega
    have e2 : ((128 : Int) + (n : Int) % 64).toNat = 128 + n % 64 := by omega
    simp [c1, c2, e1, e2]
  by_cases c3 : n < 65536
  · rw [encodeRuneZ_three (by omega)]
    simp only [Utf8.encode, v, List.map_cons, List.map_nil]
    have e1 : ((224 : Int) + (n : Int) / 4096).toNat = 224 + n / 4096 := by omega
    have e2 : ((128 : Int) + (n : Int) / 64 % 64).toNat = 128 + n / 64 % 64 := by omega
    have e3 : ((128 : Int) + (n : Int) % 64).toNat = 128 + n % 64 := by omega
    simp [c1, c2, c3, e1, e2, e3]
  · rw [encodeRuneZ_four (by omega) (by omega)]
    simp only [Utf8.encode, v, List.map_cons, List.map_nil]
    have e0 : ((240 : Int) + (n : Int) / 262144).toNat = 240 + n / 262144 := by omega
    have e1 : ((128 : Int) + (n : Int) / 4096 % 64).toNat = 128 + n / 4096 % 64 := by omega
    have e2 : ((128 : Int) + (n : Int) / 64 % 64).toNat = 128 + n / 64 % 64 := by omega
    have e3 : ((128 : Int) + (n : Int) % 64).toNat = 128 + n % 64 := by omega
    simp [c1, c2, c3, e0, e1, e2, e3]
theorem runesBytes_go (xs : List Int) : ∀ a : ByteArray, (xs.foldl (fun r n => r ++ Utf8.encode n) a).data.toList = a.data.toList ++ text xs := by
  induction xs with
  | nil => intro a; simp [text_nil]
  | cons x t ih =>
    intro a
    rw [List.foldl_cons, ih, ByteArray.data_append, Array.toList_append, encode_list, text_cons, List.append_assoc]
theorem runesBytes_list (xs : List Int) : (runesBytes xs).data.toList = text xs := by
  unfold runesBytes
  rw [runesBytes_go]
  rfl

/-! ### mended -/
def mendL (l : List UInt8) : List UInt8 := text (runes l)
theorem rdL_ascii (b : UInt8) (l : List UInt8) (h : b.toNat < 128) : rdL (b :: l) = (b.toNat, 1, 0) := by
  unfold rdL rdN
  simp only [List.getD_cons_zero]
  rw [if_pos h]
/-! ### two texts that agree in their ASCII beginning, and in whether something stands behind it -/
inductive Agr : List UInt8 → List UInt8 → Prop
  | nil : Agr [] []
  | asc (b : UInt8) (l m : List UInt8) : b.toNat < 128 → Agr l m → Agr (b :: l) (b :: m)
  | hi (b c : UInt8) (l m : List UInt8) : 128 ≤ b.toNat → 128 ≤ c.toNat → Agr (b :: l) (c :: m)
theorem Agr.nil_iff {l m : List UInt8} (h : Agr l m) : l = [] ↔ m = [] := by cases h <;> simp
/-- an ASCII byte at the head -/
theorem Agr.head_iff {l m : List UInt8} (h : Agr l m) (c : UInt8) (hc : c.toNat < 128) : l.getD 0 0 = c ↔ m.getD 0 0 = c := by
  cases h with
  | nil => exact Iff.rfl
  | asc b l m hb h => exact Iff.rfl
  | hi b d l m hb hd =>
    simp only [List.getD_cons_zero]
    constructor
    · rintro rfl; omega
    · rintro rfl; omega
/-- up to place n both are the same, and behind it they agree -/
def Upto (n : Nat) (l m : List UInt8) : Prop := l.take n = m.take n ∧ Agr (l.drop n) (m.drop n) ∧ n ≤ l.length
theorem Upto.zero {l m : List UInt8} (h : Agr l m) : Upto 0 l m := ⟨by simp, by simpa using h, Nat.zero_le _⟩
theorem Upto.len {n : Nat} {l m : List UInt8} (h : Upto n l m) : n ≤ m.length := by
  have := congrArg List.length h.1
  rw [List.length_take, List.length_take] at this
  have := h.2.2
  omega
theorem getD_drop0 (l : List UInt8) (n : Nat) : (l.drop n).getD 0 0 = l.getD n 0 := by
  simp [List.getD_eq_getElem?_getD, List.getElem?_drop]
theorem Upto.len_iff {n : Nat} {l m : List UInt8} (h : Upto n l m) : n = l.length ↔ n = m.length := by
  have h1 := h.2.1.nil_iff
  have h2 := h.len
  have h3 := h.2.2
  rw [List.drop_eq_nil_iff, List.drop_eq_nil_iff] at h1
  omega
theorem Upto.lt_iff {n : Nat} {l m : List UInt8} (h : Upto n l m) : n < l.length ↔ n < m.length := by
  have h1 := h.len_iff
  have h2 := h.len
  have h3 := h.2.2
  omega
theorem Upto.at_iff {n : Nat} {l m : List UInt8} (h : Upto n l m) (c : UInt8) (hc : c.toNat < 128) : l.getD n 0 = c ↔ m.getD n 0 = c := by
  have := h.2.1.head_iff c hc
  rwa [getD_drop0, getD_drop0] at this
theorem Upto.before {n : Nat} {l m : List UInt8} (h : Upto n l m) (i : Nat) (hi : i < n) : l.getD i 0 = m.getD i 0 := by
  have e := congrArg (fun x : List UInt8 => x[i]?) h.1
  simp only [List.getElem?_take, if_pos hi] at e
  rw [List.getD_eq_getElem?_getD, List.getD_eq_getElem?_getD, e]
theorem Upto.succ {n : Nat} {l m : List UInt8} (h : Upto n l m) (hlt : n < l.length) (hb : (l.getD n 0).toNat < 128) : Upto (n + 1) l m := by
  have hm := h.lt_iff.1 hlt
  have e := (h.at_iff _ hb).1 rfl
  have a := h.2.1
  rw [lenS n hlt, lenS n hm, e] at a
  refine ⟨?_, ?_, hlt⟩
  · rw [List.take_succ_eq_append_getElem hlt, List.take_succ_eq_append_getElem hm, h.1]
    have e1 : l.getD n 0 = l[n] := by rw [List.getD_eq_getElem?_getD, List.getElem?_eq_getElem hlt]; rfl
    have e2 : m.getD n 0 = m[n] := by rw [List.getD_eq_getElem?_getD, List.getElem?_eq_getElem hm]; rfl
    rw [← e1, ← e2, e]
  · cases a with
    | asc b l m hb h => exact h
    | hi b c l m hb' hc => omega
end Go.Proofs.Ytilpbfbnnmclhaa.P
end
section
/-
  The document's answer for bytes and runes, in plain Lean: its runes are 'runes', its text is 'text'.
-/
namespace Go.Proofs.Ytilpbfbnnmclhaa.P
open Go.RowKit Go.Proofs.YtilpbfbnnmclhaaW.PrintWords Go.Proofs.YtilpbfbnnmclhaaW.PrintLast Go.Proofs.YtilpbfbnnmclhaaW.PrintMore
set_option linter.unusedVariables false
set_option linter.unusedSimpArgs false

abbrev Pc := S67
def sizeN (b : Nat) : Nat := if b < 128 then 1 else if b < 194 then 0 else if b < 224 then 2 else if b < 240 then 3 else if b < 245 then 4 else 0
theorem size_all : ∀ b : Fin 256, sieveref01_size.f 9 ((b.val : Nat) : Int) = some ((sizeN b.val : Nat) : Int) := by decide +kernel
theorem size_f (k b : Nat) (h : b < 256) : sieveref01_size.f (k + 2) (b : Int) = some ((sizeN b : Nat) : Int) :=
  (show sieveref01_size.f (k + 2) (b : Int) = sieveref01_size.f 9 (b : Int) from rfl).trans (size_all ⟨b, h⟩)
def secN (c d : Nat) : Bool := decide (¬ (d < 128 ∨ 191 < d ∨ (c = 224 ∧ d < 160) ∨ (c = 237 ∧ 159 < d) ∨ (c = 240 ∧ d < 144) ∨ (c = 244 ∧ 143 < d)))
theorem second_f (c d : Nat) : sieveref01_second.f (c : Int) (d : Int) = some (secN c d) := by
  unfold sieveref01_second.f secN
  by_cases h1 : c = 224
  · rw [if_pos (by omega)]
    by_cases h : d ≥ 160
    · rw [if_pos (by omega)]
      congr 1
      rw [decide_eq_decide]
      omega
    · rw [if_neg (by omega)]
      congr 1
      symm
      rw [decide_eq_false_iff_not]
      omega
  rw [if_neg (by omega)]
  by_cases h2 : c = 237
  · rw [if_pos (by omega)]
    by_cases h : d ≥ 128
    · rw [if_pos (by omega)]
      congr 1
      rw [decide_eq_decide]
      omega
    · rw [if_neg (by omega)]
      congr 1
      symm
      rw [decide_eq_false_iff_not]
      omega
  rw [if_neg (by omega)]
  by_cases h3 : c = 240
  · rw [if_pos (by omega)]
    by_cases h : d ≥ 144
    · rw [if_pos (by omega)]
      congr 1
      rw [decide_eq_decide]
      omega
    · rw [if_neg (by omega)]
      congr 1
      symm
      rw [decide_eq_false_iff_not]
      omega
  rw [if_neg (by omega)]
  by_cases h4 : c = 244
  · rw [if_pos (by omega)]
    by_cases h : d ≥ 128
    · rw [if_pos (by omega)]
      congr 1
      rw [decide_eq_decide]
      omega
    · rw [if_neg (by omega)]
      congr 1
      symm
      rw [decide_eq_false_iff_not]
      omega
  rw [if_neg (by omega)]
  by_cases h : d ≥ 128
  · rw [if_pos (by omega)]
    congr 1
    rw [decide_eq_decide]
    omega
  · rw [if_neg (by omega)]
    congr 1
    symm
    rw [decide_eq_false_iff_not]
    omega

theorem good_l0 (k : Nat) (l : List UInt8) (n i : Nat) (h1 : 1 ≤ i) (h4 : i ≤ 4) (hn : n ≤ 4) :
    sieveref01_good.l0 (k + 2) (zs l) (n : Int) (i : Int) =
      if i < n ∧ i < l.length then
        (if i = 1 ∧ secN (l.getD 0 0).toNat (l.getD 1 0).toNat = false then some ((i : Int), decide (i = n))
         else if i ≠ 1 ∧ ((l.getD i 0).toNat < 128 ∨ 191 < (l.getD i 0).toNat) then some ((i : Int), decide (i = n))
         else sieveref01_good.l0 k (zs l) (n : Int) ((i + 1 : Nat) : Int))
      else some ((i : Int), decide (i = n)) := by
  have hbd : ((i : Int) == (n : Int)) = decide (i = n) := by rw [Bool.eq_iff_iff, beq_iff_eq, decide_eq_true_iff]; omega
  have e1 : wrap64 ((i : Int) + 1) = ((i + 1 : Nat) : Int) := by unfold wrap64; omega
  rw [sieveref01_good.l0, zs_length]
  by_cases c1 : i < n
  · rw [if_pos (by omega), sieveref01_good.j1, zs_length, hbd, e1]
    by_cases c2 : i < l.length
    · rw [if_pos (by rw [decide_eq_true_iff]; omega), if_pos (show i < n ∧ i < l.length from ⟨c1, c2⟩)]
      by_cases c3 : i = 1
      · subst c3
        have r0 : rd (zs l) 0 = ((l.getD 0 0).toNat : Int) := rd_zs l 0
        have r1 : rd (zs l) 1 = ((l.getD 1 0).toNat : Int) := rd_zs l 1
        rw [if_pos (by omega), if_pos (by omega), if_pos (by omega), r0, r1, second_f, Option.bind_some]
        by_cases c4 : secN (l.getD 0 0).toNat (l.getD 1 0).toNat = true
        · rw [if_pos c4, if_neg (by omega), if_neg (show ¬ (1 = 1 ∧ secN (l.getD 0 0).toNat (l.getD 1 0).toNat = false) from fun h => by rw [c4] at h; cases h.2), if_neg (show ¬ ((1 : Nat) ≠ 1 ∧ _) from fun h => h.1 rfl)]
        · rw [if_neg c4, if_pos (show 1 = 1 ∧ secN (l.getD 0 0).toNat (l.getD 1 0).toNat = false from ⟨rfl, Bool.eq_false_iff.2 c4⟩)]
      · rw [if_neg (by omega), if_pos (by omega), if_pos (by omega), if_pos (by omega), rd_zs, if_neg (show ¬ (i = 1 ∧ _) from fun h => c3 h.1)]
        by_cases c4 : (l.getD i 0).toNat < 128
        · rw [if_pos (by omega), if_pos (show i ≠ 1 ∧ _ from ⟨c3, .inl c4⟩)]
        · rw [if_neg (by omega)]
          by_cases c5 : 191 < (l.getD i 0).toNat
          · rw [if_pos (by omega), if_pos (show i ≠ 1 ∧ _ from ⟨c3, .inr c5⟩)]
          · rw [if_neg (by omega), if_neg (show ¬ (i ≠ 1 ∧ _) from fun h => h.2.elim c4 c5)]
    · rw [if_neg (by rw [decide_eq_true_iff]; omega), if_neg (show ¬ (i < n ∧ i < l.length) from fun h => c2 h.2)]
  · rw [if_neg (by omega), sieveref01_good.j1, hbd, if_neg (by decide), if_neg (show ¬ (i < n ∧ i < l.length) from fun h => c1 h.1)]

/-- how many bytes of the character at the head are good, if it has n -/
def goW (n len b0 b1 b2 b3 : Nat) : Nat :=
  if 1 < n ∧ 1 < len then
    (if b1 < 128 ∨ 191 < b1 ∨ (b0 = 224 ∧ b1 < 160) ∨ (b0 = 237 ∧ 159 < b1) ∨ (b0 = 240 ∧ b1 < 144) ∨ (b0 = 244 ∧ 143 < b1) then 1
     else if 2 < n ∧ 2 < len then
      (if b2 < 128 ∨ 191 < b2 then 2
       else if 3 < n ∧ 3 < len then (if b3 < 128 ∨ 191 < b3 then 3 else 4) else 3)
     else 2)
  else 1
theorem good_go (k : Nat) (l : List UInt8) (n : Nat) (hn : n ≤ 4) :
    sieveref01_good.l0 (k + 8) (zs l) (n : Int) 1 = some ((goW n l.length (l.getD 0 0).toNat (l.getD 1 0).toNat (l.getD 2 0).toNat (l.getD 3 0).toNat : Int), decide (goW n l.length (l.getD 0 0).toNat (l.getD 1 0).toNat (l.getD 2 0).toNat (l.getD 3 0).toNat = n)) := by
  have g1 := good_l0 (k + 6) l n 1 (by omega) (by omega) hn
  have g2 := good_l0 (k + 4) l n 2 (by omega) (by omega) hn
  have g3 := good_l0 (k + 2) l n 3 (by omega) (by omega) hn
  have g4 := good_l0 k l n 4 (by omega) (by omega) hn
  refine Eq.trans g1 ?_
  unfold goW
  have hs : (1 = 1 ∧ secN (l.getD 0 0).toNat (l.getD 1 0).toNat = false) ↔ ((l.getD 1 0).toNat < 128 ∨ 191 < (l.getD 1 0).toNat ∨ ((l.getD 0 0).toNat = 224 ∧ (l.getD 1 0).toNat < 160) ∨ ((l.getD 0 0).toNat = 237 ∧ 159 < (l.getD 1 0).toNat) ∨ ((l.getD 0 0).toNat = 240 ∧ (l.getD 1 0).toNat < 144) ∨ ((l.getD 0 0).toNat = 244 ∧ 143 < (l.getD 1 0).toNat)) := by
    unfold secN
    rw [decide_eq_false_iff_not, Decidable.not_not]
    exact ⟨fun h => h.2, fun h => ⟨rfl, h⟩⟩
  by_cases c1 : 1 < n ∧ 1 < l.length
  · rw [if_pos c1, if_pos c1]
    by_cases d1 : 1 = 1 ∧ secN (l.getD 0 0).toNat (l.getD 1 0).toNat = false
    · rw [if_pos d1, if_pos (hs.1 d1)]
    rw [if_neg d1, if_neg (fun h => d1 (hs.2 h)), if_neg (show ¬ ((1 : Nat) ≠ 1 ∧ _) from fun h => h.1 rfl)]
    refine Eq.trans g2 ?_
    by_cases c2 : 2 < n ∧ 2 < l.length
    · rw [if_pos c2, if_pos c2, if_neg (show ¬ ((2 : Nat) = 1 ∧ _) from fun h => absurd h.1 (by decide))]
      by_cases d2 : (l.getD 2 0).toNat < 128 ∨ 191 < (l.getD 2 0).toNat
      · rw [if_pos d2, if_pos (show (2 : Nat) ≠ 1 ∧ _ from ⟨by decide, d2⟩)]
      rw [if_neg d2, if_neg (show ¬ ((2 : Nat) ≠ 1 ∧ _) from fun h => d2 h.2)]
      refine Eq.trans g3 ?_
      by_cases c3 : 3 < n ∧ 3 < l.length
      · rw [if_pos c3, if_pos c3, if_neg (show ¬ ((3 : Nat) = 1 ∧ _) from fun h => absurd h.1 (by decide))]
        by_cases d3 : (l.getD 3 0).toNat < 128 ∨ 191 < (l.getD 3 0).toNat
        · rw [if_pos d3, if_pos (show (3 : Nat) ≠ 1 ∧ _ from ⟨by decide, d3⟩)]
        rw [if_neg d3, if_neg (show ¬ ((3 : Nat) ≠ 1 ∧ _) from fun h => d3 h.2)]
        refine Eq.trans g4 ?_
        rw [if_neg (by omega)]
      · rw [if_neg c3, if_neg c3]
    · rw [if_neg c2, if_neg c2]
  · rw [if_neg c1, if_neg c1]
theorem goW_facts (n len b0 b1 b2 b3 : Nat) :
    (¬ (1 < n ∧ 1 < len) → goW n len b0 b1 b2 b3 = 1) ∧
    (1 < n ∧ 1 < len → (b1 < 128 ∨ 191 < b1 ∨ (b0 = 224 ∧ b1 < 160) ∨ (b0 = 237 ∧ 159 < b1) ∨ (b0 = 240 ∧ b1 < 144) ∨ (b0 = 244 ∧ 143 < b1)) → goW n len b0 b1 b2 b3 = 1) ∧
    (1 < n ∧ 1 < len → ¬ (b1 < 128 ∨ 191 < b1 ∨ (b0 = 224 ∧ b1 < 160) ∨ (b0 = 237 ∧ 159 < b1) ∨ (b0 = 240 ∧ b1 < 144) ∨ (b0 = 244 ∧ 143 < b1)) →
      (¬ (2 < n ∧ 2 < len) → goW n len b0 b1 b2 b3 = 2) ∧
      (2 < n ∧ 2 < len → (b2 < 128 ∨ 191 < b2) → goW n len b0 b1 b2 b3 = 2) ∧
      (2 < n ∧ 2 < len → ¬ (b2 < 128 ∨ 191 < b2) →
        (¬ (3 < n ∧ 3 < len) → goW n len b0 b1 b2 b3 = 3) ∧
        (3 < n ∧ 3 < len → (b3 < 128 ∨ 191 < b3) → goW n len b0 b1 b2 b3 = 3) ∧
        (3 < n ∧ 3 < len → ¬ (b3 < 128 ∨ 191 < b3) → goW n len b0 b1 b2 b3 = 4))) := by
  unfold goW
  refine ⟨fun h => by rw [if_neg h], fun h h2 => by rw [if_pos h, if_pos h2], fun h h2 => ?_⟩
  rw [if_pos h, if_neg h2]
  refine ⟨fun h => by rw [if_neg h], fun h h2 => by rw [if_pos h, if_pos h2], fun h h2 => ?_⟩
  rw [if_pos h, if_neg h2]
  exact ⟨fun h => by rw [if_neg h], fun h h2 => by rw [if_pos h, if_pos h2], fun h h2 => by rw [if_pos h, if_neg h2]⟩
theorem sizeN_facts (b : Nat) : (b < 128 ∧ sizeN b = 1) ∨ (128 ≤ b ∧ b < 194 ∧ sizeN b = 0) ∨ (194 ≤ b ∧ b < 224 ∧ sizeN b = 2) ∨ (224 ≤ b ∧ b < 240 ∧ sizeN b = 3) ∨ (240 ≤ b ∧ b < 245 ∧ sizeN b = 4) ∨ (245 ≤ b ∧ sizeN b = 0) := by
  unfold sizeN
  by_cases h1 : b < 128
  · rw [if_pos h1]; omega
  rw [if_neg h1]
  by_cases h2 : b < 194
  · rw [if_pos h2]; omega
  rw [if_neg h2]
  by_cases h3 : b < 224
  · rw [if_pos h3]; omega
  rw [if_neg h3]
  by_cases h4 : b < 240
  · rw [if_pos h4]; omega
  rw [if_neg h4]
  by_cases h5 : b < 245
  · rw [if_pos h5]; omega
  rw [if_neg h5]
  omega
theorem sizeN_le (b : Nat) : sizeN b ≤ 4 := by have := sizeN_facts b; omega
def GoodN (z g : Nat) (r : Nat × Nat × Nat) : Prop := r.2.1 = g ∧ (r.2.2 = 0 ↔ g = z)
theorem GoodN.ok {z g x a : Nat} (h : g = a) (hz : a = z) : GoodN z g (x, a, 0) := ⟨h.symm, fun _ => h.trans hz, fun _ => rfl⟩
theorem GoodN.no {z g x a c : Nat} (h : g = a) (hz : a ≠ z) (hc : c ≠ 0) : GoodN z g (x, a, c) := ⟨h.symm, fun e => absurd e hc, fun e => absurd (h.symm.trans e) hz⟩
theorem rdN_good (n b0 b1 b2 b3 : Nat) (hn : 1 ≤ n) (h0 : sizeN b0 ≠ 0) : GoodN (sizeN b0) (goW (sizeN b0) n b0 b1 b2 b3) (rdN n b0 b1 b2 b3) := by
  have f1 := sizeN_facts b0
  have f2 := goW_facts (sizeN b0) n b0 b1 b2 b3
  generalize goW (sizeN b0) n b0 b1 b2 b3 = g at *
  generalize sizeN b0 = z at *
  have F2 := Aside0.mk f2
  clear f2
  unfold rdN
  by_cases c0 : b0 < 128
  · rw [if_pos c0]
    have := F2.out.1 (by omega)
    first | exact GoodN.ok this rfl | exact GoodN.no this (by decide) (by decide) | exact GoodN.ok this (by omega)
  rw [if_neg c0]
  by_cases c1 : b0 < 194
  · omega
  rw [if_neg c1]
  by_cases c2 : b0 < 224
  · rw [if_pos c2]
    have hz : z = 2 := by omega
    subst hz
    by_cases d1 : n ≤ 1
    · rw [if_pos d1]
      have := F2.out.1 (by omega)
      first | exact GoodN.ok this rfl | exact GoodN.no this (by decide) (by decide) | exact GoodN.ok this (by omega)
    rw [if_neg d1]
    by_cases d2 : b1 < 128 ∨ 191 < b1
    · rw [if_pos d2]
      have := F2.out.2.1 (by omega) (by omega)
      first | exact GoodN.ok this rfl | exact GoodN.no this (by decide) (by decide) | exact GoodN.ok this (by omega)
    · rw [if_neg d2]
      have := (F2.out.2.2 (by omega) (by omega)).1 (by omega)
      first | exact GoodN.ok this rfl | exact GoodN.no this (by decide) (by decide) | exact GoodN.ok this (by omega)
  rw [if_neg c2]
  by_cases c3 : b0 < 240
  · rw [if_pos c3]
    have hz : z = 3 := by omega
    subst hz
    by_cases d1 : n ≤ 1
    · rw [if_pos d1]
      have := F2.out.1 (by omega)
      first | exact GoodN.ok this rfl | exact GoodN.no this (by decide) (by decide) | exact GoodN.ok this (by omega)
    rw [if_neg d1]
    by_cases d2 : b1 < 128 ∨ 191 < b1 ∨ (b0 = 224 ∧ b1 < 160) ∨ (b0 = 237 ∧ 159 < b1)
    · rw [if_pos d2]
      have := F2.out.2.1 (by omega) (by omega)
      first | exact GoodN.ok this rfl | exact GoodN.no this (by decide) (by decide) | exact GoodN.ok this (by omega)
    rw [if_neg d2]
    have F3 := Aside0.mk (F2.out.2.2 (by omega) (by omega))
    by_cases d3 : n ≤ 2
    · rw [if_pos d3]
      have := F3.out.1 (by omega)
      first | exact GoodN.ok this rfl | exact GoodN.no this (by decide) (by decide) | exact GoodN.ok this (by omega)
    rw [if_neg d3]
    by_cases d4 : b2 < 128 ∨ 191 < b2
    · rw [if_pos d4]
      have := F3.out.2.1 (by omega) (by omega)
      first | exact GoodN.ok this rfl | exact GoodN.no this (by decide) (by decide) | exact GoodN.ok this (by omega)
    · rw [if_neg d4]
      have := (F3.out.2.2 (by omega) (by omega)).1 (by omega)
      first | exact GoodN.ok this rfl | exact GoodN.no this (by decide) (by decide) | exact GoodN.ok this (by omega)
  rw [if_neg c3]
  by_cases c4 : b0 < 245
  · rw [if_pos c4]
    have hz : z = 4 := by omega
    subst hz
    by_cases d1 : n ≤ 1
    · rw [if_pos d1]
      have := F2.out.1 (by omega)
      first | exact GoodN.ok this rfl | exact GoodN.no this (by decide) (by decide) | exact GoodN.ok this (by omega)
    rw [if_neg d1]
    by_cases d2 : b1 < 128 ∨ 191 < b1 ∨ (b0 = 240 ∧ b1 < 144) ∨ (b0 = 244 ∧ 143 < b1)
    · rw [if_pos d2]
      have := F2.out.2.1 (by omega) (by omega)
      first | exact GoodN.ok this rfl | exact GoodN.no this (by decide) (by decide) | exact GoodN.ok this (by omega)
    rw [if_neg d2]
    have F3 := Aside0.mk (F2.out.2.2 (by omega) (by omega))
    by_cases d3 : n ≤ 2
    · rw [if_pos d3]
      have := F3.out.1 (by omega)
      first | exact GoodN.ok this rfl | exact GoodN.no this (by decide) (by decide) | exact GoodN.ok this (by omega)
    rw [if_neg d3]
    by_cases d4 : b2 < 128 ∨ 191 < b2
    · rw [if_pos d4]
      have := F3.out.2.1 (by omega) (by omega)
      first | exact GoodN.ok this rfl | exact GoodN.no this (by decide) (by decide) | exact GoodN.ok this (by omega)
    rw [if_neg d4]
    have F4 := Aside0.mk (F3.out.2.2 (by omega) (by omega))
    by_cases d5 : n ≤ 3
    · rw [if_pos d5]
      have := F4.out.1 (by omega)
      first | exact GoodN.ok this rfl | exact GoodN.no this (by decide) (by decide) | exact GoodN.ok this (by omega)
    rw [if_neg d5]
    by_cases d6 : b3 < 128 ∨ 191 < b3
    · rw [if_pos d6]
      have := F4.out.2.1 (by omega) (by omega)
      first | exact GoodN.ok this rfl | exact GoodN.no this (by decide) (by decide) | exact GoodN.ok this (by omega)
    · rw [if_neg d6]
      have := F4.out.2.2 (by omega) (by omega)
      first | exact GoodN.ok this rfl | exact GoodN.no this (by decide) (by decide) | exact GoodN.ok this (by omega)
  · omega

/-- what 'good' tells -/
def goodL (l : List UInt8) : Int × Bool := if sizeN (l.getD 0 0).toNat = 0 then (0, false) else (((rdL l).2.1 : Nat), decide ((rdL l).2.2 = 0))
theorem good_f (k : Nat) (l : List UInt8) (hne : l ≠ []) : sieveref01_good.f (k + 8) (zs l) = some (goodL l) := by
  have hl : 0 < l.length := List.length_pos_iff.2 hne
  have q0 := (l.getD 0 0).toNat_lt
  have r0 : rd (zs l) 0 = ((l.getD 0 0).toNat : Int) := rd_zs l 0
  unfold sieveref01_good.f goodL
  rw [zs_length, if_pos (by omega), r0, size_f (k + 6) _ q0, Option.bind_some]
  by_cases h0 : sizeN (l.getD 0 0).toNat = 0
  · rw [if_pos h0, if_pos (by omega)]
  · have h := rdN_good l.length (l.getD 0 0).toNat (l.getD 1 0).toNat (l.getD 2 0).toNat (l.getD 3 0).toNat (by omega) h0
    unfold GoodN at h
    rw [if_neg h0, if_neg (by omega), good_go k l _ (sizeN_le _)]
    unfold rdL
    rw [← h.1]
    congr 2
    rw [decide_eq_decide, h.1]
    exact h.2.symm

/-! ### pieces -/
def piecesGo : Nat → Nat → List UInt8 → List Pc
  | 0, _, _ => []
  | f + 1, p, l => if l = [] then [] else ⟨((rdL l).1 : Nat), (p : Nat), ((rdL l).2.1 : Nat), decide ((rdL l).2.2 = 0)⟩ :: piecesGo f (p + (rdL l).2.1) (l.drop (rdL l).2.1)
theorem piecesGo_runes : ∀ (f p : Nat) (l : List UInt8), (piecesGo f p l).map (fun x => x.f0) = runesGo f l
  | 0, p, l => rfl
  | f + 1, p, l => by
    unfold piecesGo runesGo
    by_cases h : l = []
    · rw [if_pos h, if_pos h]
      rfl
    · rw [if_neg h, if_neg h, List.map_cons, piecesGo_runes f]
theorem piecesGo_len : ∀ (f p : Nat) (l : List UInt8), (piecesGo f p l).length ≤ l.length
  | 0, p, l => Nat.zero_le _
  | f + 1, p, l => by
    unfold piecesGo
    by_cases h : l = []
    · rw [if_pos h]
      exact Nat.zero_le _
    · rw [if_neg h, List.length_cons]
      have := piecesGo_len f (p + (rdL l).2.1) (l.drop (rdL l).2.1)
      have h1 := (rdL_facts l h).1
      have hl : 0 < l.length := List.length_pos_iff.2 h
      rw [List.length_drop] at this
      omega
def ValN (n z b0 b1 b2 b3 : Nat) (r : Nat × Nat × Nat) : Prop :=
  (z = 0 → r.2.1 = 1 ∧ r.2.2 ≠ 0) ∧ (r.2.2 = 0 → r.2.1 = z ∧ 1 ≤ z ∧ z ≤ n ∧
    r.1 = (if z = 1 then b0 else if z = 2 then b0 % 32 * 64 + b1 % 64 else if z = 3 then b0 % 16 * 4096 + b1 % 64 * 64 + b2 % 64 else b0 % 8 * 262144 + b1 % 64 * 4096 + b2 % 64 * 64 + b3 % 64))
theorem rdN_val (n b0 b1 b2 b3 : Nat) (hn : 1 ≤ n) : ValN n (sizeN b0) b0 b1 b2 b3 (rdN n b0 b1 b2 b3) := by
  have f1 := sizeN_facts b0
  generalize sizeN b0 = z at *
  have w1 : ∀ (a : Nat), ValN n 0 b0 b1 b2 b3 (65533, 1, 1) := fun a => ⟨fun _ => ⟨rfl, by decide⟩, fun h => absurd h (by decide)⟩
  have w2 : ∀ (a c : Nat), z ≠ 0 → c ≠ 0 → ValN n z b0 b1 b2 b3 (65533, a, c) := fun a c hz hc => ⟨fun h => absurd h hz, fun h => absurd h hc⟩
  unfold rdN
  by_cases c0 : b0 < 128
  · rw [if_pos c0]
    obtain rfl : z = 1 := by omega
    exact ⟨fun h => absurd h (by decide), fun _ => ⟨rfl, Nat.le_refl _, hn, by rw [if_pos rfl]⟩⟩
  rw [if_neg c0]
  by_cases c1 : b0 < 194
  · rw [if_pos c1]
    obtain rfl : z = 0 := by omega
    exact w1 0
  rw [if_neg c1]
  by_cases c2 : b0 < 224
  · rw [if_pos c2]
    obtain rfl : z = 2 := by omega
    by_cases d1 : n ≤ 1
    · rw [if_pos d1]; exact w2 _ _ (by decide) (by decide)
    rw [if_neg d1]
    by_cases d2 : b1 < 128 ∨ 191 < b1
    · rw [if_pos d2]; exact w2 _ _ (by decide) (by decide)
    · rw [if_neg d2]
      exact ⟨fun h => absurd h (by decide), fun _ => ⟨rfl, by decide, by omega, by rw [if_neg (by decide), if_pos rfl]⟩⟩
  rw [if_neg c2]
  by_cases c3 : b0 < 240
  · rw [if_pos c3]
    obtain rfl : z = 3 := by omega
    by_cases d1 : n ≤ 1
    · rw [if_pos d1]; exact w2 _ _ (by decide) (by decide)
    rw [if_neg d1]
    by_cases d2 : b1 < 128 ∨ 191 < b1 ∨ (b0 = 224 ∧ b1 < 160) ∨ (b0 = 237 ∧ 159 < b1)
    · rw [if_pos d2]; exact w2 _ _ (by decide) (by decide)
    rw [if_neg d2]
    by_cases d3 : n ≤ 2
    · rw [if_pos d3]; exact w2 _ _ (by decide) (by decide)
    rw [if_neg d3]
    by_cases d4 : b2 < 128 ∨ 191 < b2
    · rw [if_pos d4]; exact w2 _ _ (by decide) (by decide)
    · rw [if_neg d4]
      exact ⟨fun h => absurd h (by decide), fun _ => ⟨rfl, by decide, by omega, by rw [if_neg (by decide), if_neg (by decide), if_pos rfl]⟩⟩
  rw [if_neg c3]
  by_cases c4 : b0 < 245
  · rw [if_pos c4]
    obtain rfl : z = 4 := by omega
    by_cases d1 : n ≤ 1
    · rw [if_pos d1]; exact w2 _ _ (by decide) (by decide)
    rw [if_neg d1]
    by_cases d2 : b1 < 128 ∨ 191 < b1 ∨ (b0 = 240 ∧ b1 < 144) ∨ (b0 = 244 ∧ 143 < b1)
    · rw [if_pos d2]; exact w2 _ _ (by decide) (by decide)
    rw [if_neg d2]
    by_cases d3 : n ≤ 2
    · rw [if_pos d3]; exact w2 _ _ (by decide) (by decide)
    rw [if_neg d3]
    by_cases d4 : b2 < 128 ∨ 191 < b2
    · rw [if_pos d4]; exact w2 _ _ (by decide) (by decide)
    rw [if_neg d4]
    by_cases d5 : n ≤ 3
    · rw [if_pos d5]; exact w2 _ _ (by decide) (by decide)
    rw [if_neg d5]
    by_cases d6 : b3 < 128 ∨ 191 < b3
    · rw [if_pos d6]; exact w2 _ _ (by decide) (by decide)
    · rw [if_neg d6]
      exact ⟨fun h => absurd h (by decide), fun _ => ⟨rfl, by decide, by omega, by rw [if_neg (by decide), if_neg (by decide), if_neg (by decide)]⟩⟩
  · rw [if_neg c4]
    obtain rfl : z = 0 := by omega
    exact w1 0
theorem tmod_nat (a b : Nat) : Int.tmod (a : Int) (b : Int) = ((a % b : Nat) : Int) := (Int.ofNat_tmod a b).symm
theorem wrap32_nat (a : Nat) (h : a < 2147483648) : wrap32 (a : Int) = (a : Int) := by unfold wrap32; omega
theorem l1_go (k : Nat) (l : List UInt8) (hl : l.length ≤ 1099511627776) (out : List Pc) (p n x i : Nat) (t0 t1 t2 : Int) (b : Bool) (hp : p + n ≤ l.length) (hn : n ≤ 4) (hi : i < n) (hx : x < 33554431) :
    sieveref01_Pieces.l1 (k + 1) (zs l) out (p : Int) (n : Int) (x : Int) (i : Int) t0 t1 t2 b =
      sieveref01_Pieces.l1 k (zs l) out (p : Int) (n : Int) ((x * 64 + (l.getD (p + i) 0).toNat % 64 : Nat) : Int) ((i + 1 : Nat) : Int) t0 t1 t2 b := by
  have q := (l.getD (p + i) 0).toNat_lt
  have e0 : wrap64 ((p : Int) + (i : Int)) = ((p + i : Nat) : Int) := by unfold wrap64; omega
  have e1 : wrap64 ((i : Int) + 1) = ((i + 1 : Nat) : Int) := by clear e0; unfold wrap64; omega
  have e2 : wrap32 ((x : Int) * 64) = ((x * 64 : Nat) : Int) := by clear e0 e1; unfold wrap32; omega
  have e3 : Int.tmod (((l.getD (p + i) 0).toNat : Nat) : Int) 64 = (((l.getD (p + i) 0).toNat % 64 : Nat) : Int) := tmod_nat _ 64
  rw [sieveref01_Pieces.l1, zs_length, if_pos (by omega), e0, if_pos (by omega), if_pos (by omega), rd_zs, e1, e2, wrap32_nat _ (by omega), e3]
  have e4 : wrap32 (((x * 64 : Nat) : Int) + (((l.getD (p + i) 0).toNat % 64 : Nat) : Int)) = ((x * 64 + (l.getD (p + i) 0).toNat % 64 : Nat) : Int) := by
    generalize (l.getD (p + i) 0).toNat = z at *
    clear e0 e1 e2 e3
    unfold wrap32
    omega
  rw [e4]
theorem l1_end (k : Nat) (l : List UInt8) (out : List Pc) (ho : out.length < 4398046511104) (p n x i : Nat) (t0 t1 t2 : Int) (b : Bool) (hi : n ≤ i) :
    sieveref01_Pieces.l1 (k + 1) (zs l) out (p : Int) (n : Int) (x : Int) (i : Int) t0 t1 t2 b = sieveref01_Pieces.l0 k (zs l) (out ++ [⟨(x : Int), t1, t2, b⟩]) (wrap64 ((p : Int) + t2)) := by
  rw [sieveref01_Pieces.l1, if_neg (by omega), if_pos ho]
theorem getD_drop (l : List UInt8) (p i : Nat) : (l.drop p).getD i 0 = l.getD (p + i) 0 := by
  simp [List.getD_eq_getElem?_getD, List.getElem?_drop]
/-- a whole character, byte by byte -/
theorem l1_all (k : Nat) (l : List UInt8) (hl : l.length ≤ 1099511627776) (out : List Pc) (ho : out.length < 4398046511104) (p n : Nat) (hn1 : 1 ≤ n) (hn4 : n ≤ 4) (hp : p + n ≤ l.length) (b0 b1 b2 b3 : Nat) (hb : b0 < 256)
    (e1 : (l.getD (p + 1) 0).toNat = b1) (e2 : (l.getD (p + 2) 0).toNat = b2) (e3 : (l.getD (p + 3) 0).toNat = b3) :
    ∃ j, k ≤ j ∧ (if (n : Int) = 2 then sieveref01_Pieces.j2 (k + 7) (zs l) out (p : Int) (n : Int) ((b0 % 32 : Nat) : Int) 65533 (p : Int) (n : Int) true
      else if (n : Int) = 3 then sieveref01_Pieces.j2 (k + 7) (zs l) out (p : Int) (n : Int) ((b0 % 16 : Nat) : Int) 65533 (p : Int) (n : Int) true
      else if (n : Int) = 4 then sieveref01_Pieces.j2 (k + 7) (zs l) out (p : Int) (n : Int) ((b0 % 8 : Nat) : Int) 65533 (p : Int) (n : Int) true
      else sieveref01_Pieces.j2 (k + 7) (zs l) out (p : Int) (n : Int) (b0 : Int) 65533 (p : Int) (n : Int) true) =
    sieveref01_Pieces.l0 j (zs l) (out ++ [⟨((if n = 1 then b0 else if n = 2 then b0 % 32 * 64 + b1 % 64 else if n = 3 then b0 % 16 * 4096 + b1 % 64 * 64 + b2 % 64 else b0 % 8 * 262144 + b1 % 64 * 4096 + b2 % 64 * 64 + b3 % 64 : Nat) : Int), (p : Int), (n : Int), true⟩]) (wrap64 ((p : Int) + (n : Int))) := by
  have hn : n = 1 ∨ n = 2 ∨ n = 3 ∨ n = 4 := by omega
  rcases hn with rfl | rfl | rfl | rfl
  · have s1 := l1_end (k + 5) l out ho p 1 b0 1 65533 (p : Int) ((1 : Nat) : Int) true (by omega)
    refine ⟨k + 5, by omega, ?_⟩
    rw [if_neg (by decide), if_neg (by decide), if_neg (by decide), if_pos rfl, sieveref01_Pieces.j2]
    exact s1
  · have s1 := l1_go (k + 5) l hl out p 2 (b0 % 32) 1 65533 (p : Int) ((2 : Nat) : Int) true hp (by omega) (by omega) (by omega)
    have s2 := l1_end (k + 4) l out ho p 2 (b0 % 32 * 64 + b1 % 64) 2 65533 (p : Int) ((2 : Nat) : Int) true (by omega)
    rw [e1] at s1
    refine ⟨k + 4, by omega, ?_⟩
    rw [if_pos (by decide), if_neg (by decide), if_pos rfl, sieveref01_Pieces.j2]
    exact s1.trans s2
  · have s1 := l1_go (k + 5) l hl out p 3 (b0 % 16) 1 65533 (p : Int) ((3 : Nat) : Int) true hp (by omega) (by omega) (by omega)
    have s2 := l1_go (k + 4) l hl out p 3 (b0 % 16 * 64 + b1 % 64) 2 65533 (p : Int) ((3 : Nat) : Int) true hp (by omega) (by omega) (by omega)
    have s3 := l1_end (k + 3) l out ho p 3 ((b0 % 16 * 64 + b1 % 64) * 64 + b2 % 64) 3 65533 (p : Int) ((3 : Nat) : Int) true (by omega)
    rw [e1] at s1
    rw [e2] at s2
    refine ⟨k + 3, by omega, ?_⟩
    rw [if_neg (by decide), if_pos (by decide), if_neg (by decide), if_neg (by decide), if_pos rfl, sieveref01_Pieces.j2, show b0 % 16 * 4096 + b1 % 64 * 64 + b2 % 64 = (b0 % 16 * 64 + b1 % 64) * 64 + b2 % 64 by omega]
    exact s1.trans (s2.trans s3)
  · have s1 := l1_go (k + 5) l hl out p 4 (b0 % 8) 1 65533 (p : Int) ((4 : Nat) : Int) true hp (by omega) (by omega) (by omega)
    have s2 := l1_go (k + 4) l hl out p 4 (b0 % 8 * 64 + b1 % 64) 2 65533 (p : Int) ((4 : Nat) : Int) true hp (by omega) (by omega) (by omega)
    have s3 := l1_go (k + 3) l hl out p 4 ((b0 % 8 * 64 + b1 % 64) * 64 + b2 % 64) 3 65533 (p : Int) ((4 : Nat) : Int) true hp (by omega) (by omega) (by omega)
    have s4 := l1_end (k + 2) l out ho p 4 (((b0 % 8 * 64 + b1 % 64) * 64 + b2 % 64) * 64 + b3 % 64) 4 65533 (p : Int) ((4 : Nat) : Int) true (by omega)
    rw [e1] at s1
    rw [e2] at s2
    rw [e3] at s3
    refine ⟨k + 2, by omega, ?_⟩
    rw [if_neg (by decide), if_neg (by decide), if_pos (by decide), if_neg (by decide), if_neg (by decide), if_neg (by decide), sieveref01_Pieces.j2,
      show b0 % 8 * 262144 + b1 % 64 * 4096 + b2 % 64 * 64 + b3 % 64 = ((b0 % 8 * 64 + b1 % 64) * 64 + b2 % 64) * 64 + b3 % 64 by omega]
    exact s1.trans (s2.trans (s3.trans s4))
/-- one round -/
theorem pieces_step (k : Nat) (l : List UInt8) (hl : l.length ≤ 1099511627776) (out : List Pc) (ho : out.length < 4398046511104) (p : Nat) (hp : p < l.length) :
    ∃ j, k ≤ j ∧ sieveref01_Pieces.l0 (k + 9) (zs l) out (p : Int) = sieveref01_Pieces.l0 j (zs l) (out ++ [⟨((rdL (l.drop p)).1 : Nat), (p : Nat), ((rdL (l.drop p)).2.1 : Nat), decide ((rdL (l.drop p)).2.2 = 0)⟩]) ((p + (rdL (l.drop p)).2.1 : Nat) : Int) := by
  have hne : l.drop p ≠ [] := by
    rw [ne_eq, List.drop_eq_nil_iff]
    omega
  have hf := rdL_facts _ hne
  have hdl : (l.drop p).length = l.length - p := by rw [List.length_drop]
  have hd0 : (zs l).drop p = zs (l.drop p) := by unfold zs; rw [List.map_drop]
  have hv : ValN (l.drop p).length (sizeN ((l.drop p).getD 0 0).toNat) ((l.drop p).getD 0 0).toNat ((l.drop p).getD 1 0).toNat ((l.drop p).getD 2 0).toNat ((l.drop p).getD 3 0).toNat (rdL (l.drop p)) := rdN_val _ _ _ _ _ (by rw [hdl]; omega)
  rw [getD_drop, getD_drop, getD_drop, getD_drop, Nat.add_zero] at hv
  rw [sieveref01_Pieces.l0, zs_length, if_pos (by omega), if_pos (by omega), if_pos (by omega), Int.toNat_natCast, hd0, good_f k _ hne, Option.bind_some]
  unfold goodL
  rw [getD_drop, Nat.add_zero]
  have q0 := (l.getD p 0).toNat_lt
  have hs4 := sizeN_le (l.getD p 0).toNat
  rw [hdl] at hv hf
  have HD := Aside0.mk hd0
  clear hd0
  generalize rdL (l.drop p) = q at *
  obtain ⟨q1, q2, q3⟩ := q
  unfold FactsN at hf
  simp only at hf
  have hf3 := hf.2.2.2.2.2
  have hf1 := hf.1
  have hf2 := hf.2.1
  clear hf
  have hw : wrap64 ((p : Int) + (q2 : Int)) = ((p + q2 : Nat) : Int) := by
    clear hv hf3
    unfold wrap64
    omega
  have HW := Aside0.mk hw
  clear hw
  simp only
  rw [← HW.out]
  by_cases c0 : sizeN (l.getD p 0).toNat = 0
  · obtain ⟨hw1, hw2⟩ := hv.1 c0
    simp only at hw1 hw2
    rw [if_pos c0]
    simp only
    rw [if_pos trivial, sieveref01_Pieces.j1, if_neg (by decide), if_pos ho, decide_eq_false hw2, hf3 hw2, hw1]
    exact ⟨k + 7, by omega, rfl⟩
  · rw [if_neg c0]
    simp only
    rw [if_neg (by omega), sieveref01_Pieces.j1]
    by_cases c1 : q3 = 0
    · obtain ⟨v1, v2, v3, v4⟩ := hv.2 c1
      simp only at v1 v4
      have e32 : Int.tmod (((l.getD p 0).toNat : Nat) : Int) 32 = (((l.getD p 0).toNat % 32 : Nat) : Int) := tmod_nat _ 32
      have e16 : Int.tmod (((l.getD p 0).toNat : Nat) : Int) 16 = (((l.getD p 0).toNat % 16 : Nat) : Int) := tmod_nat _ 16
      have e8 : Int.tmod (((l.getD p 0).toNat : Nat) : Int) 8 = (((l.getD p 0).toNat % 8 : Nat) : Int) := tmod_nat _ 8
      rw [decide_eq_true c1, if_pos rfl, if_pos (by omega), if_pos (by rw [zs_length]; omega), rd_zs, wrap32_nat _ (by omega), e32, e16, e8, v4, ← v1]
      exact l1_all k l hl out ho p q2 (by omega) (by omega) (by omega) (l.getD p 0).toNat _ _ _ q0 rfl rfl rfl
    · rw [decide_eq_false c1, if_neg (by decide), if_pos ho, hf3 c1]
      exact ⟨k + 7, by omega, rfl⟩
theorem pieces_go (l : List UInt8) (hl : l.length ≤ 1099511627776) : ∀ (d p : Nat) (out : List Pc), l.length - p = d → p ≤ l.length → out.length ≤ p →
    ∃ k, sieveref01_Pieces.l0 k (zs l) out (p : Int) = some (out ++ piecesGo (l.length - p) p (l.drop p)) := by
  intro d
  induction d using Nat.strongRecOn with
  | _ d ih =>
    intro p out hd hp hop
    by_cases c : p < l.length
    · have hne : l.drop p ≠ [] := by
        rw [ne_eq, List.drop_eq_nil_iff]
        omega
      have hf := rdL_facts _ hne
      have hdl : (l.drop p).length = l.length - p := by rw [List.length_drop]
      have h1 := hf.1
      have h2 := hf.2.1
      rw [hdl] at h2
      obtain ⟨k, hk⟩ := ih (l.length - (p + (rdL (l.drop p)).2.1)) (by omega) (p + (rdL (l.drop p)).2.1) (out ++ [⟨((rdL (l.drop p)).1 : Nat), (p : Nat), ((rdL (l.drop p)).2.1 : Nat), decide ((rdL (l.drop p)).2.2 = 0)⟩]) rfl (by omega) (by rw [List.length_append, List.length_singleton]; omega)
      obtain ⟨j, hj, e⟩ := pieces_step k l hl out (by omega) p c
      refine ⟨k + 9, ?_⟩
      rw [e, at_rounds (fun k => (sieveref01_Pieces.mono_l k).1 _ _ _) hj hk]
      congr 1
      obtain ⟨f, hf2⟩ : ∃ f, l.length - p = f + 1 := ⟨l.length - p - 1, by omega⟩
      rw [hf2, piecesGo, if_neg hne, List.append_assoc, List.singleton_append, List.drop_drop]
      congr 2
      have : ∀ (f g : Nat) (q : Nat) (m : List UInt8), m.length ≤ f → m.length ≤ g → piecesGo f q m = piecesGo g q m := by
        intro f
        induction f with
        | zero =>
          intro g q m hf hg
          obtain rfl : m = [] := List.eq_nil_of_length_eq_zero (by omega)
          cases g <;> simp [piecesGo]
        | succ f ih =>
          intro g q m hf hg
          cases g with
          | zero =>
            obtain rfl : m = [] := List.eq_nil_of_length_eq_zero (by omega)
            simp [piecesGo]
          | succ g =>
            unfold piecesGo
            by_cases hm : m = []
            · rw [if_pos hm, if_pos hm]
            · have := (rdL_facts m hm).1
              have hml : 0 < m.length := List.length_pos_iff.2 hm
              rw [if_neg hm, if_neg hm, ih g _ _ (by rw [List.length_drop]; omega) (by rw [List.length_drop]; omega)]
      exact this _ _ _ _ (by rw [List.length_drop]; omega) (by rw [List.length_drop]; omega)
    · have e : l.length - p = 0 := by omega
      refine ⟨1, ?_⟩
      rw [sieveref01_Pieces.l0, zs_length, if_neg (by omega), e, piecesGo, List.append_nil]
theorem pieces_f (l : List UInt8) (hl : l.length ≤ 1099511627776) : ∃ k, sieveref01_Pieces.f k (zs l) = some (piecesGo l.length 0 l) := by
  obtain ⟨k, hk⟩ := pieces_go l hl l.length 0 [] (by omega) (by omega) (Nat.le_refl _)
  refine ⟨k, ?_⟩
  unfold sieveref01_Pieces.f
  rw [Nat.sub_zero, List.drop_zero, List.nil_append] at hk
  exact hk
theorem runes_l0 (xs : List Pc) (hx : xs.length ≤ 1099511627776) : ∀ (d i k : Nat) (out : List Int), xs.length - i = d → i ≤ xs.length → out.length = i → d + 1 ≤ k →
    sieveref01_Runes.l0 k out xs (xs.length : Int) (i : Int) = some (out ++ (xs.drop i).map (fun x => x.f0))
  | 0, i, k, out, hd, hi, ho, hk => by
    obtain ⟨k, rfl⟩ : ∃ j, k = j + 1 := ⟨k - 1, by omega⟩
    obtain rfl : i = xs.length := by omega
    rw [sieveref01_Runes.l0, if_neg (by omega), List.drop_length, List.map_nil, List.append_nil]
  | d + 1, i, k, out, hd, hi, ho, hk => by
    obtain ⟨k, rfl⟩ : ∃ j, k = j + 1 := ⟨k - 1, by omega⟩
    have hlt : i < xs.length := by omega
    have e1 : wrap64 ((i : Int) + 1) = ((i + 1 : Nat) : Int) := by unfold wrap64; omega
    have er : rd_T67 xs (i : Int) = xs[i] := by
      unfold rd_T67
      rw [Int.toNat_natCast, List.getD_eq_getElem?_getD, List.getElem?_eq_getElem hlt]
      rfl
    rw [sieveref01_Runes.l0, if_pos (by omega), if_pos (by omega), if_pos (by omega), if_pos (by omega), e1, er, runes_l0 xs hx d (i + 1) k _ (by omega) (by omega) (by rw [List.length_append, List.length_singleton]; omega) (by omega)]
    rw [List.drop_eq_getElem_cons hlt, List.map_cons, List.append_assoc, List.singleton_append]
theorem runes_f (l : List UInt8) (hl : l.length ≤ 1099511627776) : ∃ k, sieveref01_Runes.f k (zs l) = some (runes l) := by
  obtain ⟨k, hk⟩ := pieces_f l hl
  have hlen := piecesGo_len l.length 0 l
  have h2 := runes_l0 (piecesGo l.length 0 l) (by omega) _ 0 (k + (piecesGo l.length 0 l).length + 1) [] rfl (by omega) rfl (by omega)
  refine ⟨k + (piecesGo l.length 0 l).length + 1, ?_⟩
  unfold sieveref01_Runes.f
  rw [at_rounds (sieveref01_Pieces.mono _) (by omega) hk, Option.bind_some]
  refine Eq.trans h2 ?_
  rw [List.nil_append, List.drop_zero, piecesGo_runes]
  rfl

end Go.Proofs.Ytilpbfbnnmclhaa.P
end
section
/-
  The document's answer for bytes and runes, in plain Lean: the text of runes is 'text'.
-/
namespace Go.Proofs.Ytilpbfbnnmclhaa.P
open Go.RowKit Go.Proofs.YtilpbfbnnmclhaaW.PrintWords Go.Proofs.YtilpbfbnnmclhaaW.PrintLast Go.Proofs.YtilpbfbnnmclhaaW.PrintMore
set_option linter.unusedVariables false
set_option linter.unusedSimpArgs false

/-! ### runes to bytes -/
theorem char_f (r : Int) : sieveref01_Char.f r = some (decide (goodR r)) := by
  have hg : goodR r ↔ (0 ≤ r ∧ r < 55296) ∨ (57344 ≤ r ∧ r ≤ 1114111) := Iff.rfl
  unfold sieveref01_Char.f
  by_cases h0 : r ≥ 0
  · rw [if_pos h0]
    by_cases h1 : r ≤ 1114111
    · rw [if_pos h1]
      by_cases h2 : r < 55296
      · rw [if_pos h2, decide_eq_true (hg.2 (by omega))]
      · rw [if_neg h2]
        congr 1
        rw [decide_eq_decide, hg]
        omega
    · rw [if_neg h1, decide_eq_false (fun h => by have := hg.1 h; omega)]
  · rw [if_neg h0, decide_eq_false (fun h => by have := hg.1 h; omega)]
theorem width_f (r : Int) (h : goodR r) : sieveref01_Width.f r = some (if r < 128 then 1 else if r < 2048 then 2 else if r < 65536 then 3 else 4) := by
  unfold sieveref01_Width.f
  rw [char_f, decide_eq_true h, Option.bind_some, if_pos rfl]
  repeat' split
  all_goals rfl
theorem zs_encode (z : List Int) (h : ∀ x ∈ z, 0 ≤ x ∧ x < 256) : zs (z.map fun x => x.toNat.toUInt8) = z := by
  unfold zs
  rw [List.map_map]
  conv => rhs; rw [← List.map_id z]
  refine List.map_congr_left fun x hx => ?_
  have := h x hx
  have e : (x.toNat.toUInt8).toNat = x.toNat % 256 := by simp
  show (((x.toNat.toUInt8).toNat : Nat) : Int) = x
  rw [e]
  omega
theorem tdiv_nat (a b : Nat) : Int.tdiv (a : Int) (b : Int) = ((a / b : Nat) : Int) := (Int.ofNat_tdiv a b).symm
theorem wrap_byte (a b : Nat) (h : a + b < 256) : wrap32 ((a : Int) + (b : Int)) % 256 = (a : Int) + (b : Int) := by unfold wrap32; omega
theorem enc_hi (c r m : Nat) (h : c + r / m < 256) : wrap32 ((c : Int) + wrap32 (Int.tdiv (r : Int) (m : Int))) % 256 = (c : Int) + (r : Int) / (m : Int) := by
  rw [tdiv_nat, wrap32_nat _ (by omega), wrap_byte _ _ h, Int.natCast_ediv]
theorem enc_mid (r m : Nat) (h : r / m < 2147483648) : wrap32 (((128 : Nat) : Int) + Int.tmod (wrap32 (Int.tdiv (r : Int) (m : Int))) ((64 : Nat) : Int)) % 256 = ((128 : Nat) : Int) + (r : Int) / (m : Int) % ((64 : Nat) : Int) := by
  rw [tdiv_nat, wrap32_nat _ h, tmod_nat, wrap_byte _ _ (by omega), Int.natCast_emod, Int.natCast_ediv]
theorem enc_lo (r : Nat) : wrap32 (((128 : Nat) : Int) + Int.tmod (r : Int) ((64 : Nat) : Int)) % 256 = ((128 : Nat) : Int) + (r : Int) % ((64 : Nat) : Int) := by
  rw [tmod_nat, wrap_byte _ _ (by omega), Int.natCast_emod]
theorem bytes_j0 (k : Nat) (r : Nat) (h : goodR (r : Int)) : sieveref01_bytesOf.j0 (k + 1) (r : Int) = some (Lib.encodeRuneZ (r : Int)) := by
  have hr : (r < 55296) ∨ (57344 ≤ r ∧ r ≤ 1114111) := by unfold goodR at h; omega
  rw [sieveref01_bytesOf.j0, width_f _ h, Option.bind_some]
  have lo : wrap32 (128 + Int.tmod (r : Int) 64) % 256 = 128 + (r : Int) % 64 := enc_lo r
  by_cases c1 : r < 128
  · rw [if_pos (show (r : Int) < 128 by omega), if_pos rfl, Lib.encodeRuneZ_one (by omega) (by omega), show (r : Int) % 256 = r by omega]
  rw [if_neg (show ¬ (r : Int) < 128 by omega)]
  by_cases c2 : r < 2048
  · have hi : wrap32 (192 + wrap32 (Int.tdiv (r : Int) 64)) % 256 = 192 + (r : Int) / 64 := enc_hi 192 r 64 (by omega)
    rw [if_pos (show (r : Int) < 2048 by omega), if_neg (by decide), if_pos rfl, Lib.encodeRuneZ_two (by omega) (by omega), hi, lo]
  rw [if_neg (show ¬ (r : Int) < 2048 by omega)]
  by_cases c3 : r < 65536
  · have hi : wrap32 (224 + wrap32 (Int.tdiv (r : Int) 4096)) % 256 = 224 + (r : Int) / 4096 := enc_hi 224 r 4096 (by omega)
    have mi : wrap32 (128 + Int.tmod (wrap32 (Int.tdiv (r : Int) 64)) 64) % 256 = 128 + (r : Int) / 64 % 64 := enc_mid r 64 (by omega)
    rw [if_pos (show (r : Int) < 65536 by omega), if_neg (by decide), if_neg (by decide), if_pos rfl, Lib.encodeRuneZ_three (by omega), hi, mi, lo]
  · have hi : wrap32 (240 + wrap32 (Int.tdiv (r : Int) 262144)) % 256 = 240 + (r : Int) / 262144 := enc_hi 240 r 262144 (by omega)
    have m2 : wrap32 (128 + Int.tmod (wrap32 (Int.tdiv (r : Int) 4096)) 64) % 256 = 128 + (r : Int) / 4096 % 64 := enc_mid r 4096 (by omega)
    have mi : wrap32 (128 + Int.tmod (wrap32 (Int.tdiv (r : Int) 64)) 64) % 256 = 128 + (r : Int) / 64 % 64 := enc_mid r 64 (by omega)
    rw [if_neg (show ¬ (r : Int) < 65536 by omega), if_neg (by decide), if_neg (by decide), if_neg (by decide), Lib.encodeRuneZ_four (by omega) (by omega), hi, m2, mi, lo]
theorem bytesOf_f (k : Nat) (r : Int) : sieveref01_bytesOf.f (k + 1) r = some (zs (Lib.encodeRune r)) := by
  unfold sieveref01_bytesOf.f Lib.encodeRune
  rw [zs_encode _ (Lib.encodeRuneZ_byte r), char_f, Option.bind_some]
  by_cases h : goodR r
  · rw [decide_eq_true h, if_pos rfl]
    obtain ⟨n, rfl⟩ : ∃ n : Nat, r = n := ⟨r.toNat, by unfold goodR at h; omega⟩
    exact bytes_j0 k n h
  · rw [decide_eq_false h, if_neg (by decide)]
    rw [Lib.encodeRuneZ_bad (by unfold goodR at h; omega)]
    exact (bytes_j0 k 65533 (by decide)).trans (by decide)
theorem encode_len (r : Int) : 1 ≤ (Lib.encodeRune r).length ∧ (Lib.encodeRune r).length ≤ 4 := by
  unfold Lib.encodeRune
  rw [List.length_map]
  exact Lib.encodeRuneZ_length r
theorem bytes_l0 (xs : List Int) (hx : xs.length ≤ 4398046511104) : ∀ (d i k : Nat) (out : List UInt8), xs.length - i = d → i ≤ xs.length → out.length ≤ 4 * i → d + 2 ≤ k →
    sieveref01_Bytes.l0 k (zs out) xs (xs.length : Int) (i : Int) = some (zs (out ++ text (xs.drop i)))
  | 0, i, k, out, hd, hi, ho, hk => by
    obtain ⟨k, rfl⟩ : ∃ j, k = j + 1 := ⟨k - 1, by omega⟩
    obtain rfl : i = xs.length := by omega
    rw [sieveref01_Bytes.l0, if_neg (by omega), List.drop_length, text_nil, List.append_nil]
  | d + 1, i, k, out, hd, hi, ho, hk => by
    obtain ⟨k, rfl⟩ : ∃ j, k = j + 2 := ⟨k - 2, by omega⟩
    have hlt : i < xs.length := by omega
    have e1 : wrap64 ((i : Int) + 1) = ((i + 1 : Nat) : Int) := by unfold wrap64; omega
    have er : rd xs (i : Int) = xs[i] := by
      unfold rd
      rw [Int.toNat_natCast, List.getD_eq_getElem?_getD, List.getElem?_eq_getElem hlt]
      rfl
    have hz : zs out ++ zs (Lib.encodeRune xs[i]) = zs (out ++ Lib.encodeRune xs[i]) := by unfold zs; rw [List.map_append]
    have h4 := (encode_len xs[i]).2
    rw [sieveref01_Bytes.l0, if_pos (by omega), if_pos (by omega), if_pos (by omega), er, bytesOf_f, Option.bind_some, zs_length, zs_length, if_pos (by omega), hz, e1,
      bytes_l0 xs hx d (i + 1) (k + 1) _ (by omega) (by omega) (by rw [List.length_append]; omega) (by omega)]
    rw [List.drop_eq_getElem_cons hlt, text_cons, List.append_assoc]
theorem text_f (xs : List Int) (hx : xs.length ≤ 4398046511104) (k : Nat) (hk : xs.length + 2 ≤ k) : sieveref01_Text.f k xs = some ⟨(text xs).toArray⟩ := by
  unfold sieveref01_Text.f sieveref01_Bytes.f
  have h := bytes_l0 xs hx xs.length 0 k [] (by omega) (by omega) (Nat.zero_le _) (by omega)
  rw [show sieveref01_Bytes.l0 k ([] : List Int) xs (xs.length : Int) 0 = some (zs ([] ++ text (xs.drop 0))) from h, Option.bind_some, List.nil_append, List.drop_zero]
  congr 1
  have : zs (text xs) = (text xs).map fun b => (b.toNat : Int) := rfl
  rw [this]
  unfold strOfNums
  rw [List.map_map]
  congr 2
  conv => rhs; rw [← List.map_id (text xs)]
  refine List.map_congr_left fun b _ => ?_
  show UInt8.ofNat ((b.toNat : Int)).toNat = b
  rw [Int.toNat_natCast]
  exact UInt8.ofNat_toNat
end Go.Proofs.Ytilpbfbnnmclhaa.P
end
section
/-
  sieveref01.Mend: the text of the runes of a text's bytes.
-/
namespace Go.Proofs.Ytilpbfbnnmclhaa.P
open Go.RowKit Go.Proofs.YtilpbfbnnmclhaaW.PrintWords Go.Proofs.YtilpbfbnnmclhaaW.PrintLast Go.Proofs.YtilpbfbnnmclhaaW.PrintMore
set_option linter.unusedVariables false
set_option linter.unusedSimpArgs false

def sieveref01_Mend.f (s : ByteArray) : Option ByteArray := if s.size ≤ 1099511627776 then some ⟨(mendL s.data.toList).toArray⟩ else none

theorem runes_len : ∀ (n : Nat) (l : List UInt8), l.length ≤ n → (runes l).length ≤ l.length
  | 0, l, h => by
    obtain rfl : l = [] := List.eq_nil_of_length_eq_zero (by omega)
    exact Nat.le_refl _
  | n + 1, l, h => by
    by_cases hne : l = []
    · subst hne
      exact Nat.le_refl _
    · have hw := (rdL_facts l hne).1
      have hl : 0 < l.length := List.length_pos_iff.2 hne
      rw [runes_step l hne, List.length_cons]
      have := runes_len n (l.drop (rdL l).2.1) (by rw [List.length_drop]; omega)
      rw [List.length_drop] at this
      omega
/-- a text's bytes, made: what a call may read -/
theorem bytes_read (w : World) (s : ByteArray) (h : s.size ≤ 140737488355328) : Kd.C (Kd.int .u8) (Lib.bytesWorld w 5 s) (some ⟨w.heap.size, 0, none⟩) (zs s.data.toList).length (zs s.data.toList) := by
  have hz : (zs s.data.toList).length = s.size := by simp [zs]
  rw [hz]
  exact Kd.C_of_reads (enc := Value.int .u8) (d := (0 : Int)) (h1 := fun _ => rfl) ⟨by simp [zs], by omega, fun _ => ⟨_, rfl, fun j hj => by
    rw [add_plain, Lib.bytesWorld_cell w 5 s j hj]
    have := rd_zs s.data.toList j
    unfold rd at this
    rw [Int.toNat_natCast] at this
    rw [this]⟩⟩

set_option maxRecDepth 100000 in
set_option maxHeartbeats 4000000 in
theorem sieveref01_Mend.calls (s : ByteArray) (r : ByteArray) (w : World) (h : sieveref01_Mend.f s = some r) :
    Calls Try.prog 14 #[.string s] w fun e w' => e = .returned (.string r) ∧ Below w.heap.size w w' := by
  unfold sieveref01_Mend.f at h
  by_cases hsz : s.size ≤ 1099511627776
  case neg => rw [if_neg hsz] at h; cases h
  rw [if_pos hsz] at h
  have hr := Option.some.inj h
  clear h
  have HR := Aside0.mk hr
  clear hr
  have hl : s.data.toList.length = s.size := by simp
  have hcv := Lib.run_convert_string_bytes (P := Try.prog) w 9 31 5 s Try.underlying9 Try.underlying31 Try.underlying5
  have hbb := Lib.bytesWorld_below w 5 s
  have hbs := Lib.bytesWorld_size w 5 s
  have hrd := bytes_read w s (by omega)
  have hz : (zs s.data.toList).length = s.size := by simp [zs]
  obtain ⟨k1, hk1⟩ := runes_f s.data.toList (by omega)
  have hrl := runes_len _ s.data.toList (Nat.le_refl _)
  have hk2 := text_f (runes s.data.toList) (by omega) ((runes s.data.toList).length + 2) (Nat.le_refl _)
  have hgc : (zs s.data.toList).length ≤ Go.grownCap w s.size 0 5 := by rw [hz]; exact grownCap_ge _ _ _ _
  have hcall := sieveref01_Runes.calls k1 (some ⟨w.heap.size, 0, none⟩) (Go.grownCap w s.size 0 5) (zs s.data.toList) _ _ hrd hgc hk1
  rw [hz] at hcall
  have HC := Aside0.mk hcall
  have HBB := Aside0.mk hbb
  have HK2 := Aside0.mk hk2
  clear hcall hrd hz hbb hk1 hk2 hrl hl hgc
  go_enter Try.func14, Try.ntmps14
  go_wp2_with (first | (go_at_call 15; refine HC.out.mono ?_; rintro e w2 ⟨v, rfl, hR, hb2⟩; obtain ⟨A2, c2, rfl, hc2, hC2⟩ := Kd.R_reads hR) | (go_at_call 30; refine (sieveref01_Text.calls _ A2 c2 _ _ _ hC2 hc2 HK2.out).mono ?_; rintro e w3 ⟨rfl, hb3⟩))
  go_ret
  refine ⟨?_, (HBB.out.trans (hb2.mono (by omega))).trans (hb3.mono ?_)⟩
  · rw [← HR.out]
    rfl
  · have := hb2.size
    omega
end Go.Proofs.Ytilpbfbnnmclhaa.P
end
section
/-
  Runes to a text: the conversion 'string(runes)' of a row that is read and of a row of the call's own.
-/
namespace Go.Proofs.Ytilpbfbnnmclhaa.P
open Go.RowKit Go.Proofs.YtilpbfbnnmclhaaW.PrintWords Go.Proofs.YtilpbfbnnmclhaaW.PrintLast Go.Proofs.YtilpbfbnnmclhaaW.PrintMore
set_option linter.unusedVariables false

def Hc_text (xs : List Int) : ByteArray := runesBytes xs

theorem Hc_of_reads {P : Program} {w : World} {src dst e : TypeId} {A : Option Addr} {n c : Nat} {xs : List Int} (hs : P.underlying src = some (.slice e)) (he : P.underlying e = some (.int .i32)) (hd : P.underlying dst = some .string)
    (h : ReadsInt w .i32 A n xs) : (convert src dst (.slice A n c)).run P w = .ok (.string (Hc_text xs)) w := by
  have hn : xs.length = n := h.1
  rcases A with _ | ad
  · have h0 : n = 0 := by
      rcases Nat.eq_zero_or_pos n with h0 | h0
      · exact h0
      · obtain ⟨ad, h', _⟩ := h.2.2 h0
        cases h'
    subst h0
    obtain rfl : xs = [] := List.eq_nil_of_length_eq_zero hn
    exact run_convert_runes_nil w src dst e 0 c hs he hd
  · have := run_convert_runes (P := P) w src dst e ad n c xs (by omega) hs he hd (fun j hj => by
      obtain ⟨ad', he', hc⟩ := h.2.2 (by omega)
      injection he' with he'
      subst he'
      exact hc j (by omega))
    rw [List.take_of_length_le (by omega)] at this
    exact this
theorem Hc_own_runes {P : Program} {w : World} {base n : Nat} {e' src dst e : TypeId} {v : Value} {xs : List Int} (hs : P.underlying src = some (.slice e)) (he : P.underlying e = some (.int .i32)) (hd : P.underlying dst = some .string)
    (h : w.ownsRow base e' 1 v n (nums .i32 xs)) : (convert src dst v).run P w = .ok (.string (Hc_text xs)) w := by
  obtain ⟨A, c, rfl, hr⟩ := own_reads h
  exact Hc_of_reads hs he hd hr
end Go.Proofs.Ytilpbfbnnmclhaa.P
end
