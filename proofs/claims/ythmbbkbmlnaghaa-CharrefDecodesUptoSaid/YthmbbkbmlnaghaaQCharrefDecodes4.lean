/-
  Part 5 of 7 of the proof's texts, joined: PA4, Utf, Lmend, Lvalid, Lplain, Lw, Hall, Hread, Lr01, Lr01b, Hrmend.
  (Where a joined text began as one that the kit's print.sh printed, it is trimmed here to what this claim uses, by this session's pack.py.)
-/
import Derived.Test.YthmbbkbmlnaghaaQCharrefDecodes0
import Derived.Test.YthmbbkbmlnaghaaQCharrefDecodes1
import Derived.Test.YthmbbkbmlnaghaaQCharrefDecodes2
import Derived.Test.YthmbbkbmlnaghaaQCharrefDecodes3
import Derived.Lib.ValidLaws
import Derived.Lib.RuneBytes
import Derived.Laws.Cover4
import Derived.RangeFuncNested
import Derived.RangeFuncBound
import Derived.RangeFuncCalls
import Derived.RangeFuncLeaves
import Derived.RangeFuncBox
import Derived.Shelf.Abstract
import Derived.OwnWalkIn
import Derived.TacticsInMore
import Derived.LoopNIn
import Derived.LoopIn
import Derived.Lib.Hide
import Derived.Laws.BitsAllLaws
import Derived.Lib.AtoiErrMem
section
namespace Go.Proofs.Ythmbbkbmlnaghaa.P
open Go.RowKit Go.Proofs.YthmbbkbmlnaghaaW.PrintWords Go.Proofs.YthmbbkbmlnaghaaW.PrintLast Go.Proofs.YthmbbkbmlnaghaaW.PrintMore
attribute [local go_sem] max2_int min2_int max_two min_two max_three min_three max_four min_four   -- for this text's walks alone
set_option linter.unusedVariables false
set_option linter.unusedSimpArgs false

/-! ### sieveref01_Pieces: function 32 -/
mutual
def sieveref01_Pieces.l0 : Nat → List Int → List (S71) → Int → Option ((List (S71)))
 | 0, _, _, _ => none
 | k + 1, x0, x3, x4 => if x4 < (x0.length : Int) then (if 0 ≤ x4 then (if x4 ≤ (x0.length : Int) then ((sieveref01_good.f k (x0.drop (x4 : Int).toNat)).bind fun bt151 => (if bt151.1 = 0 then (sieveref01_Pieces.j1 k x0 x3 x4 bt151.1 bt151.2 65533 x4 1 bt151.2) else (sieveref01_Pieces.j1 k x0 x3 x4 bt151.1 bt151.2 65533 x4 bt151.1 bt151.2))) else (none)) else (none)) else (some x3)
def sieveref01_Pieces.j1 : Nat → List Int → List (S71) → Int → Int → Bool → Int → Int → Int → Bool → Option ((List (S71)))
 | 0, _, _, _, _, _, _, _, _, _ => none
 | k + 1, x0, x3, x4, x5, x6, x154000, x154001, x154002, x154003 => if x6 = true then (if 0 ≤ x4 then (if x4 < (x0.length : Int) then (if x5 = 2 then (sieveref01_Pieces.j2 k x0 x3 x4 x5 (Int.tmod (wrap32 (rd x0 x4)) 32) x154000 x154001 x154002 x154003) else (if x5 = 3 then (sieveref01_Pieces.j2 k x0 x3 x4 x5 (Int.tmod (wrap32 (rd x0 x4)) 16) x154000 x154001 x154002 x154003) else (if x5 = 4 then (sieveref01_Pieces.j2 k x0 x3 x4 x5 (Int.tmod (wrap32 (rd x0 x4)) 8) x154000 x154001 x154002 x154003) else (sieveref01_Pieces.j2 k x0 x3 x4 x5 (wrap32 (rd x0 x4)) x154000 x154001 x154002 x154003)))) else (none)) else (none)) else (if x3.length < 4398046511104 then (sieveref01_Pieces.l0 k x0 (x3 ++ [(⟨x154000, x154001, x154002, x154003⟩ : S71)]) (wrap64 (x4 + x154002))) else (none))
def sieveref01_Pieces.j2 : Nat → List Int → List (S71) → Int → Int → Int → Int → Int → Int → Bool → Option ((List (S71)))
 | 0, _, _, _, _, _, _, _, _, _ => none
 | k + 1, x0, x3, x4, x5, x8, x154000, x154001, x154002, x154003 => sieveref01_Pieces.l1 k x0 x3 x4 x5 x8 1 x154000 x154001 x154002 x154003
def sieveref01_Pieces.l1 : Nat → List Int → List (S71) → Int → Int → Int → Int → Int → Int → Int → Bool → Option ((List (S71)))
 | 0, _, _, _, _, _, _, _, _, _, _ => none
 | k + 1, x0, x3, x4, x5, x8, x9, x154000, x154001, x154002, x154003 => if x9 < x5 then (if 0 ≤ (wrap64 (x4 + x9)) then (if (wrap64 (x4 + x9)) < (x0.length : Int) then (sieveref01_Pieces.l1 k x0 x3 x4 x5 (wrap32 ((wrap32 (x8 * 64)) + (Int.tmod (wrap32 (rd x0 (wrap64 (x4 + x9)))) 64))) (wrap64 (x9 + 1)) x154000 x154001 x154002 x154003) else (none)) else (none)) else (if x3.length < 4398046511104 then (sieveref01_Pieces.l0 k x0 (x3 ++ [(⟨x8, x154001, x154002, x154003⟩ : S71)]) (wrap64 (x4 + x154002))) else (none))
end
def sieveref01_Pieces.f (k : Nat) (l0 : List Int) : Option ((List (S71))) := sieveref01_Pieces.l0 k l0 ([] : List (S71)) 0
theorem sieveref01_Pieces.mono_l : ∀ k, (∀ y0 y1 y2, LeO (sieveref01_Pieces.l0 k y0 y1 y2) (sieveref01_Pieces.l0 (k + 1) y0 y1 y2)) ∧ (∀ y0 y1 y2 y3 y4 y5 y6 y7 y8, LeO (sieveref01_Pieces.j1 k y0 y1 y2 y3 y4 y5 y6 y7 y8) (sieveref01_Pieces.j1 (k + 1) y0 y1 y2 y3 y4 y5 y6 y7 y8)) ∧ (∀ y0 y1 y2 y3 y4 y5 y6 y7 y8, LeO (sieveref01_Pieces.j2 k y0 y1 y2 y3 y4 y5 y6 y7 y8) (sieveref01_Pieces.j2 (k + 1) y0 y1 y2 y3 y4 y5 y6 y7 y8)) ∧ (∀ y0 y1 y2 y3 y4 y5 y6 y7 y8 y9, LeO (sieveref01_Pieces.l1 k y0 y1 y2 y3 y4 y5 y6 y7 y8 y9) (sieveref01_Pieces.l1 (k + 1) y0 y1 y2 y3 y4 y5 y6 y7 y8 y9))
 | 0 => ⟨fun _ _ _ r h => by simp [sieveref01_Pieces.l0] at h, fun _ _ _ _ _ _ _ _ _ r h => by simp [sieveref01_Pieces.j1] at h, fun _ _ _ _ _ _ _ _ _ r h => by simp [sieveref01_Pieces.j2] at h, fun _ _ _ _ _ _ _ _ _ _ r h => by simp [sieveref01_Pieces.l1] at h⟩
 | k + 1 => by
  obtain ⟨ih0, ih1, ih2, ih3⟩ := sieveref01_Pieces.mono_l k
  refine ⟨?_, ?_, ?_, ?_⟩
  ·intro y0 y1 y2
   unfold sieveref01_Pieces.l0
   repeat' first
   | (with_reducible exact ih0 _ _ _)
   | (with_reducible exact ih1 _ _ _ _ _ _ _ _ _)
   | (with_reducible exact ih2 _ _ _ _ _ _ _ _ _)
   | (with_reducible exact ih3 _ _ _ _ _ _ _ _ _ _)
   | (with_reducible exact sieveref01_good.mono _ _)
   | (with_reducible exact LeO.refl _)
   | (with_reducible exact LeO.none _)
   | (with_reducible refine LeO.ite ?_ ?_)
   | (with_reducible refine LeO.bind ?_ (fun _ => ?_))
   | exact ih0 _ _ _
   | exact ih1 _ _ _ _ _ _ _ _ _
   | exact ih2 _ _ _ _ _ _ _ _ _
   | exact ih3 _ _ _ _ _ _ _ _ _ _
   | exact sieveref01_good.mono _ _
   | exact LeO.none _
   | refine LeO.ite ?_ ?_
   | refine LeO.bind ?_ (fun _ => ?_)
  ·intro y0 y1 y2 y3 y4 y5 y6 y7 y8
   unfold sieveref01_Pieces.j1
   repeat' first
   | (with_reducible exact ih0 _ _ _)
   | (with_reducible exact ih1 _ _ _ _ _ _ _ _ _)
   | (with_reducible exact ih2 _ _ _ _ _ _ _ _ _)
   | (with_reducible exact ih3 _ _ _ _ _ _ _ _ _ _)
   | (with_reducible exact sieveref01_good.mono _ _)
   | (with_reducible exact LeO.refl _)
   | (with_reducible exact LeO.none _)
   | (with_reducible refine LeO.ite ?_ ?_)
   | (with_reducible refine LeO.bind ?_ (fun _ => ?_))
   | exact ih0 _ _ _
   | exact ih1 _ _ _ _ _ _ _ _ _
   | exact ih2 _ _ _ _ _ _ _ _ _
   | exact ih3 _ _ _ _ _ _ _ _ _ _
   | exact sieveref01_good.mono _ _
   | exact LeO.none _
   | refine LeO.ite ?_ ?_
   | refine LeO.bind ?_ (fun _ => ?_)
  ·intro y0 y1 y2 y3 y4 y5 y6 y7 y8
   unfold sieveref01_Pieces.j2
   repeat' first
   | (with_reducible exact ih0 _ _ _)
   | (with_reducible exact ih1 _ _ _ _ _ _ _ _ _)
   | (with_reducible exact ih2 _ _ _ _ _ _ _ _ _)
   | (with_reducible exact ih3 _ _ _ _ _ _ _ _ _ _)
   | (with_reducible exact sieveref01_good.mono _ _)
   | (with_reducible exact LeO.refl _)
   | (with_reducible exact LeO.none _)
   | (with_reducible refine LeO.ite ?_ ?_)
   | (with_reducible refine LeO.bind ?_ (fun _ => ?_))
   | exact ih0 _ _ _
   | exact ih1 _ _ _ _ _ _ _ _ _
   | exact ih2 _ _ _ _ _ _ _ _ _
   | exact ih3 _ _ _ _ _ _ _ _ _ _
   | exact sieveref01_good.mono _ _
   | exact LeO.none _
   | refine LeO.ite ?_ ?_
   | refine LeO.bind ?_ (fun _ => ?_)
  ·intro y0 y1 y2 y3 y4 y5 y6 y7 y8 y9
   unfold sieveref01_Pieces.l1
   repeat' first
   | (with_reducible exact ih0 _ _ _)
   | (with_reducible exact ih1 _ _ _ _ _ _ _ _ _)
   | (with_reducible exact ih2 _ _ _ _ _ _ _ _ _)
   | (with_reducible exact ih3 _ _ _ _ _ _ _ _ _ _)
   | (with_reducible exact sieveref01_good.mono _ _)
   | (with_reducible exact LeO.refl _)
   | (with_reducible exact LeO.none _)
   | (with_reducible refine LeO.ite ?_ ?_)
   | (with_reducible refine LeO.bind ?_ (fun _ => ?_))
   | exact ih0 _ _ _
   | exact ih1 _ _ _ _ _ _ _ _ _
   | exact ih2 _ _ _ _ _ _ _ _ _
   | exact ih3 _ _ _ _ _ _ _ _ _ _
   | exact sieveref01_good.mono _ _
   | exact LeO.none _
   | refine LeO.ite ?_ ?_
   | refine LeO.bind ?_ (fun _ => ?_)
theorem sieveref01_Pieces.mono : ∀ a0 k, LeO (sieveref01_Pieces.f k a0) (sieveref01_Pieces.f (k + 1) a0) := by
 intro a0 k
 obtain ⟨ih0, ih1, ih2, ih3⟩ := sieveref01_Pieces.mono_l k
 unfold sieveref01_Pieces.f
 repeat' first
   | (with_reducible exact ih0 _ _ _)
   | (with_reducible exact ih1 _ _ _ _ _ _ _ _ _)
   | (with_reducible exact ih2 _ _ _ _ _ _ _ _ _)
   | (with_reducible exact ih3 _ _ _ _ _ _ _ _ _ _)
   | (with_reducible exact sieveref01_good.mono _ _)
   | (with_reducible exact LeO.refl _)
   | (with_reducible exact LeO.none _)
   | (with_reducible refine LeO.ite ?_ ?_)
   | (with_reducible refine LeO.bind ?_ (fun _ => ?_))
   | exact ih0 _ _ _
   | exact ih1 _ _ _ _ _ _ _ _ _
   | exact ih2 _ _ _ _ _ _ _ _ _
   | exact ih3 _ _ _ _ _ _ _ _ _ _
   | exact sieveref01_good.mono _ _
   | exact LeO.none _
   | refine LeO.ite ?_ ?_
   | refine LeO.bind ?_ (fun _ => ?_)
set_option maxHeartbeats 8000000 in
set_option maxRecDepth 100000 in
theorem sieveref01_Pieces.calls (k : Nat) (A0 : Option Addr) (c0 : Nat) (l0 : List Int) (r : List (S71)) (w : World) (hr0 : Kd.C (Kd.int .u8) w A0 l0.length l0) (hc0 : l0.length ≤ c0) (h : sieveref01_Pieces.f k l0 = some r) :
  Calls Try.prog 32 #[.slice A0 l0.length c0] w fun e w' => ∃ v0_ : Value, e = .returned (v0_) ∧ Kd.R k71 71 w' w.heap.size (fun _ => True) v0_ r ∧ Below w.heap.size w w' := by
 have hu71 := Try.underlying71
 have HR0 := Aside0.mk hr0
 have HC0 := Aside0.mk hc0
 clear hr0 hc0
 have HB := Aside0.mk (Below.refl w.heap.size w)
 have H : (sieveref01_Pieces.l0 k l0 ([] : List (S71)) 0) = some r := h
 clear h
 have H' := Aside0.mk H
 clear H
 go_enter Try.func32, Try.ntmps32
 go_wp2
 go_loopg [3, 4] k (fun kq v3 v4 w' => ∃ (x3_1 : List (S71)) (x4_1 : Int), v4 = .int .i64 x4_1 ∧ Aside0 (sieveref01_Pieces.l0 kq l0 x3_1 x4_1 = some r) ∧ Aside0 (kq ≤ k) ∧ Aside0 (Kd.R k71 71 w' w.heap.size (fun _ => True) v3 x3_1) ∧ Aside0 (Below w.heap.size w w'))
 case atStart => exact ⟨(([] : List (S71))), (0), (by first | rfl | (simp; done) | (simp [*]; done) | (unfold bt; split <;> first | rfl | (exfalso; simp_all; done) | (exfalso; simp_all; omega))), H', ⟨Nat.le_refl _⟩, ⟨by first | exact Kd.R_nil _ _ _ _ _ | exact Kd.N_nil _ _ _ _ _ | exact Kd.V_nil _ _ _ _ _ | exact Kd.Q_nil _ _ _ _ _ | exact Kd.S_nil _ _ _ _ _⟩, ⟨by repeat (first | (with_reducible first | exact HB.out | apply below_alloc | apply pw_below_drewN | apply below_drew1) | exact HB.out)⟩⟩
 case round =>
  clear H'
  obtain ⟨x3_1, x4_1, rfl, HA, HK1, HO_3, HB⟩ := hrel
  cases gk with
  | zero => exact absurd HA.out (by simp [sieveref01_Pieces.l0])
  | succ k1 =>
   have H := HA.out
   clear HA
   simp only [sieveref01_Pieces.l0] at H
   by_cases c2 : x4_1 < (l0.length : Int)
   ·rw [if_pos c2] at H
    have c2b0 : decide (x4_1 < (l0.length : Int)) = true := decide_eq_true c2
    clear c2
    by_cases c3 : 0 ≤ x4_1
    ·rw [if_pos c3] at H
     have c3b0 := eq_true c3
     have c3b1 : decide (0 ≤ x4_1) = true := decide_eq_true c3
     clear c3
     by_cases c4 : x4_1 ≤ (l0.length : Int)
     ·rw [if_pos c4] at H
      have c4b0 := eq_true c4
      have c4b1 : decide (x4_1 ≤ (l0.length : Int)) = true := decide_eq_true c4
      clear c4
      replace H := Option.bind_eq_some_iff.mp H
      obtain ⟨⟨t151, t152⟩, A50, H⟩ := H
      replace H : (if t151 = 0 then (sieveref01_Pieces.j1 k1 l0 x3_1 x4_1 t151 t152 65533 x4_1 1 t152) else (sieveref01_Pieces.j1 k1 l0 x3_1 x4_1 t151 t152 65533 x4_1 t151 t152)) = some r := H
      have A5 := Aside0.mk A50
      clear A50
      have HC6 := Aside0.mk H
      clear H
      obtain ⟨i07, hi07, _, hsz7, _⟩ := info_parts info5
      obtain ⟨A7, hcut7, hA7, hC7⟩ := print_drop_of (P := Try.prog) (Value.int .u8) 0 34 5 .i64 Try.underlying34 hi07 hsz7 A0 c0 l0 x4_1 (of_decide_eq_true (by first | (with_reducible assumption) | assumption)) (of_decide_eq_true (by first | (with_reducible assumption) | assumption)) HC0.out
      have HR150 := Aside0.mk (Kd.C_of_reads (h1 := fun _ => rfl) (hA7 _ (Kd.reads_of_C HR0.out)))
      have HC150 := Aside0.mk hC7
      clear hA7 hC7 hi07 hsz7
      go_upto_if 26 with (first | ((with_reducible refine gate_callee (f := 52) rfl ?_); refine goesL_ (some 18) rfl rfl Try.func52 (by kernel_rfl) rfl #[.slice A7 (l0.drop (x4_1 : Int).toNat).length (c0 - x4_1.toNat)] rfl (by (try simp only [List.map_toArray, List.map_cons, List.map_nil]); first | done | (rw [show (l0.drop (x4_1 : Int).toNat).length = (l0.length - x4_1.toNat) from List.length_drop] <;> rfl) | rfl | (simp only [List.length_drop, List.length_take]; rfl)) ?_; (with_reducible refine (sieveref01_good.calls k1 _ _ (l0.drop (x4_1 : Int).toNat) t151 t152 _ ?side1 ?side2 A5.out).mono ?_); (case side1 => repeat (first | exact (Kd.C_below HR150.out HB.out) | (with_reducible refine Kd.C_alloc ?_ _) | (with_reducible refine Kd.C_drewN ?_ _) | (with_reducible refine Kd.C_drew ?_))); (case side2 => exact HC150.out); rintro e w8 ⟨rfl, hb⟩; refine ⟨_, rfl, ?_⟩; have n0_ := Aside0.mk (Kd.R_below (by (with_reducible repeat (first | apply Kd.R_alloc | apply Kd.R_drewN | apply Kd.R_drew)); exact HO_3.out) hb); have n1_ := Aside0.mk (below_step (by repeat (first | (with_reducible first | exact HB.out | apply below_alloc | apply pw_below_drewN | apply below_drew1) | exact HB.out)) hb); clear HO_3; clear HB; have HO_3 := n0_; have HB := n1_; clear n0_ n1_; (try clear hb); (try clear hb2); (try clear hk); (try clear hi)) | ((with_reducible refine gate_dst (N := 7) rfl ?_); refine box_event ?hg (N := 7) ?hd (cs := #[.int .i32 0, .int .i64 0, .int .i64 0, .bool false]) (t := 71) ?hr ?_; (case hd => rfl); (case hg => rfl); (case hr => first | (go_simp; done) | (go_simp; rfl)); intro gb153 hg w9 hbox hb; have n0_ := Aside0.mk (Kd.R_below (Kd.R_elderB (by (with_reducible repeat (first | apply Kd.R_alloc | apply Kd.R_drewN | apply Kd.R_drew)); exact HO_3.out) gb153 (Nat.le_of_eq hg.symm)) hb); have n1_ := Aside0.mk (below_step (by repeat (first | (with_reducible first | exact HB.out | apply below_alloc | apply pw_below_drewN | apply below_drew1) | exact HB.out)) hb); have n2_ := Aside0.mk (hbox); have n3_ := Aside0.mk ((by rw [hg]; exact (below_size (by repeat (first | (with_reducible first | exact HB.out | apply below_alloc | apply pw_below_drewN | apply below_drew1) | exact HB.out))) : w.heap.size ≤ gb153)); have n4_ := Aside0.mk ((by rw [hg]; exact (below_size (by repeat (first | (with_reducible first | exact HB.out | apply below_alloc | apply pw_below_drewN | apply below_drew1) | exact HB.out))) : w.heap.size ≤ gb153)); clear HO_3; clear HB; have HO_3 := n0_; have HB := n1_; have BK153 := n2_; have GW153 := n3_; have GE153 := n4_; clear n0_ n1_ n2_ n3_ n4_; clear hb hbox hg; have hcz10_0 : w9.cell? ⟨gb153, 0, none⟩ = some (.int .i32 0) := (blk_cell BK153.out 0).trans rfl; have hcz10_1 : w9.cell? ⟨gb153, 1, none⟩ = some (.int .i64 0) := (blk_cell BK153.out 1).trans rfl; have hcz10_2 : w9.cell? ⟨gb153, 2, none⟩ = some (.int .i64 0) := (blk_cell BK153.out 2).trans rfl; have hcz10_3 : w9.cell? ⟨gb153, 3, none⟩ = some (.bool false) := (blk_cell BK153.out 3).trans rfl; have hfz10_0 := blk_frozen BK153.out 0; have hfz10_1 := blk_frozen BK153.out 1; have hfz10_2 := blk_frozen BK153.out 2; have hfz10_3 := blk_frozen BK153.out 3))
      (try simp only [Act.put, List.setIfInBounds_toArray, List.set_cons_zero, List.set_cons_succ])
      go_cut [] (fun wc => ∃ (kq : Nat) (x154002_5 : Int), Aside0 (sieveref01_Pieces.j1 kq l0 x3_1 x4_1 t151 t152 65533 x4_1 x154002_5 t152 = some r) ∧ Aside0 (kq ≤ k1) ∧ Aside0 (Kd.R k71 71 wc w.heap.size (fun k_ => k_ ≠ gb153) u3 x3_1) ∧ Aside0 (wc.heap[gb153]? = some (.cells #[.int .i32 65533, .int .i64 x4_1, .int .i64 x154002_5, .bool t152] 71 (0, 0))) ∧ Aside0 (Below w.heap.size w wc))
      case first =>
       have H := HC6.out
       clear HC6
       by_cases c11 : t151 = 0
       ·rw [if_pos c11] at H
        have c11b0 : (t151 == 0) = true := beq_iff_eq.mpr c11
        have c11b1 : (t151 != 0) = false := bne_eq_false_iff_eq.mpr c11
        clear c11
        (first | rw [c11b0] | (simp only [i64_w, i32_w]; rw [c11b0]) | skip)
        have H' := Aside0.mk H
        clear H
        have hcz12_0 : w9.cell? ⟨gb153, 0, none⟩ = some (.int .i32 0) := (blk_cell BK153.out 0).trans rfl
        have hcz12_1 : w9.cell? ⟨gb153, 1, none⟩ = some (.int .i64 0) := (blk_cell BK153.out 1).trans rfl
        have hcz12_2 : w9.cell? ⟨gb153, 2, none⟩ = some (.int .i64 0) := (blk_cell BK153.out 2).trans rfl
        have hcz12_3 : w9.cell? ⟨gb153, 3, none⟩ = some (.bool false) := (blk_cell BK153.out 3).trans rfl
        have hfz12_0 := blk_frozen BK153.out 0
        have hfz12_1 := blk_frozen BK153.out 1
        have hfz12_2 := blk_frozen BK153.out 2
        have hfz12_3 := blk_frozen BK153.out 3
        go_wp2
        go_meet
        case rel => exact ⟨_, (1), H', ⟨by have := HK1.out; first | omega | exact Nat.le_refl _⟩, ⟨by (with_reducible repeat (first | apply Kd.R_alloc | apply Kd.R_drewN | apply Kd.R_drew)); exact Kd.R_mono (Kd.R_far (p := ⟨gb153, 2, none⟩) (Kd.R_far (p := ⟨gb153, 3, none⟩) (Kd.R_far (p := ⟨gb153, 2, none⟩) (Kd.R_far (p := ⟨gb153, 1, none⟩) (Kd.R_far (p := ⟨gb153, 0, none⟩) (Kd.R_mono HO_3.out (fun k_ hk => (⟨hk, hk.2⟩ : _ ∧ k_ ≠ gb153))) (fun _ hk => hk.2) (.int .i32 65533)) (fun _ hk => hk.2) (.int .i64 x4_1)) (fun _ hk => hk.2) (.int .i64 t151)) (fun _ hk => hk.2) (.bool t152)) (fun _ hk => hk.2) (.int .i64 1)) (fun _ hk => hk.1.2)⟩, ⟨by (with_reducible repeat (first | refine blk_drewN ?_ _ | refine blk_drew ?_ | refine blk_alloc ?_ _)); refine blk_put (cs := #[.int .i32 65533, .int .i64 x4_1, .int .i64 t151, .bool t152]) ?_ 2 _ rfl; (with_reducible repeat (first | refine blk_drewN ?_ _ | refine blk_drew ?_ | refine blk_alloc ?_ _)); refine blk_put (cs := #[.int .i32 65533, .int .i64 x4_1, .int .i64 t151, .bool false]) ?_ 3 _ rfl; (with_reducible repeat (first | refine blk_drewN ?_ _ | refine blk_drew ?_ | refine blk_alloc ?_ _)); refine blk_put (cs := #[.int .i32 65533, .int .i64 x4_1, .int .i64 0, .bool false]) ?_ 2 _ rfl; (with_reducible repeat (first | refine blk_drewN ?_ _ | refine blk_drew ?_ | refine blk_alloc ?_ _)); refine blk_put (cs := #[.int .i32 65533, .int .i64 0, .int .i64 0, .bool false]) ?_ 1 _ rfl; (with_reducible repeat (first | refine blk_drewN ?_ _ | refine blk_drew ?_ | refine blk_alloc ?_ _)); refine blk_put (cs := #[.int .i32 0, .int .i64 0, .int .i64 0, .bool false]) ?_ 0 _ rfl; (with_reducible repeat (first | refine blk_drewN ?_ _ | refine blk_drew ?_ | refine blk_alloc ?_ _)); exact BK153.out⟩, ⟨by repeat (first | (with_reducible first | exact HB.out | apply below_alloc | apply pw_below_drewN | apply below_drew1 | refine below_set ?_ GE153.out) | exact HB.out)⟩⟩
       ·rw [if_neg c11] at H
        have c11b0 : (t151 == 0) = false := beq_eq_false_iff_ne.mpr c11
        have c11b1 : (t151 != 0) = true := bne_iff_ne.mpr c11
        (first | rw [c11b0] | (simp only [i64_w, i32_w]; rw [c11b0]) | skip)
        have H' := Aside0.mk H
        clear H
        go_wp2
        go_meet
        case rel => exact ⟨_, (t151), H', ⟨by have := HK1.out; first | omega | exact Nat.le_refl _⟩, ⟨by (with_reducible repeat (first | apply Kd.R_alloc | apply Kd.R_drewN | apply Kd.R_drew)); exact Kd.R_mono (Kd.R_far (p := ⟨gb153, 3, none⟩) (Kd.R_far (p := ⟨gb153, 2, none⟩) (Kd.R_far (p := ⟨gb153, 1, none⟩) (Kd.R_far (p := ⟨gb153, 0, none⟩) (Kd.R_mono HO_3.out (fun k_ hk => (⟨hk, hk.2⟩ : _ ∧ k_ ≠ gb153))) (fun _ hk => hk.2) (.int .i32 65533)) (fun _ hk => hk.2) (.int .i64 x4_1)) (fun _ hk => hk.2) (.int .i64 t151)) (fun _ hk => hk.2) (.bool t152)) (fun _ hk => hk.1.2)⟩, ⟨by (with_reducible repeat (first | refine blk_drewN ?_ _ | refine blk_drew ?_ | refine blk_alloc ?_ _)); refine blk_put (cs := #[.int .i32 65533, .int .i64 x4_1, .int .i64 t151, .bool false]) ?_ 3 _ rfl; (with_reducible repeat (first | refine blk_drewN ?_ _ | refine blk_drew ?_ | refine blk_alloc ?_ _)); refine blk_put (cs := #[.int .i32 65533, .int .i64 x4_1, .int .i64 0, .bool false]) ?_ 2 _ rfl; (with_reducible repeat (first | refine blk_drewN ?_ _ | refine blk_drew ?_ | refine blk_alloc ?_ _)); refine blk_put (cs := #[.int .i32 65533, .int .i64 0, .int .i64 0, .bool false]) ?_ 1 _ rfl; (with_reducible repeat (first | refine blk_drewN ?_ _ | refine blk_drew ?_ | refine blk_alloc ?_ _)); refine blk_put (cs := #[.int .i32 0, .int .i64 0, .int .i64 0, .bool false]) ?_ 0 _ rfl; (with_reducible repeat (first | refine blk_drewN ?_ _ | refine blk_drew ?_ | refine blk_alloc ?_ _)); exact BK153.out⟩, ⟨by repeat (first | (with_reducible first | exact HB.out | apply below_alloc | apply pw_below_drewN | apply below_drew1 | refine below_set ?_ GE153.out) | exact HB.out)⟩⟩
      case rest =>
       clear HC6
       try clear c1
       try clear c2
       try clear c2b0
       try clear p2
       try clear c3
       try clear c3b0
       try clear c3b1
       try clear c4
       try clear c4b0
       try clear c4b1
       try clear c5
       try clear c11
       try clear c11b0
       try clear c11b1
       try clear hcz10_0
       try clear hcz10_1
       try clear hcz10_2
       try clear hcz10_3
       try clear hcz12_0
       try clear hcz12_1
       try clear hcz12_2
       try clear hcz12_3
       try clear hfz10_0
       try clear hfz10_1
       try clear hfz10_2
       try clear hfz10_3
       try clear hfz12_0
       try clear hfz12_1
       try clear hfz12_2
       try clear hfz12_3
       obtain ⟨kq, x154002_5, HA, HJ5, HO_3, BK153, HB⟩ := hcut
       cases kq with
       | zero => exact absurd HA.out (by simp [sieveref01_Pieces.j1])
       | succ kj5 =>
        have H := HA.out
        clear HA
        simp only [sieveref01_Pieces.j1] at H
        by_cases c13 : t152 = true
        ·subst c13
         have H1 : (if 0 ≤ x4_1 then (if x4_1 < (l0.length : Int) then (if t151 = 2 then (sieveref01_Pieces.j2 kj5 l0 x3_1 x4_1 t151 (Int.tmod (wrap32 (rd l0 x4_1)) 32) 65533 x4_1 x154002_5 true) else (if t151 = 3 then (sieveref01_Pieces.j2 kj5 l0 x3_1 x4_1 t151 (Int.tmod (wrap32 (rd l0 x4_1)) 16) 65533 x4_1 x154002_5 true) else (if t151 = 4 then (sieveref01_Pieces.j2 kj5 l0 x3_1 x4_1 t151 (Int.tmod (wrap32 (rd l0 x4_1)) 8) 65533 x4_1 x154002_5 true) else (sieveref01_Pieces.j2 kj5 l0 x3_1 x4_1 t151 (wrap32 (rd l0 x4_1)) 65533 x4_1 x154002_5 true)))) else (none)) else (none)) = some r := by rw [if_pos rfl] at H; exact H
         clear H
         have H := H1
         clear H1
         by_cases c14 : 0 ≤ x4_1
         ·rw [if_pos c14] at H
          have c14b0 : decide (0 ≤ x4_1) = true := decide_eq_true c14
          clear c14
          by_cases c15 : x4_1 < (l0.length : Int)
          ·rw [if_pos c15] at H
           have c15b0 : decide (x4_1 < (l0.length : Int)) = true := decide_eq_true c15
           clear c15
           have HC16 := Aside0.mk H
           clear H
           have p154 : 0 ≤ (x4_1 : Int) := of_decide_eq_true (by first | (with_reducible assumption) | assumption)
           have q154 : x4_1 < (l0.length : Int) := of_decide_eq_true (by first | (with_reducible assumption) | assumption)
           obtain ⟨ad154, e154, hx154_0⟩ := Kd.at_int HR0.out x4_1 p154 q154
           cases e154
           replace hx154_0 := (HB.out.cell (World.block_lt_of_cell? w _ hx154_0)).trans hx154_0
           replace p154 := eq_true p154
           replace q154 := eq_true q154
           go_upto_block 2 with (fail)
           go_cut [8] (fun v8 wc => ∃ (kq : Nat) (x8_15 : Int), v8 = .int .i32 x8_15 ∧ Aside0 (sieveref01_Pieces.j2 kq l0 x3_1 x4_1 t151 x8_15 65533 x4_1 x154002_5 true = some r) ∧ Aside0 (kq ≤ kj5) ∧ Aside0 (Kd.R k71 71 wc w.heap.size (fun k_ => k_ ≠ gb153) u3 x3_1) ∧ Aside0 (wc.heap[gb153]? = some (.cells #[.int .i32 65533, .int .i64 x4_1, .int .i64 x154002_5, .bool true] 71 (0, 0))) ∧ Aside0 (Below w.heap.size w wc))
           case first =>
            have H := HC16.out
            clear HC16
            by_cases c17 : t151 = 2
            ·rw [if_pos c17] at H
             have c17b0 : (t151 == 2) = true := beq_iff_eq.mpr c17
             have c17b1 : (t151 != 2) = false := bne_eq_false_iff_eq.mpr c17
             clear c17
             (first | rw [c17b0] | (simp only [i64_w, i32_w]; rw [c17b0]) | skip)
             have H' := Aside0.mk H
             clear H
             go_wp2
             go_meet
             case rel => exact ⟨_, (Int.tmod (wrap32 (rd l0 x4_1)) 32), (by first | rfl | (simp; done) | (simp [*]; done) | (unfold bt; split <;> first | rfl | (exfalso; simp_all; done) | (exfalso; simp_all; omega))), H', ⟨by have := HK1.out; have := HJ5.out; first | omega | exact Nat.le_refl _⟩, ⟨by (with_reducible repeat (first | apply Kd.R_alloc | apply Kd.R_drewN | apply Kd.R_drew)); exact HO_3.out⟩, ⟨by (with_reducible repeat (first | refine blk_drewN ?_ _ | refine blk_drew ?_ | refine blk_alloc ?_ _)); exact BK153.out⟩, ⟨by repeat (first | (with_reducible first | exact HB.out | apply below_alloc | apply pw_below_drewN | apply below_drew1 | refine below_set ?_ GE153.out) | exact HB.out)⟩⟩
            ·rw [if_neg c17] at H
             have c17b0 : (t151 == 2) = false := beq_eq_false_iff_ne.mpr c17
             have c17b1 : (t151 != 2) = true := bne_iff_ne.mpr c17
             (first | rw [c17b0] | (simp only [i64_w, i32_w]; rw [c17b0]) | skip)
             by_cases c18 : t151 = 3
             ·rw [if_pos c18] at H
              have c18b0 : (t151 == 3) = true := beq_iff_eq.mpr c18
              have c18b1 : (t151 != 3) = false := bne_eq_false_iff_eq.mpr c18
              clear c18
              have H' := Aside0.mk H
              clear H
              go_wp2
              go_meet
              case rel => exact ⟨_, (Int.tmod (wrap32 (rd l0 x4_1)) 16), (by first | rfl | (simp; done) | (simp [*]; done) | (unfold bt; split <;> first | rfl | (exfalso; simp_all; done) | (exfalso; simp_all; omega))), H', ⟨by have := HK1.out; have := HJ5.out; first | omega | exact Nat.le_refl _⟩, ⟨by (with_reducible repeat (first | apply Kd.R_alloc | apply Kd.R_drewN | apply Kd.R_drew)); exact HO_3.out⟩, ⟨by (with_reducible repeat (first | refine blk_drewN ?_ _ | refine blk_drew ?_ | refine blk_alloc ?_ _)); exact BK153.out⟩, ⟨by repeat (first | (with_reducible first | exact HB.out | apply below_alloc | apply pw_below_drewN | apply below_drew1 | refine below_set ?_ GE153.out) | exact HB.out)⟩⟩
             ·rw [if_neg c18] at H
              have c18b0 : (t151 == 3) = false := beq_eq_false_iff_ne.mpr c18
              have c18b1 : (t151 != 3) = true := bne_iff_ne.mpr c18
              by_cases c19 : t151 = 4
              ·rw [if_pos c19] at H
               have c19b0 : (t151 == 4) = true := beq_iff_eq.mpr c19
               have c19b1 : (t151 != 4) = false := bne_eq_false_iff_eq.mpr c19
               clear c19
               have H' := Aside0.mk H
               clear H
               go_wp2
               go_meet
               case rel => exact ⟨_, (Int.tmod (wrap32 (rd l0 x4_1)) 8), (by first | rfl | (simp; done) | (simp [*]; done) | (unfold bt; split <;> first | rfl | (exfalso; simp_all; done) | (exfalso; simp_all; omega))), H', ⟨by have := HK1.out; have := HJ5.out; first | omega | exact Nat.le_refl _⟩, ⟨by (with_reducible repeat (first | apply Kd.R_alloc | apply Kd.R_drewN | apply Kd.R_drew)); exact HO_3.out⟩, ⟨by (with_reducible repeat (first | refine blk_drewN ?_ _ | refine blk_drew ?_ | refine blk_alloc ?_ _)); exact BK153.out⟩, ⟨by repeat (first | (with_reducible first | exact HB.out | apply below_alloc | apply pw_below_drewN | apply below_drew1 | refine below_set ?_ GE153.out) | exact HB.out)⟩⟩
              ·rw [if_neg c19] at H
               have c19b0 : (t151 == 4) = false := beq_eq_false_iff_ne.mpr c19
               have c19b1 : (t151 != 4) = true := bne_iff_ne.mpr c19
               have H' := Aside0.mk H
               clear H
               go_wp2
               go_meet
               case rel => exact ⟨_, (wrap32 (rd l0 x4_1)), (by first | rfl | (simp; done) | (simp [*]; done) | (unfold bt; split <;> first | rfl | (exfalso; simp_all; done) | (exfalso; simp_all; omega))), H', ⟨by have := HK1.out; have := HJ5.out; first | omega | exact Nat.le_refl _⟩, ⟨by (with_reducible repeat (first | apply Kd.R_alloc | apply Kd.R_drewN | apply Kd.R_drew)); exact HO_3.out⟩, ⟨by (with_reducible repeat (first | refine blk_drewN ?_ _ | refine blk_drew ?_ | refine blk_alloc ?_ _)); exact BK153.out⟩, ⟨by repeat (first | (with_reducible first | exact HB.out | apply below_alloc | apply pw_below_drewN | apply below_drew1 | refine below_set ?_ GE153.out) | exact HB.out)⟩⟩
           case rest =>
            clear HC16
            try clear c1
            try clear p1
            try clear q1
            try clear hx1
            try clear c2
            try clear c2b0
            try clear p2
            try clear c3
            try clear c3b0
            try clear c3b1
            try clear p3
            try clear c4
            try clear c4b0
            try clear c4b1
            try clear c5
            try clear c11
            try clear c11b0
            try clear c11b1
            try clear c13
            try clear c14
            try clear c14b0
            try clear c15
            try clear c15b0
            try clear p15
            try clear q15
            try clear hx15
            try clear c17
            try clear c17b0
            try clear c17b1
            try clear c18
            try clear c18b0
            try clear c18b1
            try clear c19
            try clear c19b0
            try clear c19b1
            try clear hcz10_0
            try clear hcz10_1
            try clear hcz10_2
            try clear hcz10_3
            try clear hcz12_0
            try clear hcz12_1
            try clear hcz12_2
            try clear hcz12_3
            try clear hfz10_0
            try clear hfz10_1
            try clear hfz10_2
            try clear hfz10_3
            try clear hfz12_0
            try clear hfz12_1
            try clear hfz12_2
            try clear hfz12_3
            try clear hx154_0
            try clear p154
            try clear p2
            try clear q154
            obtain ⟨kq, x8_15, rfl, HA, HJ15, HO_3, BK153, HB⟩ := hcut
            cases kq with
            | zero => exact absurd HA.out (by simp [sieveref01_Pieces.j2])
            | succ kj15 =>
             have H := HA.out
             clear HA
             simp only [sieveref01_Pieces.j2] at H
             have H' := Aside0.mk H
             clear H
             go_wp2
             go_loopg [8, 9] kj15 (fun kq v8 v9 w' => ∃ (x8_4 : Int) (x9_4 : Int), v8 = .int .i32 x8_4 ∧ v9 = .int .i64 x9_4 ∧ Aside0 (sieveref01_Pieces.l1 kq l0 x3_1 x4_1 t151 x8_4 x9_4 65533 x4_1 x154002_5 true = some r) ∧ Aside0 (kq ≤ kj15) ∧ Aside0 (Kd.R k71 71 w' w.heap.size (fun k_ => k_ ≠ gb153) u3 x3_1) ∧ Aside0 (w'.heap[gb153]? = some (.cells #[.int .i32 65533, .int .i64 x4_1, .int .i64 x154002_5, .bool true] 71 (0, 0))) ∧ Aside0 (Below w.heap.size w w'))
             case atStart => exact ⟨(x8_15), (1), (by first | rfl | (simp; done) | (simp [*]; done) | (unfold bt; split <;> first | rfl | (exfalso; simp_all; done) | (exfalso; simp_all; omega))), (by first | rfl | (simp; done) | (simp [*]; done) | (unfold bt; split <;> first | rfl | (exfalso; simp_all; done) | (exfalso; simp_all; omega))), H', ⟨Nat.le_refl _⟩, ⟨by (with_reducible repeat (first | apply Kd.R_alloc | apply Kd.R_drewN | apply Kd.R_drew)); exact HO_3.out⟩, ⟨by (with_reducible repeat (first | refine blk_drewN ?_ _ | refine blk_drew ?_ | refine blk_alloc ?_ _)); exact BK153.out⟩, ⟨by repeat (first | (with_reducible first | exact HB.out | apply below_alloc | apply pw_below_drewN | apply below_drew1 | refine below_set ?_ GE153.out) | exact HB.out)⟩⟩
             case round =>
              clear H'
              try clear c1
              try clear p1
              try clear q1
              try clear hx1
              try clear c2
              try clear c2b0
              try clear p2
              try clear c3
              try clear c3b0
              try clear c3b1
              try clear p3
              try clear c4
              try clear c4b0
              try clear c4b1
              try clear c5
              try clear c11
              try clear c11b0
              try clear c11b1
              try clear c13
              try clear c14
              try clear c14b0
              try clear c15
              try clear c15b0
              try clear p15
              try clear q15
              try clear hx15
              try clear c17
              try clear c17b0
              try clear c17b1
              try clear c18
              try clear c18b0
              try clear c18b1
              try clear c19
              try clear c19b0
              try clear c19b1
              try clear hcz10_0
              try clear hcz10_1
              try clear hcz10_2
              try clear hcz10_3
              try clear hcz12_0
              try clear hcz12_1
              try clear hcz12_2
              try clear hcz12_3
              try clear hfz10_0
              try clear hfz10_1
              try clear hfz10_2
              try clear hfz10_3
              try clear hfz12_0
              try clear hfz12_1
              try clear hfz12_2
              try clear hfz12_3
              try clear hx154_0
              try clear p1
              try clear p15
              try clear p154
              try clear p2
              try clear p3
              try clear q1
              try clear q15
              try clear q154
              obtain ⟨x8_4, x9_4, rfl, rfl, HA, HK4, HO_3, BK153, HB⟩ := hrel
              cases gk with
              | zero => exact absurd HA.out (by simp [sieveref01_Pieces.l1])
              | succ k4 =>
               have H := HA.out
               clear HA
               simp only [sieveref01_Pieces.l1] at H
               by_cases c20 : x9_4 < t151
               ·rw [if_pos c20] at H
                have c20b0 : decide (x9_4 < t151) = true := decide_eq_true c20
                clear c20
                obtain ⟨ji21, hji21⟩ : ∃ j_ : Int, (wrap64 (x4_1 + x9_4)) = j_ := ⟨_, rfl⟩
                replace H : (if 0 ≤ (ji21) then (if (ji21) < (l0.length : Int) then (sieveref01_Pieces.l1 k4 l0 x3_1 x4_1 t151 (wrap32 ((wrap32 (x8_4 * 64)) + (Int.tmod (wrap32 (rd l0 (ji21))) 64))) (wrap64 (x9_4 + 1)) 65533 x4_1 x154002_5 true) else (none)) else (none)) = some r := by first | (rw [hji21] at H; exact H) | (simp only [hji21] at H ⊢; exact H)
                have hji21w : (IntKind.i64.wrap (x4_1 + x9_4)) = ji21 := (i64_w _).trans hji21
                by_cases c22 : 0 ≤ (ji21)
                ·rw [if_pos c22] at H
                 have c22b0 : decide (0 ≤ (ji21)) = true := decide_eq_true c22
                 clear c22
                 by_cases c23 : (ji21) < (l0.length : Int)
                 ·rw [if_pos c23] at H
                  have c23b0 : decide ((ji21) < (l0.length : Int)) = true := decide_eq_true c23
                  clear c23
                  have H' := Aside0.mk H
                  clear H
                  have p155 : 0 ≤ ((ji21) : Int) := of_decide_eq_true (by first | (with_reducible assumption) | assumption)
                  have q155 : (ji21) < (l0.length : Int) := of_decide_eq_true (by first | (with_reducible assumption) | assumption)
                  obtain ⟨ad155, e155, hx155_0⟩ := Kd.at_int HR0.out (ji21) p155 q155
                  obtain rfl : ad154 = ad155 := (by injection e155)
                  replace hx155_0 := (HB.out.cell (World.block_lt_of_cell? w _ hx155_0)).trans hx155_0
                  replace p155 := eq_true p155
                  replace q155 := eq_true q155
                  go_wp2
                  go_roundg k4
                  case measure => have := HK1.out; have := HJ5.out; have := HJ15.out; have := HK4.out; omega
                  case rel => exact ⟨(wrap32 ((wrap32 (x8_4 * 64)) + (Int.tmod (wrap32 (rd l0 (ji21))) 64))), (wrap64 (x9_4 + 1)), (by first | rfl | (simp; done) | (simp only [← hji21] <;> (first | rfl | simp)) | (simp [*]; done)), (by first | rfl | (simp; done) | (simp [*]; done) | (unfold bt; split <;> first | rfl | (exfalso; simp_all; done) | (exfalso; simp_all; omega))), H', ⟨by have := HK1.out; have := HJ5.out; have := HJ15.out; have := HK4.out; omega⟩, ⟨by (with_reducible repeat (first | apply Kd.R_alloc | apply Kd.R_drewN | apply Kd.R_drew)); exact HO_3.out⟩, ⟨by (with_reducible repeat (first | refine blk_drewN ?_ _ | refine blk_drew ?_ | refine blk_alloc ?_ _)); exact BK153.out⟩, ⟨by repeat (first | (with_reducible first | exact HB.out | apply below_alloc | apply pw_below_drewN | apply below_drew1 | refine below_set ?_ GE153.out) | exact HB.out)⟩⟩
                 ·rw [if_neg c23] at H
                  exact absurd H (by simp)
                ·rw [if_neg c22] at H
                 exact absurd H (by simp)
               ·rw [if_neg c20] at H
                have c20b0 : decide (x9_4 < t151) = false := decide_eq_false c20
                clear c20
                by_cases c24 : x3_1.length < 4398046511104
                ·rw [if_pos c24] at H
                 have LMc24 := Aside0.mk c24
                 clear c24
                 obtain ⟨y156, hy156⟩ : ∃ y_ : List (S71), y_ = (x3_1 ++ [(⟨x8_4, x4_1, x154002_5, true⟩ : S71)]) := ⟨_, rfl⟩
                 replace H : (sieveref01_Pieces.l0 k4 l0 y156 (wrap64 (x4_1 + x154002_5))) = some r := by first | (rw [hy156]; with_reducible exact H) | (have H2_ := (Option.bind_some _ _).symm.trans H; rw [hy156]; with_reducible exact H2_) | (have H2_ := (Option.bind_some _ _).symm.trans H; with_reducible exact H2_) | with_reducible exact H | (rw [hy156]; exact H) | exact H
                 have Ny156 := Aside0.mk hy156
                 clear hy156
                 have H' := Aside0.mk H
                 clear H
                 have hcz25_0 : wr.cell? ⟨gb153, 0, none⟩ = some (.int .i32 65533) := (blk_cell BK153.out 0).trans rfl
                 have hcz25_1 : wr.cell? ⟨gb153, 1, none⟩ = some (.int .i64 x4_1) := (blk_cell BK153.out 1).trans rfl
                 have hcz25_2 : wr.cell? ⟨gb153, 2, none⟩ = some (.int .i64 x154002_5) := (blk_cell BK153.out 2).trans rfl
                 have hcz25_3 : wr.cell? ⟨gb153, 3, none⟩ = some (.bool true) := (blk_cell BK153.out 3).trans rfl
                 have hfz25_0 := blk_frozen BK153.out 0
                 have hfz25_1 := blk_frozen BK153.out 1
                 have hfz25_2 := blk_frozen BK153.out 2
                 have hfz25_3 := blk_frozen BK153.out 3
                 go_wp2_with (first | ((with_reducible refine gate_builtin (b := .append) (xs := #[.tmp 65, .tmp 67]) rfl ?_); at_builtin; refine Kd.R_append k71 (w0 := w) w.heap.size rfl (.tmp 65) (.tmp 67) 68 71 (.agg #[(.int .i32 0), (.int .i64 0), (.int .i64 0), (.bool false)]) 32 rfl Try.underlying68 info71 rfl (by decide) (by omega) u3 x3_1 (⟨x8_4, x4_1, x154002_5, true⟩ : S71) [.int .i32 x8_4, .int .i64 x4_1, .int .i64 x154002_5, .bool true] (fun k_ => k_ ≠ gb153) (fun _ => False) rfl (by first | (go_simp; done) | (go_simp; rfl)) ?aP (fun _ hk => hk.elim) ?aF ?aO ?aB ?aS ?aL ?_; (case aP => exact k71_mkM _ _ _ (⟨x8_4, x4_1, x154002_5, true⟩ : S71)); (case aB => exact (by repeat (first | (with_reducible first | exact HB.out | apply below_alloc | apply pw_below_drewN | apply below_drew1 | refine below_set ?_ GE153.out) | exact HB.out))); (case aF => exact (fun k_ hk => Kd.freshB (g := gb153) (o := .cells #[.int .i32 x8_4, .int .i64 x4_1, .int .i64 x154002_5, .bool true] 71 (0, 0)) (by (with_reducible repeat (first | refine blk_drewN ?_ _ | refine blk_drew ?_ | refine blk_alloc ?_ _)); refine blk_put (cs := #[.int .i32 65533, .int .i64 x4_1, .int .i64 x154002_5, .bool true]) ?_ 0 _ rfl; (with_reducible repeat (first | refine blk_drewN ?_ _ | refine blk_drew ?_ | refine blk_alloc ?_ _)); exact BK153.out) k_ hk)); (case aO => exact (by (with_reducible repeat (first | apply Kd.R_alloc | apply Kd.R_drewN | apply Kd.R_drew)); exact Kd.R_mono (Kd.R_far (p := ⟨gb153, 0, none⟩) (Kd.R_mono HO_3.out (fun k_ hk => (⟨hk, hk⟩ : _ ∧ k_ ≠ gb153))) (fun _ hk => hk.2) (.int .i32 x8_4)) (fun _ hk => hk.1))); (case aS => exact (below_size (by repeat (first | (with_reducible first | exact HB.out | apply below_alloc | apply pw_below_drewN | apply below_drew1 | refine below_set ?_ GE153.out) | exact HB.out)))); (case aL => have := LMc24.out; omega); intro v157 w26 ho hb hg hat; rw [← Ny156.out] at ho; have n0_ := Aside0.mk (blk_grown (g := gb153) (o := .cells #[.int .i32 x8_4, .int .i64 x4_1, .int .i64 x154002_5, .bool true] 71 (0, 0)) (by (with_reducible repeat (first | refine blk_drewN ?_ _ | refine blk_drew ?_ | refine blk_alloc ?_ _)); refine blk_put (cs := #[.int .i32 65533, .int .i64 x4_1, .int .i64 x154002_5, .bool true]) ?_ 0 _ rfl; (with_reducible repeat (first | refine blk_drewN ?_ _ | refine blk_drew ?_ | refine blk_alloc ?_ _)); exact BK153.out) hg (Kd.R_away HO_3.out (fun _ hk => hk))); have n1_ := Aside0.mk (hb); have n2_ := Aside0.mk (ho); clear BK153; clear HB; clear HO_3; have BK153 := n0_; have HB := n1_; have HO158 := n2_; clear n0_ n1_ n2_; clear ho hb hg hat; have hcz27_0 : w26.cell? ⟨gb153, 0, none⟩ = some (.int .i32 x8_4) := (blk_cell BK153.out 0).trans rfl; have hcz27_1 : w26.cell? ⟨gb153, 1, none⟩ = some (.int .i64 x4_1) := (blk_cell BK153.out 1).trans rfl; have hcz27_2 : w26.cell? ⟨gb153, 2, none⟩ = some (.int .i64 x154002_5) := (blk_cell BK153.out 2).trans rfl; have hcz27_3 : w26.cell? ⟨gb153, 3, none⟩ = some (.bool true) := (blk_cell BK153.out 3).trans rfl; have hfz27_0 := blk_frozen BK153.out 0; have hfz27_1 := blk_frozen BK153.out 1; have hfz27_2 := blk_frozen BK153.out 2; have hfz27_3 := blk_frozen BK153.out 3))
                 go_roundg k4
                 case measure => have := HK1.out; have := HJ5.out; have := HJ15.out; have := HK4.out; omega
                 case rel => exact ⟨(y156), (wrap64 (x4_1 + x154002_5)), (by first | rfl | (simp; done) | (simp [*]; done) | (unfold bt; split <;> first | rfl | (exfalso; simp_all; done) | (exfalso; simp_all; omega))), H', ⟨by have := HK1.out; have := HJ5.out; have := HJ15.out; have := HK4.out; omega⟩, ⟨by (with_reducible repeat (first | apply Kd.R_alloc | apply Kd.R_drewN | apply Kd.R_drew)); exact Kd.R_mono HO158.out (fun _ hk => trivial)⟩, ⟨by repeat (first | (with_reducible first | exact HB.out | apply below_alloc | apply pw_below_drewN | apply below_drew1 | refine below_set ?_ GE153.out) | exact HB.out)⟩⟩
                ·rw [if_neg c24] at H
                 exact absurd H (by simp)
          ·rw [if_neg c15] at H
           exact absurd H (by simp)
         ·rw [if_neg c14] at H
          exact absurd H (by simp)
        ·replace c13 := Bool.eq_false_iff.mpr c13
         subst c13
         have H1 : (if x3_1.length < 4398046511104 then (sieveref01_Pieces.l0 kj5 l0 (x3_1 ++ [(⟨65533, x4_1, x154002_5, false⟩ : S71)]) (wrap64 (x4_1 + x154002_5))) else (none)) = some r := by rw [if_neg (show ¬ (false = true) by decide)] at H; exact H
         clear H
         have H := H1
         clear H1
         by_cases c28 : x3_1.length < 4398046511104
         ·rw [if_pos c28] at H
          have LMc28 := Aside0.mk c28
          clear c28
          obtain ⟨y159, hy159⟩ : ∃ y_ : List (S71), y_ = (x3_1 ++ [(⟨65533, x4_1, x154002_5, false⟩ : S71)]) := ⟨_, rfl⟩
          replace H : (sieveref01_Pieces.l0 kj5 l0 y159 (wrap64 (x4_1 + x154002_5))) = some r := by first | (rw [hy159]; with_reducible exact H) | (have H2_ := (Option.bind_some _ _).symm.trans H; rw [hy159]; with_reducible exact H2_) | (have H2_ := (Option.bind_some _ _).symm.trans H; with_reducible exact H2_) | with_reducible exact H | (rw [hy159]; exact H) | exact H
          have Ny159 := Aside0.mk hy159
          clear hy159
          have H' := Aside0.mk H
          clear H
          have hcz29_0 : wc.cell? ⟨gb153, 0, none⟩ = some (.int .i32 65533) := (blk_cell BK153.out 0).trans rfl
          have hcz29_1 : wc.cell? ⟨gb153, 1, none⟩ = some (.int .i64 x4_1) := (blk_cell BK153.out 1).trans rfl
          have hcz29_2 : wc.cell? ⟨gb153, 2, none⟩ = some (.int .i64 x154002_5) := (blk_cell BK153.out 2).trans rfl
          have hcz29_3 : wc.cell? ⟨gb153, 3, none⟩ = some (.bool false) := (blk_cell BK153.out 3).trans rfl
          have hfz29_0 := blk_frozen BK153.out 0
          have hfz29_1 := blk_frozen BK153.out 1
          have hfz29_2 := blk_frozen BK153.out 2
          have hfz29_3 := blk_frozen BK153.out 3
          go_wp2_with (first | ((with_reducible refine gate_builtin (b := .append) (xs := #[.tmp 65, .tmp 67]) rfl ?_); at_builtin; refine Kd.R_append k71 (w0 := w) w.heap.size rfl (.tmp 65) (.tmp 67) 68 71 (.agg #[(.int .i32 0), (.int .i64 0), (.int .i64 0), (.bool false)]) 32 rfl Try.underlying68 info71 rfl (by decide) (by omega) u3 x3_1 (⟨65533, x4_1, x154002_5, false⟩ : S71) [.int .i32 65533, .int .i64 x4_1, .int .i64 x154002_5, .bool false] (fun k_ => k_ ≠ gb153) (fun _ => False) rfl rfl ?aP (fun _ hk => hk.elim) ?aF ?aO ?aB ?aS ?aL ?_; (case aP => exact k71_mkM _ _ _ (⟨65533, x4_1, x154002_5, false⟩ : S71)); (case aB => exact (by repeat (first | (with_reducible first | exact HB.out | apply below_alloc | apply pw_below_drewN | apply below_drew1 | refine below_set ?_ GE153.out) | exact HB.out))); (case aF => exact (fun k_ hk => Kd.freshB (g := gb153) (o := .cells #[.int .i32 65533, .int .i64 x4_1, .int .i64 x154002_5, .bool false] 71 (0, 0)) (by (with_reducible repeat (first | refine blk_drewN ?_ _ | refine blk_drew ?_ | refine blk_alloc ?_ _)); exact BK153.out) k_ hk)); (case aO => exact (by (with_reducible repeat (first | apply Kd.R_alloc | apply Kd.R_drewN | apply Kd.R_drew)); exact HO_3.out)); (case aS => exact (below_size (by repeat (first | (with_reducible first | exact HB.out | apply below_alloc | apply pw_below_drewN | apply below_drew1 | refine below_set ?_ GE153.out) | exact HB.out)))); (case aL => have := LMc28.out; omega); intro v160 w30 ho hb hg hat; rw [← Ny159.out] at ho; have n0_ := Aside0.mk (blk_grown (g := gb153) (o := .cells #[.int .i32 65533, .int .i64 x4_1, .int .i64 x154002_5, .bool false] 71 (0, 0)) (by (with_reducible repeat (first | refine blk_drewN ?_ _ | refine blk_drew ?_ | refine blk_alloc ?_ _)); exact BK153.out) hg (Kd.R_away HO_3.out (fun _ hk => hk))); have n1_ := Aside0.mk (hb); have n2_ := Aside0.mk (ho); clear BK153; clear HB; clear HO_3; have BK153 := n0_; have HB := n1_; have HO161 := n2_; clear n0_ n1_ n2_; clear ho hb hg hat; have hcz31_0 : w30.cell? ⟨gb153, 0, none⟩ = some (.int .i32 65533) := (blk_cell BK153.out 0).trans rfl; have hcz31_1 : w30.cell? ⟨gb153, 1, none⟩ = some (.int .i64 x4_1) := (blk_cell BK153.out 1).trans rfl; have hcz31_2 : w30.cell? ⟨gb153, 2, none⟩ = some (.int .i64 x154002_5) := (blk_cell BK153.out 2).trans rfl; have hcz31_3 : w30.cell? ⟨gb153, 3, none⟩ = some (.bool false) := (blk_cell BK153.out 3).trans rfl; have hfz31_0 := blk_frozen BK153.out 0; have hfz31_1 := blk_frozen BK153.out 1; have hfz31_2 := blk_frozen BK153.out 2; have hfz31_3 := blk_frozen BK153.out 3))
          go_roundg kj5
          case measure => have := HK1.out; have := HJ5.out; omega
          case rel => exact ⟨(y159), (wrap64 (x4_1 + x154002_5)), (by first | rfl | (simp; done) | (simp [*]; done) | (unfold bt; split <;> first | rfl | (exfalso; simp_all; done) | (exfalso; simp_all; omega))), H', ⟨by have := HK1.out; have := HJ5.out; omega⟩, ⟨by (with_reducible repeat (first | apply Kd.R_alloc | apply Kd.R_drewN | apply Kd.R_drew)); exact Kd.R_mono HO161.out (fun _ hk => trivial)⟩, ⟨by repeat (first | (with_reducible first | exact HB.out | apply below_alloc | apply pw_below_drewN | apply below_drew1 | refine below_set ?_ GE153.out) | exact HB.out)⟩⟩
         ·rw [if_neg c28] at H
          exact absurd H (by simp)
     ·rw [if_neg c4] at H
      exact absurd H (by simp)
    ·rw [if_neg c3] at H
     exact absurd H (by simp)
   ·rw [if_neg c2] at H
    have c2b0 : decide (x4_1 < (l0.length : Int)) = false := decide_eq_false c2
    clear c2
    obtain rfl := Option.some.inj H
    go_wp2
    go_ret
    exact ⟨_, by first | rfl | (simp [errW_none, errW_some] <;> rfl) | (simp [*, errW_none, errW_some] <;> rfl), by (with_reducible repeat (first | apply Kd.R_alloc | apply Kd.R_drewN | apply Kd.R_drew)); exact HO_3.out, by repeat (first | (with_reducible first | exact HB.out | apply below_alloc | apply pw_below_drewN | apply below_drew1) | exact HB.out)⟩

/-! ### sieveref01_Runes: function 10 -/
def sieveref01_Runes.l0 : Nat → List Int → List (S71) → Int → Int → Option (List Int)
 | 0, _, _, _, _ => none
 | k + 1, x3, x7, x8, x9 => if x9 < x8 then (if 0 ≤ x9 then (if x9 < (x7.length : Int) then (if x3.length < 35184372088832 then (sieveref01_Runes.l0 k (x3 ++ [(rd_T71 x7 x9).f0]) x7 x8 (wrap64 (x9 + 1))) else (none)) else (none)) else (none)) else (some x3)
def sieveref01_Runes.f (k : Nat) (l0 : List Int) : Option (List Int) := (sieveref01_Pieces.f k l0).bind fun t162 => (sieveref01_Runes.l0 k ([] : List Int) t162 (t162.length : Int) 0)
set_option maxHeartbeats 8000000 in
set_option maxRecDepth 100000 in
theorem sieveref01_Runes.calls (k : Nat) (A0 : Option Addr) (c0 : Nat) (l0 : List Int) (r : List Int) (w : World) (hr0 : Kd.C (Kd.int .u8) w A0 l0.length l0) (hc0 : l0.length ≤ c0) (h : sieveref01_Runes.f k l0 = some r) :
  Calls Try.prog 10 #[.slice A0 l0.length c0] w fun e w' => ∃ v0_ : Value, e = .returned (v0_) ∧ Kd.R (Kd.int .i32) 21 w' w.heap.size (fun _ => True) v0_ r ∧ Below w.heap.size w w' := by
 have hu71 := Try.underlying71
 have HR0 := Aside0.mk hr0
 have HC0 := Aside0.mk hc0
 clear hr0 hc0
 have HB := Aside0.mk (Below.refl w.heap.size w)
 have H : ((sieveref01_Pieces.f k l0).bind fun t162 => (sieveref01_Runes.l0 k ([] : List Int) t162 (t162.length : Int) 0)) = some r := h
 clear h
 replace H := Option.bind_eq_some_iff.mp H
 obtain ⟨t162, A20, H⟩ := H
 replace H : (sieveref01_Runes.l0 k ([] : List Int) t162 (t162.length : Int) 0) = some r := H
 have A2 := Aside0.mk A20
 clear A20
 have H' := Aside0.mk H
 clear H
 go_enter Try.func10, Try.ntmps10
 go_wp2_with (first | ((with_reducible refine gate_callee (f := 32) rfl ?_); refine goesL_ (some 7) rfl rfl Try.func32 (by kernel_rfl) rfl #[.slice A0 l0.length c0] rfl (by (try simp only [List.map_toArray, List.map_cons, List.map_nil]); first | done | rfl | (simp only [List.length_drop, List.length_take]; rfl) | (simp [*] <;> rfl)) ?_; (with_reducible refine (sieveref01_Pieces.calls k _ _ l0 t162 _ ?side1 ?side2 A2.out).mono ?_); (case side1 => repeat (first | exact HR0.out | (with_reducible refine Kd.C_alloc ?_ _) | (with_reducible refine Kd.C_drewN ?_ _) | (with_reducible refine Kd.C_drew ?_))); (case side2 => exact HC0.out); rintro e w3 ⟨v163, rfl, ho0, hb⟩; refine ⟨_, rfl, ?_⟩; have n0_ := Aside0.mk (Kd.R_lower ho0 (below_size (by repeat (first | (with_reducible first | exact HB.out | apply below_alloc | apply pw_below_drewN | apply below_drew1) | exact HB.out)))); have n1_ := Aside0.mk (below_step (by repeat (first | (with_reducible first | exact HB.out | apply below_alloc | apply pw_below_drewN | apply below_drew1) | exact HB.out)) hb); clear HB; have HO164 := n0_; have HB := n1_; clear n0_ n1_; (try clear hb); (try clear hb2); (try clear hk); (try clear hi); (try clear ho0); obtain ⟨Ao4, co4, eo4⟩ := Kd.R_slice HO164.out; subst eo4))
 go_loopg [3, 9] k (fun kq v3 v9 w' => ∃ (x3_1 : List Int) (x9_1 : Int), v9 = .int .i64 x9_1 ∧ Aside0 (sieveref01_Runes.l0 kq x3_1 t162 (t162.length : Int) x9_1 = some r) ∧ Aside0 (kq ≤ k) ∧ Aside0 (Kd.R (Kd.int .i32) 21 w' w.heap.size (fun _ => True) v3 x3_1) ∧ Aside0 (Kd.R k71 71 w' w.heap.size (fun _ => True) (.slice Ao4 t162.length co4) t162) ∧ Aside0 (Below w.heap.size w w'))
 case atStart => exact ⟨(([] : List Int)), (0), (by first | rfl | (simp; done) | (simp [*]; done) | (unfold bt; split <;> first | rfl | (exfalso; simp_all; done) | (exfalso; simp_all; omega))), H', ⟨Nat.le_refl _⟩, ⟨by first | exact Kd.R_nil _ _ _ _ _ | exact Kd.N_nil _ _ _ _ _ | exact Kd.V_nil _ _ _ _ _ | exact Kd.Q_nil _ _ _ _ _ | exact Kd.S_nil _ _ _ _ _⟩, ⟨by (with_reducible repeat (first | apply Kd.R_alloc | apply Kd.R_drewN | apply Kd.R_drew)); exact HO164.out⟩, ⟨by repeat (first | (with_reducible first | exact HB.out | apply below_alloc | apply pw_below_drewN | apply below_drew1) | exact HB.out)⟩⟩
 case round =>
  clear H'
  try clear c1
  try clear p2
  try clear c3
  obtain ⟨x3_1, x9_1, rfl, HA, HK1, HO_3, HO_7, HB⟩ := hrel
  cases gk with
  | zero => exact absurd HA.out (by simp [sieveref01_Runes.l0])
  | succ k1 =>
   have H := HA.out
   clear HA
   simp only [sieveref01_Runes.l0] at H
   by_cases c5 : x9_1 < (t162.length : Int)
   ·rw [if_pos c5] at H
    have c5b0 : decide (x9_1 < (t162.length : Int)) = true := decide_eq_true c5
    clear c5
    by_cases c6 : 0 ≤ x9_1
    ·rw [if_pos c6] at H
     have c6b0 : decide (0 ≤ x9_1) = true := decide_eq_true c6
     clear c6
     by_cases c7 : x9_1 < (t162.length : Int)
     ·rw [if_pos c7] at H
      have c7b0 : decide (x9_1 < (t162.length : Int)) = true := decide_eq_true c7
      clear c7
      by_cases c8 : x3_1.length < 35184372088832
      ·rw [if_pos c8] at H
       have LMc8 := Aside0.mk c8
       clear c8
       obtain ⟨y167, hy167⟩ : ∃ y_ : List Int, y_ = (x3_1 ++ [(rd_T71 t162 x9_1).f0]) := ⟨_, rfl⟩
       replace H : (sieveref01_Runes.l0 k1 y167 t162 (t162.length : Int) (wrap64 (x9_1 + 1))) = some r := by first | (rw [hy167]; with_reducible exact H) | (have H2_ := (Option.bind_some _ _).symm.trans H; rw [hy167]; with_reducible exact H2_) | (have H2_ := (Option.bind_some _ _).symm.trans H; with_reducible exact H2_) | with_reducible exact H | (rw [hy167]; exact H) | exact H
       have Ny167 := Aside0.mk hy167
       clear hy167
       have H' := Aside0.mk H
       clear H
       have p165 : 0 ≤ (x9_1 : Int) := of_decide_eq_true (by first | (with_reducible assumption) | assumption)
       have q165 : x9_1 < (t162.length : Int) := of_decide_eq_true (by first | (with_reducible assumption) | assumption)
       obtain ⟨ad165, e165, hx165_0, hx165_1, hx165_2, hx165_3⟩ := at_T71 (Kd.R_reads' HO_7.out).2.2 x9_1 p165 q165
       cases e165
       replace p165 := eq_true p165
       replace q165 := eq_true q165
       go_wp2_with (first | ((with_reducible refine gate_dst (N := 5) rfl ?_); refine box_event ?hg (N := 5) ?hd (cs := #[.int .i32 0, .int .i64 0, .int .i64 0, .bool false]) (t := 71) ?hr ?_; (case hd => rfl); (case hg => rfl); (case hr => first | (go_simp; done) | (go_simp; rfl)); intro gb166 hg w9 hbox hb; have n0_ := Aside0.mk (Kd.R_below (by (with_reducible repeat (first | apply Kd.R_alloc | apply Kd.R_drewN | apply Kd.R_drew)); exact HO_3.out) hb); have n1_ := Aside0.mk (Kd.R_below (Kd.R_elderB (by (with_reducible repeat (first | apply Kd.R_alloc | apply Kd.R_drewN | apply Kd.R_drew)); exact HO_7.out) gb166 (Nat.le_of_eq hg.symm)) hb); have n2_ := Aside0.mk (below_step (by repeat (first | (with_reducible first | exact HB.out | apply below_alloc | apply pw_below_drewN | apply below_drew1) | exact HB.out)) hb); have n3_ := Aside0.mk (hbox); have n4_ := Aside0.mk ((by rw [hg]; exact (below_size (by repeat (first | (with_reducible first | exact HB.out | apply below_alloc | apply pw_below_drewN | apply below_drew1) | exact HB.out))) : w.heap.size ≤ gb166)); have n5_ := Aside0.mk ((by rw [hg]; exact (below_size (by repeat (first | (with_reducible first | exact HB.out | apply below_alloc | apply pw_below_drewN | apply below_drew1) | exact HB.out))) : w.heap.size ≤ gb166)); clear HO_3; clear HO_7; clear HB; have HO_3 := n0_; have HO_7 := n1_; have HB := n2_; have BK166 := n3_; have GW166 := n4_; have GE166 := n5_; clear n0_ n1_ n2_ n3_ n4_ n5_; clear hb hbox hg; have hcz10_0 : w9.cell? ⟨gb166, 0, none⟩ = some (.int .i32 0) := (blk_cell BK166.out 0).trans rfl; have hcz10_1 : w9.cell? ⟨gb166, 1, none⟩ = some (.int .i64 0) := (blk_cell BK166.out 1).trans rfl; have hcz10_2 : w9.cell? ⟨gb166, 2, none⟩ = some (.int .i64 0) := (blk_cell BK166.out 2).trans rfl; have hcz10_3 : w9.cell? ⟨gb166, 3, none⟩ = some (.bool false) := (blk_cell BK166.out 3).trans rfl; have hfz10_0 := blk_frozen BK166.out 0; have hfz10_1 := blk_frozen BK166.out 1; have hfz10_2 := blk_frozen BK166.out 2; have hfz10_3 := blk_frozen BK166.out 3) | ((with_reducible refine gate_builtin (b := .append) (xs := #[.tmp 13, .tmp 16]) rfl ?_); at_builtin; refine Kd.R_append (Kd.int .i32) (w0 := w) w.heap.size rfl (.tmp 13) (.tmp 16) 28 21 (.int .i32 0) 4 rfl Try.underlying28 info21 rfl (by decide) (by omega) u3 x3_1 ((rd_T71 t162 x9_1).f0) [.int .i32 ((rd_T71 t162 x9_1).f0)] (fun _ => True) (fun _ => False) rfl (by first | (go_simp; done) | (go_simp; rfl)) ?aP (fun _ hk => hk.elim) ?aF ?aO ?aB ?aS ?aL ?_; (case aP => exact rfl); (case aB => exact (by repeat (first | (with_reducible first | exact HB.out | apply below_alloc | apply pw_below_drewN | apply below_drew1 | refine below_set ?_ GE166.out) | exact HB.out))); (case aF => exact (fun _ _ => trivial)); (case aO => exact (by (with_reducible repeat (first | apply Kd.R_alloc | apply Kd.R_drewN | apply Kd.R_drew)); exact Kd.R_mono (Kd.R_far (p := ⟨gb166, 3, none⟩) (Kd.R_far (p := ⟨gb166, 2, none⟩) (Kd.R_far (p := ⟨gb166, 1, none⟩) (Kd.R_far (p := ⟨gb166, 0, none⟩) (Kd.R_types HO_3.out BK166.out (by decide)) (fun _ hk => hk.2) (.int .i32 ((rd_T71 t162 x9_1).f0))) (fun _ hk => hk.2) (.int .i64 ((rd_T71 t162 x9_1).f1))) (fun _ hk => hk.2) (.int .i64 ((rd_T71 t162 x9_1).f2))) (fun _ hk => hk.2) (.bool ((rd_T71 t162 x9_1).f3))) (fun _ hk => trivial))); (case aS => exact (below_size (by repeat (first | (with_reducible first | exact HB.out | apply below_alloc | apply pw_below_drewN | apply below_drew1 | refine below_set ?_ GE166.out) | exact HB.out)))); (case aL => have := LMc8.out; omega); intro v168 w11 ho hb hg hat; rw [← Ny167.out] at ho; have n0_ := Aside0.mk (Kd.R_over' (by (with_reducible repeat (first | apply Kd.R_alloc | apply Kd.R_drewN | apply Kd.R_drew)); exact (Kd.R_mono (Kd.R_far (p := ⟨gb166, 3, none⟩) (Kd.R_far (p := ⟨gb166, 2, none⟩) (Kd.R_far (p := ⟨gb166, 1, none⟩) (Kd.R_far (p := ⟨gb166, 0, none⟩) (Kd.R_mono HO_7.out (fun k_ hk => (⟨hk, hk.2⟩ : _ ∧ k_ ≠ gb166))) (fun _ hk => hk.2) (.int .i32 ((rd_T71 t162 x9_1).f0))) (fun _ hk => hk.2) (.int .i64 ((rd_T71 t162 x9_1).f1))) (fun _ hk => hk.2) (.int .i64 ((rd_T71 t162 x9_1).f2))) (fun _ hk => hk.2) (.bool ((rd_T71 t162 x9_1).f3))) (fun _ h_ => h_.1))) (Kd.R_typed (by (with_reducible repeat (first | apply Kd.R_alloc | apply Kd.R_drewN | apply Kd.R_drew)); exact (Kd.R_mono (Kd.R_far (p := ⟨gb166, 3, none⟩) (Kd.R_far (p := ⟨gb166, 2, none⟩) (Kd.R_far (p := ⟨gb166, 1, none⟩) (Kd.R_far (p := ⟨gb166, 0, none⟩) (Kd.R_types HO_3.out BK166.out (by decide)) (fun _ hk => hk.2) (.int .i32 ((rd_T71 t162 x9_1).f0))) (fun _ hk => hk.2) (.int .i64 ((rd_T71 t162 x9_1).f1))) (fun _ hk => hk.2) (.int .i64 ((rd_T71 t162 x9_1).f2))) (fun _ hk => hk.2) (.bool ((rd_T71 t162 x9_1).f3))) (fun _ h_ => h_.1)))) (by decide) hg); have n1_ := Aside0.mk (blk_grown (g := gb166) (o := .cells #[.int .i32 ((rd_T71 t162 x9_1).f0), .int .i64 ((rd_T71 t162 x9_1).f1), .int .i64 ((rd_T71 t162 x9_1).f2), .bool ((rd_T71 t162 x9_1).f3)] 71 (0, 0)) (by (with_reducible repeat (first | refine blk_drewN ?_ _ | refine blk_drew ?_ | refine blk_alloc ?_ _)); refine blk_put (cs := #[.int .i32 ((rd_T71 t162 x9_1).f0), .int .i64 ((rd_T71 t162 x9_1).f1), .int .i64 ((rd_T71 t162 x9_1).f2), .bool false]) ?_ 3 _ rfl; (with_reducible repeat (first | refine blk_drewN ?_ _ | refine blk_drew ?_ | refine blk_alloc ?_ _)); refine blk_put (cs := #[.int .i32 ((rd_T71 t162 x9_1).f0), .int .i64 ((rd_T71 t162 x9_1).f1), .int .i64 0, .bool false]) ?_ 2 _ rfl; (with_reducible repeat (first | refine blk_drewN ?_ _ | refine blk_drew ?_ | refine blk_alloc ?_ _)); refine blk_put (cs := #[.int .i32 ((rd_T71 t162 x9_1).f0), .int .i64 0, .int .i64 0, .bool false]) ?_ 1 _ rfl; (with_reducible repeat (first | refine blk_drewN ?_ _ | refine blk_drew ?_ | refine blk_alloc ?_ _)); refine blk_put (cs := #[.int .i32 0, .int .i64 0, .int .i64 0, .bool false]) ?_ 0 _ rfl; (with_reducible repeat (first | refine blk_drewN ?_ _ | refine blk_drew ?_ | refine blk_alloc ?_ _)); exact BK166.out) hg (Kd.R_ne HO_3.out BK166.out (by decide))); have n2_ := Aside0.mk (hb); have n3_ := Aside0.mk (ho); clear HO_7; clear BK166; clear HB; clear HO_3; have HO_7 := n0_; have BK166 := n1_; have HB := n2_; have HO169 := n3_; clear n0_ n1_ n2_ n3_; clear ho hb hg hat))
       go_roundg k1
       case measure => have := HK1.out; omega
       case rel => exact ⟨(y167), (wrap64 (x9_1 + 1)), (by first | rfl | (simp; done) | (simp [*]; done) | (unfold bt; split <;> first | rfl | (exfalso; simp_all; done) | (exfalso; simp_all; omega))), H', ⟨by have := HK1.out; omega⟩, ⟨by (with_reducible repeat (first | apply Kd.R_alloc | apply Kd.R_drewN | apply Kd.R_drew)); exact HO169.out⟩, ⟨by (with_reducible repeat (first | apply Kd.R_alloc | apply Kd.R_drewN | apply Kd.R_drew)); exact Kd.R_mono HO_7.out (fun _ hk => trivial)⟩, ⟨by repeat (first | (with_reducible first | exact HB.out | apply below_alloc | apply pw_below_drewN | apply below_drew1 | refine below_set ?_ GE166.out) | exact HB.out)⟩⟩
      ·rw [if_neg c8] at H
       exact absurd H (by simp)
     ·rw [if_neg c7] at H
      exact absurd H (by simp)
    ·rw [if_neg c6] at H
     exact absurd H (by simp)
   ·rw [if_neg c5] at H
    have c5b0 : decide (x9_1 < (t162.length : Int)) = false := decide_eq_false c5
    clear c5
    obtain rfl := Option.some.inj H
    go_wp2
    go_ret
    exact ⟨_, by first | rfl | (simp [errW_none, errW_some] <;> rfl) | (simp [*, errW_none, errW_some] <;> rfl), by (with_reducible repeat (first | apply Kd.R_alloc | apply Kd.R_drewN | apply Kd.R_drew)); exact HO_3.out, by repeat (first | (with_reducible first | exact HB.out | apply below_alloc | apply pw_below_drewN | apply below_drew1) | exact HB.out)⟩

/-! ### sieveref01_Char: function 60 -/
def sieveref01_Char.f (a0 : Int) : Option (Bool) := if a0 ≥ 0 then (if a0 ≤ 1114111 then (if a0 < 55296 then (some true) else (some (decide (a0 > 57343)))) else (some false)) else (some false)
set_option maxHeartbeats 8000000 in
set_option maxRecDepth 100000 in
theorem sieveref01_Char.calls (a0 : Int) (r : Bool) (w : World) (h : sieveref01_Char.f a0 = some r) :
  Calls Try.prog 60 #[.int .i32 a0] w fun e w' => e = .returned (.bool r) ∧ Drawn0 w w' := by
 have H : (if a0 ≥ 0 then (if a0 ≤ 1114111 then (if a0 < 55296 then (some true) else (some (decide (a0 > 57343)))) else (some false)) else (some false)) = some r := h
 clear h
 by_cases c2 : a0 ≥ 0
 ·rw [if_pos c2] at H
  have c2b0 : decide (0 ≤ a0) = true := decide_eq_true c2
  clear c2
  by_cases c3 : a0 ≤ 1114111
  ·rw [if_pos c3] at H
   have c3b0 : decide (a0 ≤ 1114111) = true := decide_eq_true c3
   clear c3
   by_cases c4 : a0 < 55296
   ·rw [if_pos c4] at H
    have c4b0 : decide (a0 < 55296) = true := decide_eq_true c4
    clear c4
    obtain rfl := Option.some.inj H
    go_enter Try.func60, Try.ntmps60
    go_wp2
    go_ret
    exact ⟨by first | rfl | (simp; done) | (simp [*]; done), by repeat (first | exact Drawn0.refl _ | apply Drawn0.step)⟩
   ·rw [if_neg c4] at H
    have c4b0 : decide (a0 < 55296) = false := decide_eq_false c4
    clear c4
    obtain rfl := Option.some.inj H
    go_enter Try.func60, Try.ntmps60
    go_wp2
    go_ret
    exact ⟨by first | rfl | (simp; done) | (simp [*]; done), by repeat (first | exact Drawn0.refl _ | apply Drawn0.step)⟩
  ·rw [if_neg c3] at H
   have c3b0 : decide (a0 ≤ 1114111) = false := decide_eq_false c3
   clear c3
   obtain rfl := Option.some.inj H
   go_enter Try.func60, Try.ntmps60
   go_wp2
   go_ret
   exact ⟨by first | rfl | (simp; done) | (simp [*]; done), by repeat (first | exact Drawn0.refl _ | apply Drawn0.step)⟩
 ·rw [if_neg c2] at H
  have c2b0 : decide (0 ≤ a0) = false := decide_eq_false c2
  clear c2
  obtain rfl := Option.some.inj H
  go_enter Try.func60, Try.ntmps60
  go_wp2
  go_ret
  exact ⟨by first | rfl | (simp; done) | (simp [*]; done), by repeat (first | exact Drawn0.refl _ | apply Drawn0.step)⟩

/-! ### sieveref01_Width: function 73 -/
def sieveref01_Width.f (a0 : Int) : Option (Int) := (sieveref01_Char.f a0).bind fun t170 => (if t170 = true then (if a0 < 128 then (some 1) else (if a0 < 2048 then (some 2) else (if a0 < 65536 then (some 3) else (some 4)))) else (some 3))
set_option maxHeartbeats 8000000 in
set_option maxRecDepth 100000 in
theorem sieveref01_Width.calls (a0 : Int) (r : Int) (w : World) (h : sieveref01_Width.f a0 = some r) :
  Calls Try.prog 73 #[.int .i32 a0] w fun e w' => e = .returned (.int .i64 r) ∧ Drawn0 w w' := by
 have H : ((sieveref01_Char.f a0).bind fun t170 => (if t170 = true then (if a0 < 128 then (some 1) else (if a0 < 2048 then (some 2) else (if a0 < 65536 then (some 3) else (some 4)))) else (some 3))) = some r := h
 clear h
 replace H := Option.bind_eq_some_iff.mp H
 obtain ⟨t170, A20, H⟩ := H
 replace H : (if t170 = true then (if a0 < 128 then (some 1) else (if a0 < 2048 then (some 2) else (if a0 < 65536 then (some 3) else (some 4)))) else (some 3)) = some r := H
 have A2 := Aside0.mk A20
 clear A20
 by_cases c3 : t170 = true
 ·subst c3
  have H1 : (if a0 < 128 then (some 1) else (if a0 < 2048 then (some 2) else (if a0 < 65536 then (some 3) else (some 4)))) = some r := by rw [if_pos rfl] at H; exact H
  clear H
  have H := H1
  clear H1
  by_cases c4 : a0 < 128
  ·rw [if_pos c4] at H
   have c4b0 : decide (a0 < 128) = true := decide_eq_true c4
   clear c4
   obtain rfl := Option.some.inj H
   go_enter Try.func73, Try.ntmps73
   go_wp2_with (first | ((with_reducible refine gate_callee (f := 60) rfl ?_); refine goesL_ (some 5) rfl rfl Try.func60 (by kernel_rfl) rfl #[.int .i32 a0] rfl (by (try simp only [List.map_toArray, List.map_cons, List.map_nil]); first | done | rfl | (simp only [List.length_drop, List.length_take]; rfl) | (simp [*] <;> rfl)) ?_; (with_reducible refine (sieveref01_Char.calls a0 true _ A2.out).mono ?_); rintro e w' ⟨rfl, ⟨nd, rfl⟩⟩; refine ⟨_, rfl, ?_⟩))
   go_ret
   exact ⟨by first | rfl | (simp; done) | (simp [*]; done), by repeat (first | exact Drawn0.refl _ | apply Drawn0.step)⟩
  ·rw [if_neg c4] at H
   have c4b0 : decide (a0 < 128) = false := decide_eq_false c4
   clear c4
   by_cases c5 : a0 < 2048
   ·rw [if_pos c5] at H
    have c5b0 : decide (a0 < 2048) = true := decide_eq_true c5
    clear c5
    obtain rfl := Option.some.inj H
    go_enter Try.func73, Try.ntmps73
    go_wp2_with (first | ((with_reducible refine gate_callee (f := 60) rfl ?_); refine goesL_ (some 5) rfl rfl Try.func60 (by kernel_rfl) rfl #[.int .i32 a0] rfl (by (try simp only [List.map_toArray, List.map_cons, List.map_nil]); first | done | rfl | (simp only [List.length_drop, List.length_take]; rfl) | (simp [*] <;> rfl)) ?_; (with_reducible refine (sieveref01_Char.calls a0 true _ A2.out).mono ?_); rintro e w' ⟨rfl, ⟨nd, rfl⟩⟩; refine ⟨_, rfl, ?_⟩))
    go_ret
    exact ⟨by first | rfl | (simp; done) | (simp [*]; done), by repeat (first | exact Drawn0.refl _ | apply Drawn0.step)⟩
   ·rw [if_neg c5] at H
    have c5b0 : decide (a0 < 2048) = false := decide_eq_false c5
    clear c5
    by_cases c6 : a0 < 65536
    ·rw [if_pos c6] at H
     have c6b0 : decide (a0 < 65536) = true := decide_eq_true c6
     clear c6
     obtain rfl := Option.some.inj H
     go_enter Try.func73, Try.ntmps73
     go_wp2_with (first | ((with_reducible refine gate_callee (f := 60) rfl ?_); refine goesL_ (some 5) rfl rfl Try.func60 (by kernel_rfl) rfl #[.int .i32 a0] rfl (by (try simp only [List.map_toArray, List.map_cons, List.map_nil]); first | done | rfl | (simp only [List.length_drop, List.length_take]; rfl) | (simp [*] <;> rfl)) ?_; (with_reducible refine (sieveref01_Char.calls a0 true _ A2.out).mono ?_); rintro e w' ⟨rfl, ⟨nd, rfl⟩⟩; refine ⟨_, rfl, ?_⟩))
     go_ret
     exact ⟨by first | rfl | (simp; done) | (simp [*]; done), by repeat (first | exact Drawn0.refl _ | apply Drawn0.step)⟩
    ·rw [if_neg c6] at H
     have c6b0 : decide (a0 < 65536) = false := decide_eq_false c6
     clear c6
     obtain rfl := Option.some.inj H
     go_enter Try.func73, Try.ntmps73
     go_wp2_with (first | ((with_reducible refine gate_callee (f := 60) rfl ?_); refine goesL_ (some 5) rfl rfl Try.func60 (by kernel_rfl) rfl #[.int .i32 a0] rfl (by (try simp only [List.map_toArray, List.map_cons, List.map_nil]); first | done | rfl | (simp only [List.length_drop, List.length_take]; rfl) | (simp [*] <;> rfl)) ?_; (with_reducible refine (sieveref01_Char.calls a0 true _ A2.out).mono ?_); rintro e w' ⟨rfl, ⟨nd, rfl⟩⟩; refine ⟨_, rfl, ?_⟩))
     go_ret
     exact ⟨by first | rfl | (simp; done) | (simp [*]; done), by repeat (first | exact Drawn0.refl _ | apply Drawn0.step)⟩
 ·replace c3 := Bool.eq_false_iff.mpr c3
  subst c3
  have H1 : (some 3) = some r := by rw [if_neg (show ¬ (false = true) by decide)] at H; exact H
  clear H
  have H := H1
  clear H1
  obtain rfl := Option.some.inj H
  go_enter Try.func73, Try.ntmps73
  go_wp2_with (first | ((with_reducible refine gate_callee (f := 60) rfl ?_); refine goesL_ (some 5) rfl rfl Try.func60 (by kernel_rfl) rfl #[.int .i32 a0] rfl (by (try simp only [List.map_toArray, List.map_cons, List.map_nil]); first | done | rfl | (simp only [List.length_drop, List.length_take]; rfl) | (simp [*] <;> rfl)) ?_; (with_reducible refine (sieveref01_Char.calls a0 false _ A2.out).mono ?_); rintro e w' ⟨rfl, ⟨nd, rfl⟩⟩; refine ⟨_, rfl, ?_⟩))
  go_ret
  exact ⟨by first | rfl | (simp; done) | (simp [*]; done), by repeat (first | exact Drawn0.refl _ | apply Drawn0.step)⟩

/-! ### sieveref01_bytesOf: function 57 -/
def sieveref01_bytesOf.j0 : Nat → Int → Option (List Int)
 | 0, _ => none
 | k + 1, x0 => (sieveref01_Width.f x0).bind fun t172 => (if t172 = 1 then (some (([(x0) % 256] : List Int))) else (if t172 = 2 then (some (([(wrap32 (192 + (wrap32 (Int.tdiv x0 64)))) % 256, (wrap32 (128 + (Int.tmod x0 64))) % 256] : List Int))) else (if t172 = 3 then (some (([(wrap32 (224 + (wrap32 (Int.tdiv x0 4096)))) % 256, (wrap32 (128 + (Int.tmod (wrap32 (Int.tdiv x0 64)) 64))) % 256, (wrap32 (128 + (Int.tmod x0 64))) % 256] : List Int))) else (some (([(wrap32 (240 + (wrap32 (Int.tdiv x0 262144)))) % 256, (wrap32 (128 + (Int.tmod (wrap32 (Int.tdiv x0 4096)) 64))) % 256, (wrap32 (128 + (Int.tmod (wrap32 (Int.tdiv x0 64)) 64))) % 256, (wrap32 (128 + (Int.tmod x0 64))) % 256] : List Int))))))
def sieveref01_bytesOf.f (k : Nat) (a0 : Int) : Option (List Int) := (sieveref01_Char.f a0).bind fun t171 => (if t171 = true then (sieveref01_bytesOf.j0 k a0) else (sieveref01_bytesOf.j0 k 65533))
set_option maxHeartbeats 8000000 in
set_option maxRecDepth 100000 in
theorem sieveref01_bytesOf.calls (k : Nat) (a0 : Int) (r : List Int) (w : World) (h : sieveref01_bytesOf.f k a0 = some r) :
  Calls Try.prog 57 #[.int .i32 a0] w fun e w' => ∃ v0_ : Value, e = .returned (v0_) ∧ Kd.R (Kd.int .u8) 5 w' w.heap.size (fun _ => True) v0_ r ∧ Below w.heap.size w w' := by
 have HB := Aside0.mk (Below.refl w.heap.size w)
 have H : ((sieveref01_Char.f a0).bind fun t171 => (if t171 = true then (sieveref01_bytesOf.j0 k a0) else (sieveref01_bytesOf.j0 k 65533))) = some r := h
 clear h
 replace H := Option.bind_eq_some_iff.mp H
 obtain ⟨t171, A20, H⟩ := H
 replace H : (if t171 = true then (sieveref01_bytesOf.j0 k a0) else (sieveref01_bytesOf.j0 k 65533)) = some r := H
 have A2 := Aside0.mk A20
 clear A20
 have HC3 := Aside0.mk H
 clear H
 go_enter Try.func57, Try.ntmps57
 go_upto_if 5 with (first | ((with_reducible refine gate_callee (f := 60) rfl ?_); refine goesL_ (some 4) rfl rfl Try.func60 (by kernel_rfl) rfl #[.int .i32 a0] rfl (by (try simp only [List.map_toArray, List.map_cons, List.map_nil]); first | done | rfl | (simp only [List.length_drop, List.length_take]; rfl) | (simp [*] <;> rfl)) ?_; (with_reducible refine (sieveref01_Char.calls a0 t171 _ A2.out).mono ?_); rintro e w' ⟨rfl, ⟨nd, rfl⟩⟩; refine ⟨_, rfl, ?_⟩))
 (try simp only [Act.put, List.setIfInBounds_toArray, List.set_cons_zero, List.set_cons_succ])
 go_cut [0] (fun v0 wc => ∃ (kq : Nat) (x0_2 : Int), v0 = .int .i32 x0_2 ∧ Aside0 (sieveref01_bytesOf.j0 kq x0_2 = some r) ∧ Aside0 (kq ≤ k) ∧ Aside0 (Below w.heap.size w wc))
 case first =>
  have H := HC3.out
  clear HC3
  by_cases c4 : t171 = true
  ·subst c4
   have H1 : (sieveref01_bytesOf.j0 k a0) = some r := by rw [if_pos rfl] at H; exact H
   clear H
   have H := H1
   clear H1
   have H' := Aside0.mk H
   clear H
   go_wp2
   go_meet
   case rel => exact ⟨_, (a0), (by first | rfl | (simp; done) | (simp [*]; done) | (unfold bt; split <;> first | rfl | (exfalso; simp_all; done) | (exfalso; simp_all; omega))), H', ⟨by first | omega | exact Nat.le_refl _⟩, ⟨by repeat (first | (with_reducible first | exact HB.out | apply below_alloc | apply pw_below_drewN | apply below_drew1) | exact HB.out)⟩⟩
  ·replace c4 := Bool.eq_false_iff.mpr c4
   subst c4
   have H1 : (sieveref01_bytesOf.j0 k 65533) = some r := by rw [if_neg (show ¬ (false = true) by decide)] at H; exact H
   clear H
   have H := H1
   clear H1
   have H' := Aside0.mk H
   clear H
   go_wp2
   go_meet
   case rel => exact ⟨_, (65533), (by first | rfl | (simp; done) | (simp [*]; done) | (unfold bt; split <;> first | rfl | (exfalso; simp_all; done) | (exfalso; simp_all; omega))), H', ⟨by first | omega | exact Nat.le_refl _⟩, ⟨by repeat (first | (with_reducible first | exact HB.out | apply below_alloc | apply pw_below_drewN | apply below_drew1) | exact HB.out)⟩⟩
 case rest =>
  clear HC3
  try clear p2
  try clear c4
  obtain ⟨kq, x0_2, rfl, HA, HJ2, HB⟩ := hcut
  cases kq with
  | zero => exact absurd HA.out (by simp [sieveref01_bytesOf.j0])
  | succ kj2 =>
   have H := HA.out
   clear HA
   simp only [sieveref01_bytesOf.j0] at H
   replace H := Option.bind_eq_some_iff.mp H
   obtain ⟨t172, A50, H⟩ := H
   replace H : (if t172 = 1 then (some (([(x0_2) % 256] : List Int))) else (if t172 = 2 then (some (([(wrap32 (192 + (wrap32 (Int.tdiv x0_2 64)))) % 256, (wrap32 (128 + (Int.tmod x0_2 64))) % 256] : List Int))) else (if t172 = 3 then (some (([(wrap32 (224 + (wrap32 (Int.tdiv x0_2 4096)))) % 256, (wrap32 (128 + (Int.tmod (wrap32 (Int.tdiv x0_2 64)) 64))) % 256, (wrap32 (128 + (Int.tmod x0_2 64))) % 256] : List Int))) else (some (([(wrap32 (240 + (wrap32 (Int.tdiv x0_2 262144)))) % 256, (wrap32 (128 + (Int.tmod (wrap32 (Int.tdiv x0_2 4096)) 64))) % 256, (wrap32 (128 + (Int.tmod (wrap32 (Int.tdiv x0_2 64)) 64))) % 256, (wrap32 (128 + (Int.tmod x0_2 64))) % 256] : List Int)))))) = some r := H
   have A5 := Aside0.mk A50
   clear A50
   by_cases c6 : t172 = 1
   ·rw [if_pos c6] at H
    have c6b0 : (t172 == 1) = true := beq_iff_eq.mpr c6
    have c6b1 : (t172 != 1) = false := bne_eq_false_iff_eq.mpr c6
    clear c6
    obtain ⟨y173, hy173⟩ : ∃ y_ : List Int, y_ = (([(x0_2) % 256] : List Int)) := ⟨_, rfl⟩
    replace H : (some y173) = some r := by first | (rw [hy173]; with_reducible exact H) | (have H2_ := (Option.bind_some _ _).symm.trans H; rw [hy173]; with_reducible exact H2_) | (have H2_ := (Option.bind_some _ _).symm.trans H; with_reducible exact H2_) | with_reducible exact H | (rw [hy173]; exact H) | exact H
    have Ny173 := Aside0.mk hy173
    clear hy173
    obtain rfl := Option.some.inj H
    go_wp2_with (first | ((with_reducible refine gate_callee (f := 73) rfl ?_); refine goesL_ (some 7) rfl rfl Try.func73 (by kernel_rfl) rfl #[.int .i32 x0_2] rfl (by (try simp only [List.map_toArray, List.map_cons, List.map_nil]); first | done | rfl | (simp only [List.length_drop, List.length_take]; rfl) | (simp [*] <;> rfl)) ?_; (with_reducible refine (sieveref01_Width.calls x0_2 t172 _ A5.out).mono ?_); rintro e w' ⟨rfl, ⟨nd, rfl⟩⟩; refine ⟨_, rfl, ?_⟩) | ((with_reducible refine gate_dst (N := 12) rfl ?_); refine Kd.R_lit (Kd.int .u8) _ 5 ?hg (N := 12) ?hd (xs := ([(x0_2) % 256] : List Int)) (inner := [.int .u8 ((x0_2) % 256)]) (ok := fun _ => True) (okp := fun _ => True) ?hr ?hp (fun _ hk => hk) trivial (Below.refl _ _) (Nat.le_refl _) (by simp) ?_; (case hd => rfl); (case hg => rfl); (case hr => first | (go_simp; done) | (go_simp; rfl)); (case hp => exact (Reps.one (show Kd.M (Kd.int .u8) _ _ _ ((x0_2) % 256) [.int .u8 ((x0_2) % 256)] from rfl) (Reps.none _ _))); intro v174 w7 ho8 hb hg_ hnew_; clear hg_ hnew_; (first | rw [← Ny173.out] at ho8 | (simp only [Int.reduceToNat] at ho8; rw [← Ny173.out] at ho8)); have n0_ := Aside0.mk (Kd.R_lower ho8 (below_size (by repeat (first | (with_reducible first | exact HB.out | apply below_alloc | apply pw_below_drewN | apply below_drew1) | exact HB.out)))); have n1_ := Aside0.mk (below_step (by repeat (first | (with_reducible first | exact HB.out | apply below_alloc | apply pw_below_drewN | apply below_drew1) | exact HB.out)) hb); clear HB; have HO175 := n0_; have HB := n1_; clear n0_ n1_; clear hb ho8))
    go_ret
    exact ⟨_, by first | rfl | (simp [errW_none, errW_some] <;> rfl) | (simp [*, errW_none, errW_some] <;> rfl), by (with_reducible repeat (first | apply Kd.R_alloc | apply Kd.R_drewN | apply Kd.R_drew)); exact HO175.out, by repeat (first | (with_reducible first | exact HB.out | apply below_alloc | apply pw_below_drewN | apply below_drew1) | exact HB.out)⟩
   ·rw [if_neg c6] at H
    have c6b0 : (t172 == 1) = false := beq_eq_false_iff_ne.mpr c6
    have c6b1 : (t172 != 1) = true := bne_iff_ne.mpr c6
    by_cases c9 : t172 = 2
    ·rw [if_pos c9] at H
     have c9b0 : (t172 == 2) = true := beq_iff_eq.mpr c9
     have c9b1 : (t172 != 2) = false := bne_eq_false_iff_eq.mpr c9
     clear c9
     obtain ⟨y176, hy176⟩ : ∃ y_ : List Int, y_ = (([(wrap32 (192 + (wrap32 (Int.tdiv x0_2 64)))) % 256, (wrap32 (128 + (Int.tmod x0_2 64))) % 256] : List Int)) := ⟨_, rfl⟩
     replace H : (some y176) = some r := by first | (rw [hy176]; with_reducible exact H) | (have H2_ := (Option.bind_some _ _).symm.trans H; rw [hy176]; with_reducible exact H2_) | (have H2_ := (Option.bind_some _ _).symm.trans H; with_reducible exact H2_) | with_reducible exact H | (rw [hy176]; exact H) | exact H
     have Ny176 := Aside0.mk hy176
     clear hy176
     obtain rfl := Option.some.inj H
     go_wp2_with (first | ((with_reducible refine gate_callee (f := 73) rfl ?_); refine goesL_ (some 7) rfl rfl Try.func73 (by kernel_rfl) rfl #[.int .i32 x0_2] rfl (by (try simp only [List.map_toArray, List.map_cons, List.map_nil]); first | done | rfl | (simp only [List.length_drop, List.length_take]; rfl) | (simp [*] <;> rfl)) ?_; (with_reducible refine (sieveref01_Width.calls x0_2 t172 _ A5.out).mono ?_); rintro e w' ⟨rfl, ⟨nd, rfl⟩⟩; refine ⟨_, rfl, ?_⟩) | ((with_reducible refine gate_dst (N := 23) rfl ?_); refine Kd.R_lit (Kd.int .u8) _ 5 ?hg (N := 23) ?hd (xs := ([(wrap32 (192 + (wrap32 (Int.tdiv x0_2 64)))) % 256, (wrap32 (128 + (Int.tmod x0_2 64))) % 256] : List Int)) (inner := [.int .u8 ((wrap32 (192 + (wrap32 (Int.tdiv x0_2 64)))) % 256), .int .u8 ((wrap32 (128 + (Int.tmod x0_2 64))) % 256)]) (ok := fun _ => True) (okp := fun _ => True) ?hr ?hp (fun _ hk => hk) trivial (Below.refl _ _) (Nat.le_refl _) (by simp) ?_; (case hd => rfl); (case hg => rfl); (case hr => first | (go_simp; done) | (go_simp; rfl)); (case hp => exact (Reps.one (show Kd.M (Kd.int .u8) _ _ _ ((wrap32 (192 + (wrap32 (Int.tdiv x0_2 64)))) % 256) [.int .u8 ((wrap32 (192 + (wrap32 (Int.tdiv x0_2 64)))) % 256)] from rfl) (Reps.one (show Kd.M (Kd.int .u8) _ _ _ ((wrap32 (128 + (Int.tmod x0_2 64))) % 256) [.int .u8 ((wrap32 (128 + (Int.tmod x0_2 64))) % 256)] from rfl) (Reps.none _ _)))); intro v177 w10 ho11 hb hg_ hnew_; clear hg_ hnew_; (first | rw [← Ny176.out] at ho11 | (simp only [Int.reduceToNat] at ho11; rw [← Ny176.out] at ho11)); have n0_ := Aside0.mk (Kd.R_lower ho11 (below_size (by repeat (first | (with_reducible first | exact HB.out | apply below_alloc | apply pw_below_drewN | apply below_drew1) | exact HB.out)))); have n1_ := Aside0.mk (below_step (by repeat (first | (with_reducible first | exact HB.out | apply below_alloc | apply pw_below_drewN | apply below_drew1) | exact HB.out)) hb); clear HB; have HO178 := n0_; have HB := n1_; clear n0_ n1_; clear hb ho11))
     go_ret
     exact ⟨_, by first | rfl | (simp [errW_none, errW_some] <;> rfl) | (simp [*, errW_none, errW_some] <;> rfl), by (with_reducible repeat (first | apply Kd.R_alloc | apply Kd.R_drewN | apply Kd.R_drew)); exact HO178.out, by repeat (first | (with_reducible first | exact HB.out | apply below_alloc | apply pw_below_drewN | apply below_drew1) | exact HB.out)⟩
    ·rw [if_neg c9] at H
     have c9b0 : (t172 == 2) = false := beq_eq_false_iff_ne.mpr c9
     have c9b1 : (t172 != 2) = true := bne_iff_ne.mpr c9
     by_cases c12 : t172 = 3
     ·rw [if_pos c12] at H
      have c12b0 : (t172 == 3) = true := beq_iff_eq.mpr c12
      have c12b1 : (t172 != 3) = false := bne_eq_false_iff_eq.mpr c12
      clear c12
      obtain ⟨y179, hy179⟩ : ∃ y_ : List Int, y_ = (([(wrap32 (224 + (wrap32 (Int.tdiv x0_2 4096)))) % 256, (wrap32 (128 + (Int.tmod (wrap32 (Int.tdiv x0_2 64)) 64))) % 256, (wrap32 (128 + (Int.tmod x0_2 64))) % 256] : List Int)) := ⟨_, rfl⟩
      replace H : (some y179) = some r := by first | (rw [hy179]; with_reducible exact H) | (have H2_ := (Option.bind_some _ _).symm.trans H; rw [hy179]; with_reducible exact H2_) | (have H2_ := (Option.bind_some _ _).symm.trans H; with_reducible exact H2_) | with_reducible exact H | (rw [hy179]; exact H) | exact H
      have Ny179 := Aside0.mk hy179
      clear hy179
      obtain rfl := Option.some.inj H
      go_wp2_with (first | ((with_reducible refine gate_callee (f := 73) rfl ?_); refine goesL_ (some 7) rfl rfl Try.func73 (by kernel_rfl) rfl #[.int .i32 x0_2] rfl (by (try simp only [List.map_toArray, List.map_cons, List.map_nil]); first | done | rfl | (simp only [List.length_drop, List.length_take]; rfl) | (simp [*] <;> rfl)) ?_; (with_reducible refine (sieveref01_Width.calls x0_2 t172 _ A5.out).mono ?_); rintro e w' ⟨rfl, ⟨nd, rfl⟩⟩; refine ⟨_, rfl, ?_⟩) | ((with_reducible refine gate_dst (N := 39) rfl ?_); refine Kd.R_lit (Kd.int .u8) _ 5 ?hg (N := 39) ?hd (xs := ([(wrap32 (224 + (wrap32 (Int.tdiv x0_2 4096)))) % 256, (wrap32 (128 + (Int.tmod (wrap32 (Int.tdiv x0_2 64)) 64))) % 256, (wrap32 (128 + (Int.tmod x0_2 64))) % 256] : List Int)) (inner := [.int .u8 ((wrap32 (224 + (wrap32 (Int.tdiv x0_2 4096)))) % 256), .int .u8 ((wrap32 (128 + (Int.tmod (wrap32 (Int.tdiv x0_2 64)) 64))) % 256), .int .u8 ((wrap32 (128 + (Int.tmod x0_2 64))) % 256)]) (ok := fun _ => True) (okp := fun _ => True) ?hr ?hp (fun _ hk => hk) trivial (Below.refl _ _) (Nat.le_refl _) (by simp) ?_; (case hd => rfl); (case hg => rfl); (case hr => first | (go_simp; done) | (go_simp; rfl)); (case hp => exact (Reps.one (show Kd.M (Kd.int .u8) _ _ _ ((wrap32 (224 + (wrap32 (Int.tdiv x0_2 4096)))) % 256) [.int .u8 ((wrap32 (224 + (wrap32 (Int.tdiv x0_2 4096)))) % 256)] from rfl) (Reps.one (show Kd.M (Kd.int .u8) _ _ _ ((wrap32 (128 + (Int.tmod (wrap32 (Int.tdiv x0_2 64)) 64))) % 256) [.int .u8 ((wrap32 (128 + (Int.tmod (wrap32 (Int.tdiv x0_2 64)) 64))) % 256)] from rfl) (Reps.one (show Kd.M (Kd.int .u8) _ _ _ ((wrap32 (128 + (Int.tmod x0_2 64))) % 256) [.int .u8 ((wrap32 (128 + (Int.tmod x0_2 64))) % 256)] from rfl) (Reps.none _ _))))); intro v180 w13 ho14 hb hg_ hnew_; clear hg_ hnew_; (first | rw [← Ny179.out] at ho14 | (simp only [Int.reduceToNat] at ho14; rw [← Ny179.out] at ho14)); have n0_ := Aside0.mk (Kd.R_lower ho14 (below_size (by repeat (first | (with_reducible first | exact HB.out | apply below_alloc | apply pw_below_drewN | apply below_drew1) | exact HB.out)))); have n1_ := Aside0.mk (below_step (by repeat (first | (with_reducible first | exact HB.out | apply below_alloc | apply pw_below_drewN | apply below_drew1) | exact HB.out)) hb); clear HB; have HO181 := n0_; have HB := n1_; clear n0_ n1_; clear hb ho14))
      go_ret
      exact ⟨_, by first | rfl | (simp [errW_none, errW_some] <;> rfl) | (simp [*, errW_none, errW_some] <;> rfl), by (with_reducible repeat (first | apply Kd.R_alloc | apply Kd.R_drewN | apply Kd.R_drew)); exact HO181.out, by repeat (first | (with_reducible first | exact HB.out | apply below_alloc | apply pw_below_drewN | apply below_drew1) | exact HB.out)⟩
     ·rw [if_neg c12] at H
      have c12b0 : (t172 == 3) = false := beq_eq_false_iff_ne.mpr c12
      have c12b1 : (t172 != 3) = true := bne_iff_ne.mpr c12
      obtain ⟨y182, hy182⟩ : ∃ y_ : List Int, y_ = (([(wrap32 (240 + (wrap32 (Int.tdiv x0_2 262144)))) % 256, (wrap32 (128 + (Int.tmod (wrap32 (Int.tdiv x0_2 4096)) 64))) % 256, (wrap32 (128 + (Int.tmod (wrap32 (Int.tdiv x0_2 64)) 64))) % 256, (wrap32 (128 + (Int.tmod x0_2 64))) % 256] : List Int)) := ⟨_, rfl⟩
      replace H : (some y182) = some r := by first | (rw [hy182]; with_reducible exact H) | (have H2_ := (Option.bind_some _ _).symm.trans H; rw [hy182]; with_reducible exact H2_) | (have H2_ := (Option.bind_some _ _).symm.trans H; with_reducible exact H2_) | with_reducible exact H | (rw [hy182]; exact H) | exact H
      have Ny182 := Aside0.mk hy182
      clear hy182
      obtain rfl := Option.some.inj H
      go_wp2_with (first | ((with_reducible refine gate_callee (f := 73) rfl ?_); refine goesL_ (some 7) rfl rfl Try.func73 (by kernel_rfl) rfl #[.int .i32 x0_2] rfl (by (try simp only [List.map_toArray, List.map_cons, List.map_nil]); first | done | rfl | (simp only [List.length_drop, List.length_take]; rfl) | (simp [*] <;> rfl)) ?_; (with_reducible refine (sieveref01_Width.calls x0_2 t172 _ A5.out).mono ?_); rintro e w' ⟨rfl, ⟨nd, rfl⟩⟩; refine ⟨_, rfl, ?_⟩) | ((with_reducible refine gate_dst (N := 58) rfl ?_); refine Kd.R_lit (Kd.int .u8) _ 5 ?hg (N := 58) ?hd (xs := ([(wrap32 (240 + (wrap32 (Int.tdiv x0_2 262144)))) % 256, (wrap32 (128 + (Int.tmod (wrap32 (Int.tdiv x0_2 4096)) 64))) % 256, (wrap32 (128 + (Int.tmod (wrap32 (Int.tdiv x0_2 64)) 64))) % 256, (wrap32 (128 + (Int.tmod x0_2 64))) % 256] : List Int)) (inner := [.int .u8 ((wrap32 (240 + (wrap32 (Int.tdiv x0_2 262144)))) % 256), .int .u8 ((wrap32 (128 + (Int.tmod (wrap32 (Int.tdiv x0_2 4096)) 64))) % 256), .int .u8 ((wrap32 (128 + (Int.tmod (wrap32 (Int.tdiv x0_2 64)) 64))) % 256), .int .u8 ((wrap32 (128 + (Int.tmod x0_2 64))) % 256)]) (ok := fun _ => True) (okp := fun _ => True) ?hr ?hp (fun _ hk => hk) trivial (Below.refl _ _) (Nat.le_refl _) (by simp) ?_; (case hd => rfl); (case hg => rfl); (case hr => first | (go_simp; done) | (go_simp; rfl)); (case hp => exact (Reps.one (show Kd.M (Kd.int .u8) _ _ _ ((wrap32 (240 + (wrap32 (Int.tdiv x0_2 262144)))) % 256) [.int .u8 ((wrap32 (240 + (wrap32 (Int.tdiv x0_2 262144)))) % 256)] from rfl) (Reps.one (show Kd.M (Kd.int .u8) _ _ _ ((wrap32 (128 + (Int.tmod (wrap32 (Int.tdiv x0_2 4096)) 64))) % 256) [.int .u8 ((wrap32 (128 + (Int.tmod (wrap32 (Int.tdiv x0_2 4096)) 64))) % 256)] from rfl) (Reps.one (show Kd.M (Kd.int .u8) _ _ _ ((wrap32 (128 + (Int.tmod (wrap32 (Int.tdiv x0_2 64)) 64))) % 256) [.int .u8 ((wrap32 (128 + (Int.tmod (wrap32 (Int.tdiv x0_2 64)) 64))) % 256)] from rfl) (Reps.one (show Kd.M (Kd.int .u8) _ _ _ ((wrap32 (128 + (Int.tmod x0_2 64))) % 256) [.int .u8 ((wrap32 (128 + (Int.tmod x0_2 64))) % 256)] from rfl) (Reps.none _ _)))))); intro v183 w15 ho16 hb hg_ hnew_; clear hg_ hnew_; (first | rw [← Ny182.out] at ho16 | (simp only [Int.reduceToNat] at ho16; rw [← Ny182.out] at ho16)); have n0_ := Aside0.mk (Kd.R_lower ho16 (below_size (by repeat (first | (with_reducible first | exact HB.out | apply below_alloc | apply pw_below_drewN | apply below_drew1) | exact HB.out)))); have n1_ := Aside0.mk (below_step (by repeat (first | (with_reducible first | exact HB.out | apply below_alloc | apply pw_below_drewN | apply below_drew1) | exact HB.out)) hb); clear HB; have HO184 := n0_; have HB := n1_; clear n0_ n1_; clear hb ho16))
      go_ret
      exact ⟨_, by first | rfl | (simp [errW_none, errW_some] <;> rfl) | (simp [*, errW_none, errW_some] <;> rfl), by (with_reducible repeat (first | apply Kd.R_alloc | apply Kd.R_drewN | apply Kd.R_drew)); exact HO184.out, by repeat (first | (with_reducible first | exact HB.out | apply below_alloc | apply pw_below_drewN | apply below_drew1) | exact HB.out)⟩

/-! ### sieveref01_Bytes: function 38 -/
def sieveref01_Bytes.l0 : Nat → List Int → List Int → Int → Int → Option (List Int)
 | 0, _, _, _, _ => none
 | k + 1, x3, x6, x7, x8 => if x8 < x7 then (if 0 ≤ x8 then (if x8 < (x6.length : Int) then ((sieveref01_bytesOf.f k (rd x6 x8)).bind fun t186 => (if x3.length + t186.length < 140737488355328 then (sieveref01_Bytes.l0 k (x3 ++ t186) x6 x7 (wrap64 (x8 + 1))) else (none))) else (none)) else (none)) else (some x3)
def sieveref01_Bytes.f (k : Nat) (l0 : List Int) : Option (List Int) := sieveref01_Bytes.l0 k ([] : List Int) l0 (l0.length : Int) 0
set_option maxHeartbeats 8000000 in
set_option maxRecDepth 100000 in
theorem sieveref01_Bytes.calls (k : Nat) (A0 : Option Addr) (c0 : Nat) (l0 : List Int) (r : List Int) (w : World) (hr0 : Kd.C (Kd.int .i32) w A0 l0.length l0) (hc0 : l0.length ≤ c0) (h : sieveref01_Bytes.f k l0 = some r) :
  Calls Try.prog 38 #[.slice A0 l0.length c0] w fun e w' => ∃ v0_ : Value, e = .returned (v0_) ∧ Kd.R (Kd.int .u8) 5 w' w.heap.size (fun _ => True) v0_ r ∧ Below w.heap.size w w' := by
 have HR0 := Aside0.mk hr0
 have HC0 := Aside0.mk hc0
 clear hr0 hc0
 have HB := Aside0.mk (Below.refl w.heap.size w)
 have H : (sieveref01_Bytes.l0 k ([] : List Int) l0 (l0.length : Int) 0) = some r := h
 clear h
 have H' := Aside0.mk H
 clear H
 go_enter Try.func38, Try.ntmps38
 go_wp2
 go_loopg [3, 8] k (fun kq v3 v8 w' => ∃ (x3_1 : List Int) (x8_1 : Int), v8 = .int .i64 x8_1 ∧ Aside0 (sieveref01_Bytes.l0 kq x3_1 l0 (l0.length : Int) x8_1 = some r) ∧ Aside0 (kq ≤ k) ∧ Aside0 (Kd.R (Kd.int .u8) 5 w' w.heap.size (fun _ => True) v3 x3_1) ∧ Aside0 (Below w.heap.size w w'))
 case atStart => exact ⟨(([] : List Int)), (0), (by first | rfl | (simp; done) | (simp [*]; done) | (unfold bt; split <;> first | rfl | (exfalso; simp_all; done) | (exfalso; simp_all; omega))), H', ⟨Nat.le_refl _⟩, ⟨by first | exact Kd.R_nil _ _ _ _ _ | exact Kd.N_nil _ _ _ _ _ | exact Kd.V_nil _ _ _ _ _ | exact Kd.Q_nil _ _ _ _ _ | exact Kd.S_nil _ _ _ _ _⟩, ⟨by repeat (first | (with_reducible first | exact HB.out | apply below_alloc | apply pw_below_drewN | apply below_drew1) | exact HB.out)⟩⟩
 case round =>
  clear H'
  obtain ⟨x3_1, x8_1, rfl, HA, HK1, HO_3, HB⟩ := hrel
  cases gk with
  | zero => exact absurd HA.out (by simp [sieveref01_Bytes.l0])
  | succ k1 =>
   have H := HA.out
   clear HA
   simp only [sieveref01_Bytes.l0] at H
   by_cases c2 : x8_1 < (l0.length : Int)
   ·rw [if_pos c2] at H
    have c2b0 : decide (x8_1 < (l0.length : Int)) = true := decide_eq_true c2
    clear c2
    by_cases c3 : 0 ≤ x8_1
    ·rw [if_pos c3] at H
     have c3b0 : decide (0 ≤ x8_1) = true := decide_eq_true c3
     clear c3
     by_cases c4 : x8_1 < (l0.length : Int)
     ·rw [if_pos c4] at H
      have c4b0 : decide (x8_1 < (l0.length : Int)) = true := decide_eq_true c4
      clear c4
      replace H := Option.bind_eq_some_iff.mp H
      obtain ⟨t186, A50, H⟩ := H
      replace H : (if x3_1.length + t186.length < 140737488355328 then (sieveref01_Bytes.l0 k1 (x3_1 ++ t186) l0 (l0.length : Int) (wrap64 (x8_1 + 1))) else (none)) = some r := H
      have A5 := Aside0.mk A50
      clear A50
      by_cases c6 : x3_1.length + t186.length < 140737488355328
      ·rw [if_pos c6] at H
       have LMc6 := Aside0.mk c6
       clear c6
       obtain ⟨y189, hy189⟩ : ∃ y_ : List Int, y_ = (x3_1 ++ t186) := ⟨_, rfl⟩
       replace H : (sieveref01_Bytes.l0 k1 y189 l0 (l0.length : Int) (wrap64 (x8_1 + 1))) = some r := by first | (rw [hy189]; with_reducible exact H) | (have H2_ := (Option.bind_some _ _).symm.trans H; rw [hy189]; with_reducible exact H2_) | (have H2_ := (Option.bind_some _ _).symm.trans H; with_reducible exact H2_) | with_reducible exact H | (rw [hy189]; exact H) | exact H
       have Ny189 := Aside0.mk hy189
       clear hy189
       have H' := Aside0.mk H
       clear H
       have p185 : 0 ≤ (x8_1 : Int) := of_decide_eq_true (by first | (with_reducible assumption) | assumption)
       have q185 : x8_1 < (l0.length : Int) := of_decide_eq_true (by first | (with_reducible assumption) | assumption)
       obtain ⟨ad185, e185, hx185_0⟩ := Kd.at_int HR0.out x8_1 p185 q185
       cases e185
       replace hx185_0 := (HB.out.cell (World.block_lt_of_cell? w _ hx185_0)).trans hx185_0
       replace p185 := eq_true p185
       replace q185 := eq_true q185
       go_wp2_with (first | ((with_reducible refine gate_callee (f := 57) rfl ?_); refine goesL_ (some 14) rfl rfl Try.func57 (by kernel_rfl) rfl #[.int .i32 (rd l0 x8_1)] rfl (by (try simp only [List.map_toArray, List.map_cons, List.map_nil]); first | done | rfl | (simp only [List.length_drop, List.length_take]; rfl) | (simp [*] <;> rfl)) ?_; (with_reducible refine (sieveref01_bytesOf.calls k1 (rd l0 x8_1) t186 _ A5.out).mono ?_); rintro e w7 ⟨v187, rfl, ho0, hb⟩; refine ⟨_, rfl, ?_⟩; have n0_ := Aside0.mk (Kd.R_elder' (by (with_reducible repeat (first | apply Kd.R_alloc | apply Kd.R_drewN | apply Kd.R_drew)); exact HO_3.out) (Kd.R_base ho0) hb); have n1_ := Aside0.mk (Kd.R_lower (Kd.R_new' ho0 (Kd.R_lt (by (with_reducible repeat (first | apply Kd.R_alloc | apply Kd.R_drewN | apply Kd.R_drew)); exact HO_3.out))) (below_size (by repeat (first | (with_reducible first | exact HB.out | apply below_alloc | apply pw_below_drewN | apply below_drew1) | exact HB.out)))); have n2_ := Aside0.mk (below_step (by repeat (first | (with_reducible first | exact HB.out | apply below_alloc | apply pw_below_drewN | apply below_drew1) | exact HB.out)) hb); clear HO_3; clear HB; have HO_3 := n0_; have HO188 := n1_; have HB := n2_; clear n0_ n1_ n2_; (try clear hb); (try clear hb2); (try clear hk); (try clear hi); (try clear ho0); obtain ⟨Ao9, co9, eo9⟩ := Kd.R_slice HO188.out; subst eo9) | ((with_reducible refine gate_builtin (b := .append) (xs := #[.tmp 12, .tmp 14]) rfl ?_); at_builtin; refine Kd.R_append_rows (Kd.int .u8) (w0 := w) w.heap.size rfl (.tmp 12) (.tmp 14) 34 5 (.int .u8 0) 1 rfl Try.underlying34 info5 rfl (by decide) (by omega) u3 x3_1 t186 _ _ _ (fun k_ => some k_ ≠ (.slice Ao9 t186.length co9 : Value).ownBlock) (fun _ => False) rfl rfl ?aO ?aR (fun _ _ h => h) (fun _ h => h.elim) ?aF ?aB ?aS ?aL ?_; (case aR => repeat (first | exact (Kd.R_reads' HO188.out).2.2 | (with_reducible refine Kd.C_alloc ?_ _) | (with_reducible refine Kd.C_drewN ?_ _) | (with_reducible refine Kd.C_drew ?_))); (case aB => exact (by repeat (first | (with_reducible first | exact HB.out | apply below_alloc | apply pw_below_drewN | apply below_drew1) | exact HB.out))); (case aF => exact (fun k_ hk => Kd.fresh' (Kd.R_lt (by (with_reducible repeat (first | apply Kd.R_alloc | apply Kd.R_drewN | apply Kd.R_drew)); exact HO188.out)) k_ hk)); (case aO => exact (by (with_reducible repeat (first | apply Kd.R_alloc | apply Kd.R_drewN | apply Kd.R_drew)); exact Kd.R_mono HO_3.out (fun _ hk => hk.2))); (case aS => exact (below_size (by repeat (first | (with_reducible first | exact HB.out | apply below_alloc | apply pw_below_drewN | apply below_drew1) | exact HB.out)))); (case aL => have := LMc6.out; omega); intro v190 w8 ho hb hg hat; rw [← Ny189.out] at ho; have n0_ := Aside0.mk (Kd.R_after (ok := (fun _ => True)) (by (with_reducible repeat (first | apply Kd.R_alloc | apply Kd.R_drewN | apply Kd.R_drew)); exact HO188.out) hg hat); have n1_ := Aside0.mk (hb); have n2_ := Aside0.mk (ho); clear HO188; clear HB; clear HO_3; have HO188 := n0_; have HB := n1_; have HO191 := n2_; clear n0_ n1_ n2_; clear ho hb hg hat))
       go_roundg k1
       case measure => have := HK1.out; omega
       case rel => exact ⟨(y189), (wrap64 (x8_1 + 1)), (by first | rfl | (simp; done) | (simp [*]; done) | (unfold bt; split <;> first | rfl | (exfalso; simp_all; done) | (exfalso; simp_all; omega))), H', ⟨by have := HK1.out; omega⟩, ⟨by (with_reducible repeat (first | apply Kd.R_alloc | apply Kd.R_drewN | apply Kd.R_drew)); exact Kd.R_mono HO191.out (fun _ hk => trivial)⟩, ⟨by repeat (first | (with_reducible first | exact HB.out | apply below_alloc | apply pw_below_drewN | apply below_drew1) | exact HB.out)⟩⟩
      ·rw [if_neg c6] at H
       exact absurd H (by simp)
     ·rw [if_neg c4] at H
      exact absurd H (by simp)
    ·rw [if_neg c3] at H
     exact absurd H (by simp)
   ·rw [if_neg c2] at H
    have c2b0 : decide (x8_1 < (l0.length : Int)) = false := decide_eq_false c2
    clear c2
    obtain rfl := Option.some.inj H
    go_wp2
    go_ret
    exact ⟨_, by first | rfl | (simp [errW_none, errW_some] <;> rfl) | (simp [*, errW_none, errW_some] <;> rfl), by (with_reducible repeat (first | apply Kd.R_alloc | apply Kd.R_drewN | apply Kd.R_drew)); exact HO_3.out, by repeat (first | (with_reducible first | exact HB.out | apply below_alloc | apply pw_below_drewN | apply below_drew1) | exact HB.out)⟩

/-! ### sieveref01_Text: function 12 -/
def sieveref01_Text.f (k : Nat) (l0 : List Int) : Option (ByteArray) := (sieveref01_Bytes.f k l0).bind fun t192 => (some (strOfNums t192))
set_option maxHeartbeats 8000000 in
set_option maxRecDepth 100000 in
theorem sieveref01_Text.calls (k : Nat) (A0 : Option Addr) (c0 : Nat) (l0 : List Int) (r : ByteArray) (w : World) (hr0 : Kd.C (Kd.int .i32) w A0 l0.length l0) (hc0 : l0.length ≤ c0) (h : sieveref01_Text.f k l0 = some r) :
  Calls Try.prog 12 #[.slice A0 l0.length c0] w fun e w' => e = .returned (.string r) ∧ Below w.heap.size w w' := by
 have HR0 := Aside0.mk hr0
 have HC0 := Aside0.mk hc0
 clear hr0 hc0
 have HB := Aside0.mk (Below.refl w.heap.size w)
 have H : ((sieveref01_Bytes.f k l0).bind fun t192 => (some (strOfNums t192))) = some r := h
 clear h
 replace H := Option.bind_eq_some_iff.mp H
 obtain ⟨t192, A20, H⟩ := H
 replace H : (some (strOfNums t192)) = some r := H
 have A2 := Aside0.mk A20
 clear A20
 obtain rfl := Option.some.inj H
 go_enter Try.func12, Try.ntmps12
 go_wp2_with (first | ((with_reducible refine gate_callee (f := 38) rfl ?_); refine goesL_ (some 4) rfl rfl Try.func38 (by kernel_rfl) rfl #[.slice A0 l0.length c0] rfl (by (try simp only [List.map_toArray, List.map_cons, List.map_nil]); first | done | rfl | (simp only [List.length_drop, List.length_take]; rfl) | (simp [*] <;> rfl)) ?_; (with_reducible refine (sieveref01_Bytes.calls k _ _ l0 t192 _ ?side1 ?side2 A2.out).mono ?_); (case side1 => repeat (first | exact HR0.out | (with_reducible refine Kd.C_alloc ?_ _) | (with_reducible refine Kd.C_drewN ?_ _) | (with_reducible refine Kd.C_drew ?_))); (case side2 => exact HC0.out); rintro e w3 ⟨v193, rfl, ho0, hb⟩; refine ⟨_, rfl, ?_⟩; have n0_ := Aside0.mk (Kd.R_lower ho0 (below_size (by repeat (first | (with_reducible first | exact HB.out | apply below_alloc | apply pw_below_drewN | apply below_drew1) | exact HB.out)))); have n1_ := Aside0.mk (below_step (by repeat (first | (with_reducible first | exact HB.out | apply below_alloc | apply pw_below_drewN | apply below_drew1) | exact HB.out)) hb); clear HB; have HO194 := n0_; have HB := n1_; clear n0_ n1_; (try clear hb); (try clear hb2); (try clear hk); (try clear hi); (try clear ho0); have hcv4 := own_string (P := Try.prog) Try.underlying34 Try.underlying5 Try.underlying9 (Kd.own_of_R HO194.out)))
 go_ret
 exact ⟨by first | rfl | (simp [errW_none, errW_some] <;> rfl) | (simp [*, errW_none, errW_some] <;> rfl), by repeat (first | (with_reducible first | exact HB.out | apply below_alloc | apply pw_below_drewN | apply below_drew1) | exact HB.out)⟩

/-! ### sieveref03_Plain: function 43 -/
mutual
def sieveref03_Plain.j0 : Nat → Int → Bool → Option (Int)
 | 0, _, _ => none
 | k + 1, x0, x6 => if x6 = true then (some 65533) else (if x0 ≥ 127 then (sieveref03_Plain.j1 k x0 (decide (x0 ≤ 159))) else (sieveref03_Plain.j1 k x0 false))
def sieveref03_Plain.j1 : Nat → Int → Bool → Option (Int)
 | 0, _, _ => none
 | k + 1, x0, x6 => if x6 = true then (some 65533) else (if x0 ≥ 64976 then (sieveref03_Plain.j2 k x0 (decide (x0 ≤ 65007))) else (sieveref03_Plain.j2 k x0 false))
def sieveref03_Plain.j2 : Nat → Int → Bool → Option (Int)
 | 0, _, _ => none
 | k + 1, x0, x6 => if x6 = true then (some 65533) else (if (Int.tmod x0 65536) ≥ 65534 then (some 65533) else (some x0))
end
def sieveref03_Plain.f (k : Nat) (a0 : Int) : Option (Int) := if a0 = 13 then (some 10) else ((sieveref01_Char.f a0).bind fun t195 => (if t195 = true then (if a0 ≤ 8 then (some 65533) else (if a0 = 11 then (some 65533) else (if a0 ≥ 14 then (sieveref03_Plain.j0 k a0 (decide (a0 ≤ 31))) else (sieveref03_Plain.j0 k a0 false)))) else (some 65533)))
set_option maxHeartbeats 8000000 in
set_option maxRecDepth 100000 in
theorem sieveref03_Plain.calls (k : Nat) (a0 : Int) (r : Int) (w : World) (h : sieveref03_Plain.f k a0 = some r) :
  Calls Try.prog 43 #[.int .i32 a0] w fun e w' => e = .returned (.int .i32 r) ∧ Drawn0 w w' := by
 have H : (if a0 = 13 then (some 10) else ((sieveref01_Char.f a0).bind fun t195 => (if t195 = true then (if a0 ≤ 8 then (some 65533) else (if a0 = 11 then (some 65533) else (if a0 ≥ 14 then (sieveref03_Plain.j0 k a0 (decide (a0 ≤ 31))) else (sieveref03_Plain.j0 k a0 false)))) else (some 65533)))) = some r := h
 clear h
 by_cases c2 : a0 = 13
 ·rw [if_pos c2] at H
  have c2b0 : (a0 == 13) = true := beq_iff_eq.mpr c2
  have c2b1 : (a0 != 13) = false := bne_eq_false_iff_eq.mpr c2
  clear c2
  obtain rfl := Option.some.inj H
  go_enter Try.func43, Try.ntmps43
  go_wp2
  go_ret
  exact ⟨by first | rfl | (simp; done) | (simp [*]; done), by repeat (first | exact Drawn0.refl _ | apply Drawn0.step)⟩
 ·rw [if_neg c2] at H
  have c2b0 : (a0 == 13) = false := beq_eq_false_iff_ne.mpr c2
  have c2b1 : (a0 != 13) = true := bne_iff_ne.mpr c2
  replace H := Option.bind_eq_some_iff.mp H
  obtain ⟨t195, A30, H⟩ := H
  replace H : (if t195 = true then (if a0 ≤ 8 then (some 65533) else (if a0 = 11 then (some 65533) else (if a0 ≥ 14 then (sieveref03_Plain.j0 k a0 (decide (a0 ≤ 31))) else (sieveref03_Plain.j0 k a0 false)))) else (some 65533)) = some r := H
  have A3 := Aside0.mk A30
  clear A30
  by_cases c4 : t195 = true
  ·subst c4
   have H1 : (if a0 ≤ 8 then (some 65533) else (if a0 = 11 then (some 65533) else (if a0 ≥ 14 then (sieveref03_Plain.j0 k a0 (decide (a0 ≤ 31))) else (sieveref03_Plain.j0 k a0 false)))) = some r := by rw [if_pos rfl] at H; exact H
   clear H
   have H := H1
   clear H1
   by_cases c5 : a0 ≤ 8
   ·rw [if_pos c5] at H
    have c5b0 : decide (a0 ≤ 8) = true := decide_eq_true c5
    clear c5
    obtain rfl := Option.some.inj H
    go_enter Try.func43, Try.ntmps43
    go_wp2_with (first | ((with_reducible refine gate_callee (f := 60) rfl ?_); refine goesL_ (some 8) rfl rfl Try.func60 (by kernel_rfl) rfl #[.int .i32 a0] rfl (by (try simp only [List.map_toArray, List.map_cons, List.map_nil]); first | done | rfl | (simp only [List.length_drop, List.length_take]; rfl) | (simp [*] <;> rfl)) ?_; (with_reducible refine (sieveref01_Char.calls a0 true _ A3.out).mono ?_); rintro e w' ⟨rfl, ⟨nd, rfl⟩⟩; refine ⟨_, rfl, ?_⟩))
    go_ret
    exact ⟨by first | rfl | (simp; done) | (simp [*]; done), by repeat (first | exact Drawn0.refl _ | apply Drawn0.step)⟩
   ·rw [if_neg c5] at H
    have c5b0 : decide (a0 ≤ 8) = false := decide_eq_false c5
    clear c5
    by_cases c6 : a0 = 11
    ·rw [if_pos c6] at H
     have c6b0 : (a0 == 11) = true := beq_iff_eq.mpr c6
     have c6b1 : (a0 != 11) = false := bne_eq_false_iff_eq.mpr c6
     clear c6
     obtain rfl := Option.some.inj H
     go_enter Try.func43, Try.ntmps43
     go_wp2_with (first | ((with_reducible refine gate_callee (f := 60) rfl ?_); refine goesL_ (some 8) rfl rfl Try.func60 (by kernel_rfl) rfl #[.int .i32 a0] rfl (by (try simp only [List.map_toArray, List.map_cons, List.map_nil]); first | done | rfl | (simp only [List.length_drop, List.length_take]; rfl) | (simp [*] <;> rfl)) ?_; (with_reducible refine (sieveref01_Char.calls a0 true _ A3.out).mono ?_); rintro e w' ⟨rfl, ⟨nd, rfl⟩⟩; refine ⟨_, rfl, ?_⟩))
     go_ret
     exact ⟨by first | rfl | (simp; done) | (simp [*]; done), by repeat (first | exact Drawn0.refl _ | apply Drawn0.step)⟩
    ·rw [if_neg c6] at H
     have c6b0 : (a0 == 11) = false := beq_eq_false_iff_ne.mpr c6
     have c6b1 : (a0 != 11) = true := bne_iff_ne.mpr c6
     have HC7 := Aside0.mk H
     clear H
     go_enter Try.func43, Try.ntmps43
     go_upto_region 6 with (first | ((with_reducible refine gate_callee (f := 60) rfl ?_); refine goesL_ (some 8) rfl rfl Try.func60 (by kernel_rfl) rfl #[.int .i32 a0] rfl (by (try simp only [List.map_toArray, List.map_cons, List.map_nil]); first | done | rfl | (simp only [List.length_drop, List.length_take]; rfl) | (simp [*] <;> rfl)) ?_; (with_reducible refine (sieveref01_Char.calls a0 true _ A3.out).mono ?_); rintro e w' ⟨rfl, ⟨nd, rfl⟩⟩; refine ⟨_, rfl, ?_⟩))
     (try simp only [Act.put, List.setIfInBounds_toArray, List.set_cons_zero, List.set_cons_succ])
     go_cut [6] (fun v6 wc => ∃ (kq : Nat) (x6_6 : Bool), v6 = .bool x6_6 ∧ Aside0 (sieveref03_Plain.j0 kq a0 x6_6 = some r) ∧ Aside0 (kq ≤ k) ∧ Drawn0 w wc)
     case first =>
      have H := HC7.out
      clear HC7
      by_cases c8 : a0 ≥ 14
      ·rw [if_pos c8] at H
       have c8b0 : decide (14 ≤ a0) = true := decide_eq_true c8
       clear c8
       (first | rw [c8b0] | (simp only [i64_w, i32_w]; rw [c8b0]) | skip)
       have H' := Aside0.mk H
       clear H
       go_wp2
       go_meet
       case rel => exact ⟨_, (decide (a0 ≤ 31)), (by first | rfl | (simp; done) | (simp [*]; done) | (unfold bt; split <;> first | rfl | (exfalso; simp_all; done) | (exfalso; simp_all; omega))), H', ⟨by first | omega | exact Nat.le_refl _⟩, by repeat (first | exact Drawn0.refl _ | apply Drawn0.step)⟩
      ·rw [if_neg c8] at H
       have c8b0 : decide (14 ≤ a0) = false := decide_eq_false c8
       clear c8
       (first | rw [c8b0] | (simp only [i64_w, i32_w]; rw [c8b0]) | skip)
       have H' := Aside0.mk H
       clear H
       go_wp2
       go_meet
       case rel => exact ⟨_, (false), (by first | rfl | (simp; done) | (simp [*]; done) | (unfold bt; split <;> first | rfl | (exfalso; simp_all; done) | (exfalso; simp_all; omega))), H', ⟨by first | omega | exact Nat.le_refl _⟩, by repeat (first | exact Drawn0.refl _ | apply Drawn0.step)⟩
     case rest =>
      clear HC7
      try clear c2
      try clear c2b0
      try clear c2b1
      try clear p2
      try clear c4
      try clear c5
      try clear c5b0
      try clear c6
      try clear c6b0
      try clear c6b1
      try clear c8
      try clear c8b0
      obtain ⟨kq, x6_6, rfl, HA, HJ6, ⟨mc6, rfl⟩⟩ := hcut
      cases kq with
      | zero => exact absurd HA.out (by simp [sieveref03_Plain.j0])
      | succ kj6 =>
       have H := HA.out
       clear HA
       simp only [sieveref03_Plain.j0] at H
       by_cases c9 : x6_6 = true
       ·subst c9
        have H1 : (some 65533) = some r := by rw [if_pos rfl] at H; exact H
        clear H
        have H := H1
        clear H1
        obtain rfl := Option.some.inj H
        go_wp2
        go_ret
        exact ⟨by first | rfl | (simp; done) | (simp [*]; done), by repeat (first | exact Drawn0.refl _ | apply Drawn0.step)⟩
       ·replace c9 := Bool.eq_false_iff.mpr c9
        subst c9
        have H1 : (if a0 ≥ 127 then (sieveref03_Plain.j1 kj6 a0 (decide (a0 ≤ 159))) else (sieveref03_Plain.j1 kj6 a0 false)) = some r := by rw [if_neg (show ¬ (false = true) by decide)] at H; exact H
        clear H
        have H := H1
        clear H1
        have HC10 := Aside0.mk H
        clear H
        go_upto_region 7 with (fail)
        go_cut [6] (fun v6 wc => ∃ (kq : Nat) (x6_9 : Bool), v6 = .bool x6_9 ∧ Aside0 (sieveref03_Plain.j1 kq a0 x6_9 = some r) ∧ Aside0 (kq ≤ kj6) ∧ Drawn0 w wc)
        case first =>
         have H := HC10.out
         clear HC10
         by_cases c11 : a0 ≥ 127
         ·rw [if_pos c11] at H
          have c11b0 : decide (127 ≤ a0) = true := decide_eq_true c11
          clear c11
          (first | rw [c11b0] | (simp only [i64_w, i32_w]; rw [c11b0]) | skip)
          have H' := Aside0.mk H
          clear H
          go_wp2
          go_meet
          case rel => exact ⟨_, (decide (a0 ≤ 159)), (by first | rfl | (simp; done) | (simp [*]; done) | (unfold bt; split <;> first | rfl | (exfalso; simp_all; done) | (exfalso; simp_all; omega))), H', ⟨by have := HJ6.out; first | omega | exact Nat.le_refl _⟩, by repeat (first | exact Drawn0.refl _ | apply Drawn0.step)⟩
         ·rw [if_neg c11] at H
          have c11b0 : decide (127 ≤ a0) = false := decide_eq_false c11
          clear c11
          (first | rw [c11b0] | (simp only [i64_w, i32_w]; rw [c11b0]) | skip)
          have H' := Aside0.mk H
          clear H
          go_wp2
          go_meet
          case rel => exact ⟨_, (false), (by first | rfl | (simp; done) | (simp [*]; done) | (unfold bt; split <;> first | rfl | (exfalso; simp_all; done) | (exfalso; simp_all; omega))), H', ⟨by have := HJ6.out; first | omega | exact Nat.le_refl _⟩, by repeat (first | exact Drawn0.refl _ | apply Drawn0.step)⟩
        case rest =>
         clear HC10
         try clear c1
         try clear c2
         try clear c2b0
         try clear c2b1
         try clear p2
         try clear c4
         try clear c5
         try clear c5b0
         try clear c6
         try clear c6b0
         try clear c6b1
         try clear c8
         try clear c8b0
         try clear c9
         try clear c11
         try clear c11b0
         try clear p2
         obtain ⟨kq, x6_9, rfl, HA, HJ9, ⟨mc9, rfl⟩⟩ := hcut
         cases kq with
         | zero => exact absurd HA.out (by simp [sieveref03_Plain.j1])
         | succ kj9 =>
          have H := HA.out
          clear HA
          simp only [sieveref03_Plain.j1] at H
          by_cases c12 : x6_9 = true
          ·subst c12
           have H1 : (some 65533) = some r := by rw [if_pos rfl] at H; exact H
           clear H
           have H := H1
           clear H1
           obtain rfl := Option.some.inj H
           go_wp2
           go_ret
           exact ⟨by first | rfl | (simp; done) | (simp [*]; done), by repeat (first | exact Drawn0.refl _ | apply Drawn0.step)⟩
          ·replace c12 := Bool.eq_false_iff.mpr c12
           subst c12
           have H1 : (if a0 ≥ 64976 then (sieveref03_Plain.j2 kj9 a0 (decide (a0 ≤ 65007))) else (sieveref03_Plain.j2 kj9 a0 false)) = some r := by rw [if_neg (show ¬ (false = true) by decide)] at H; exact H
           clear H
           have H := H1
           clear H1
           have HC13 := Aside0.mk H
           clear H
           go_upto_region 8 with (fail)
           go_cut [6] (fun v6 wc => ∃ (kq : Nat) (x6_12 : Bool), v6 = .bool x6_12 ∧ Aside0 (sieveref03_Plain.j2 kq a0 x6_12 = some r) ∧ Aside0 (kq ≤ kj9) ∧ Drawn0 w wc)
           case first =>
            have H := HC13.out
            clear HC13
            by_cases c14 : a0 ≥ 64976
            ·rw [if_pos c14] at H
             have c14b0 : decide (64976 ≤ a0) = true := decide_eq_true c14
             clear c14
             (first | rw [c14b0] | (simp only [i64_w, i32_w]; rw [c14b0]) | skip)
             have H' := Aside0.mk H
             clear H
             go_wp2
             go_meet
             case rel => exact ⟨_, (decide (a0 ≤ 65007)), (by first | rfl | (simp; done) | (simp [*]; done) | (unfold bt; split <;> first | rfl | (exfalso; simp_all; done) | (exfalso; simp_all; omega))), H', ⟨by have := HJ6.out; have := HJ9.out; first | omega | exact Nat.le_refl _⟩, by repeat (first | exact Drawn0.refl _ | apply Drawn0.step)⟩
            ·rw [if_neg c14] at H
             have c14b0 : decide (64976 ≤ a0) = false := decide_eq_false c14
             clear c14
             (first | rw [c14b0] | (simp only [i64_w, i32_w]; rw [c14b0]) | skip)
             have H' := Aside0.mk H
             clear H
             go_wp2
             go_meet
             case rel => exact ⟨_, (false), (by first | rfl | (simp; done) | (simp [*]; done) | (unfold bt; split <;> first | rfl | (exfalso; simp_all; done) | (exfalso; simp_all; omega))), H', ⟨by have := HJ6.out; have := HJ9.out; first | omega | exact Nat.le_refl _⟩, by repeat (first | exact Drawn0.refl _ | apply Drawn0.step)⟩
           case rest =>
            clear HC13
            try clear c1
            try clear c2
            try clear c2b0
            try clear c2b1
            try clear p2
            try clear c4
            try clear c5
            try clear c5b0
            try clear c6
            try clear c6b0
            try clear c6b1
            try clear c8
            try clear c8b0
            try clear c9
            try clear c11
            try clear c11b0
            try clear c12
            try clear c14
            try clear c14b0
            try clear p2
            obtain ⟨kq, x6_12, rfl, HA, HJ12, ⟨mc12, rfl⟩⟩ := hcut
            cases kq with
            | zero => exact absurd HA.out (by simp [sieveref03_Plain.j2])
            | succ kj12 =>
             have H := HA.out
             clear HA
             simp only [sieveref03_Plain.j2] at H
             by_cases c15 : x6_12 = true
             ·subst c15
              have H1 : (some 65533) = some r := by rw [if_pos rfl] at H; exact H
              clear H
              have H := H1
              clear H1
              obtain rfl := Option.some.inj H
              go_wp2
              go_ret
              exact ⟨by first | rfl | (simp; done) | (simp [*]; done), by repeat (first | exact Drawn0.refl _ | apply Drawn0.step)⟩
             ·replace c15 := Bool.eq_false_iff.mpr c15
              subst c15
              have H1 : (if (Int.tmod a0 65536) ≥ 65534 then (some 65533) else (some a0)) = some r := by rw [if_neg (show ¬ (false = true) by decide)] at H; exact H
              clear H
              have H := H1
              clear H1
              by_cases c16 : (Int.tmod a0 65536) ≥ 65534
              ·rw [if_pos c16] at H
               have c16b0 : decide (65534 ≤ (Int.tmod a0 65536)) = true := decide_eq_true c16
               clear c16
               obtain rfl := Option.some.inj H
               go_wp2
               go_ret
               exact ⟨by first | rfl | (simp; done) | (simp [*]; done), by repeat (first | exact Drawn0.refl _ | apply Drawn0.step)⟩
              ·rw [if_neg c16] at H
               have c16b0 : decide (65534 ≤ (Int.tmod a0 65536)) = false := decide_eq_false c16
               clear c16
               obtain rfl := Option.some.inj H
               go_wp2
               go_ret
               exact ⟨by first | rfl | (simp; done) | (simp [*]; done), by repeat (first | exact Drawn0.refl _ | apply Drawn0.step)⟩
  ·replace c4 := Bool.eq_false_iff.mpr c4
   subst c4
   have H1 : (some 65533) = some r := by rw [if_neg (show ¬ (false = true) by decide)] at H; exact H
   clear H
   have H := H1
   clear H1
   obtain rfl := Option.some.inj H
   go_enter Try.func43, Try.ntmps43
   go_wp2_with (first | ((with_reducible refine gate_callee (f := 60) rfl ?_); refine goesL_ (some 8) rfl rfl Try.func60 (by kernel_rfl) rfl #[.int .i32 a0] rfl (by (try simp only [List.map_toArray, List.map_cons, List.map_nil]); first | done | rfl | (simp only [List.length_drop, List.length_take]; rfl) | (simp [*] <;> rfl)) ?_; (with_reducible refine (sieveref01_Char.calls a0 false _ A3.out).mono ?_); rintro e w' ⟨rfl, ⟨nd, rfl⟩⟩; refine ⟨_, rfl, ?_⟩))
   go_ret
   exact ⟨by first | rfl | (simp; done) | (simp [*]; done), by repeat (first | exact Drawn0.refl _ | apply Drawn0.step)⟩

end Go.Proofs.Ythmbbkbmlnaghaa.P
end
section
/-
  UTF-8 in plain Lean: the runes of bytes, the bytes of runes, there and back.
-/
set_option linter.unusedVariables false
namespace Go.Proofs.Ythmbbkbmlnaghaa.P
open Go.Lib

/-- the rune at the head, its width, and 0: whole, 1: wrong, 2: begun -/
def rdN (n b0 b1 b2 b3 : Nat) : Nat × Nat × Nat :=
  if b0 < 128 then (b0, 1, 0)
  else if b0 < 194 then (65533, 1, 1)
  else if b0 < 224 then
    (if n ≤ 1 then (65533, 1, 2) else if b1 < 128 ∨ 191 < b1 then (65533, 1, 1) else (b0 % 32 * 64 + b1 % 64, 2, 0))
  else if b0 < 240 then
    (if n ≤ 1 then (65533, 1, 2) else if b1 < 128 ∨ 191 < b1 ∨ (b0 = 224 ∧ b1 < 160) ∨ (b0 = 237 ∧ 159 < b1) then (65533, 1, 1)
     else if n ≤ 2 then (65533, 2, 2) else if b2 < 128 ∨ 191 < b2 then (65533, 2, 1)
     else (b0 % 16 * 4096 + b1 % 64 * 64 + b2 % 64, 3, 0))
  else if b0 < 245 then
    (if n ≤ 1 then (65533, 1, 2) else if b1 < 128 ∨ 191 < b1 ∨ (b0 = 240 ∧ b1 < 144) ∨ (b0 = 244 ∧ 143 < b1) then (65533, 1, 1)
     else if n ≤ 2 then (65533, 2, 2) else if b2 < 128 ∨ 191 < b2 then (65533, 2, 1)
     else if n ≤ 3 then (65533, 3, 2) else if b3 < 128 ∨ 191 < b3 then (65533, 3, 1)
     else (b0 % 8 * 262144 + b1 % 64 * 4096 + b2 % 64 * 64 + b3 % 64, 4, 0))
  else (65533, 1, 1)

def goodR (r : Int) : Prop := (0 ≤ r ∧ r < 55296) ∨ (57344 ≤ r ∧ r ≤ 1114111)
instance (r : Int) : Decidable (goodR r) := by unfold goodR; infer_instance

theorem ite_ok {α : Type} {P : α → Prop} {c : Prop} [Decidable c] {a b : α} (hp : c → P a) (hn : ¬ c → P b) : P (if c then a else b) := by
  split
  · exact hp ‹_›
  · exact hn ‹_›

def FactsN (n : Nat) (r : Nat × Nat × Nat) : Prop :=
  1 ≤ r.2.1 ∧ r.2.1 ≤ n ∧ r.2.1 ≤ 4 ∧ r.2.2 ≤ 2 ∧ (r.1 < 55296 ∨ (57344 ≤ r.1 ∧ r.1 ≤ 1114111)) ∧ (r.2.2 ≠ 0 → r.1 = 65533)

theorem rdN_facts (n b0 b1 b2 b3 : Nat) (hn : 1 ≤ n) (h0 : b0 < 256) (h1 : b1 < 256) (h2 : b2 < 256) (h3 : b3 < 256) : FactsN n (rdN n b0 b1 b2 b3) := by
  unfold rdN
  repeat' (refine ite_ok (fun _ => ?_) (fun _ => ?_))
  all_goals (refine ⟨?_, ?_, ?_, ?_, ?_, fun _ => ?_⟩ <;> simp only at * <;> omega)

def DecN (n b0 b1 b2 b3 : Nat) (r : Nat × Nat × Nat) : Prop := decodeN n b0 b1 b2 b3 = if r.2.2 = 0 then (r.1, r.2.1) else (65533, 1)
set_option maxHeartbeats 2000000 in
set_option maxRecDepth 100000 in
/-- against the model's own decode -/
theorem rdN_decode (n b0 b1 b2 b3 : Nat) (hn : 1 ≤ n) (h0 : b0 < 256) (h1 : b1 < 256) (h2 : b2 < 256) (h3 : b3 < 256) : DecN n b0 b1 b2 b3 (rdN n b0 b1 b2 b3) := by
  unfold rdN
  repeat' (with_reducible refine ite_ok (P := DecN n b0 b1 b2 b3) (fun _ => ?_) (fun _ => ?_))
  all_goals (unfold DecN decodeN; simp only [Nat.succ_ne_zero, if_true, if_false])
  all_goals (repeat' split)
  all_goals first | rfl | (exfalso; omega) | omega

/-! ### lists of bytes -/
def rdL (l : List UInt8) : Nat × Nat × Nat := rdN l.length (l.getD 0 0).toNat (l.getD 1 0).toNat (l.getD 2 0).toNat (l.getD 3 0).toNat

theorem rdL_facts (l : List UInt8) (h : l ≠ []) : FactsN l.length (rdL l) :=
  rdN_facts _ _ _ _ _ (List.length_pos_iff.2 h) (UInt8.toNat_lt _) (UInt8.toNat_lt _) (UInt8.toNat_lt _) (UInt8.toNat_lt _)

theorem rdL_decode (l : List UInt8) (h : l ≠ []) : decodeL l = if (rdL l).2.2 = 0 then ((rdL l).1, (rdL l).2.1) else (65533, 1) := by
  rw [decodeL_N]
  exact rdN_decode _ _ _ _ _ (List.length_pos_iff.2 h) (UInt8.toNat_lt _) (UInt8.toNat_lt _) (UInt8.toNat_lt _) (UInt8.toNat_lt _)

/-- the runes of bytes -/
def runesGo : Nat → List UInt8 → List Int
  | 0, _ => []
  | n + 1, l => if l = [] then [] else ((rdL l).1 : Int) :: runesGo n (l.drop (rdL l).2.1)
def runes (l : List UInt8) : List Int := runesGo l.length l

theorem runesGo_nil (n : Nat) : runesGo n [] = [] := by cases n <;> simp [runesGo]
theorem runesGo_fuel : ∀ (n m : Nat) (l : List UInt8), l.length ≤ n → l.length ≤ m → runesGo n l = runesGo m l
  | 0, m, l, hn, _ => by
    obtain rfl : l = [] := List.eq_nil_of_length_eq_zero (by omega)
    rw [runesGo_nil, runesGo_nil]
  | n + 1, 0, l, _, hm => by
    obtain rfl : l = [] := List.eq_nil_of_length_eq_zero (by omega)
    rw [runesGo_nil, runesGo_nil]
  | n + 1, m + 1, l, hn, hm => by
    unfold runesGo
    by_cases hne : l = []
    · simp [hne]
    · have hw := (rdL_facts l hne).1
      have hl : 0 < l.length := List.length_pos_iff.2 hne
      rw [if_neg hne, if_neg hne, runesGo_fuel n m (l.drop (rdL l).2.1) (by rw [List.length_drop]; omega) (by rw [List.length_drop]; omega)]
theorem runes_nil : runes [] = [] := rfl
theorem runes_step (l : List UInt8) (hne : l ≠ []) : runes l = ((rdL l).1 : Int) :: runes (l.drop (rdL l).2.1) := by
  have hl : 0 < l.length := List.length_pos_iff.2 hne
  have hw := (rdL_facts l hne).1
  obtain ⟨n, hn⟩ : ∃ n, l.length = n + 1 := ⟨l.length - 1, by omega⟩
  unfold runes
  rw [hn]
  show (if l = [] then [] else _) = _
  rw [if_neg hne, runesGo_fuel n (l.drop (rdL l).2.1).length _ (by rw [List.length_drop]; omega) (Nat.le_refl _)]

/-- all is whole -/
def validGo : Nat → List UInt8 → Bool
  | 0, _ => true
  | n + 1, l => if l = [] then true else if (rdL l).2.2 = 0 then validGo n (l.drop (rdL l).2.1) else false
def valid (l : List UInt8) : Bool := validGo l.length l
theorem validGo_nil (n : Nat) : validGo n [] = true := by cases n <;> simp [validGo]
theorem validGo_fuel : ∀ (n m : Nat) (l : List UInt8), l.length ≤ n → l.length ≤ m → validGo n l = validGo m l
  | 0, m, l, hn, _ => by
    obtain rfl : l = [] := List.eq_nil_of_length_eq_zero (by omega)
    rw [validGo_nil, validGo_nil]
  | n + 1, 0, l, _, hm => by
    obtain rfl : l = [] := List.eq_nil_of_length_eq_zero (by omega)
    rw [validGo_nil, validGo_nil]
  | n + 1, m + 1, l, hn, hm => by
    unfold validGo
    by_cases hne : l = []
    · simp [hne]
    · have hw := (rdL_facts l hne).1
      have hl : 0 < l.length := List.length_pos_iff.2 hne
      rw [if_neg hne, if_neg hne, validGo_fuel n m (l.drop (rdL l).2.1) (by rw [List.length_drop]; omega) (by rw [List.length_drop]; omega)]
theorem valid_nil : valid [] = true := rfl
theorem valid_step (l : List UInt8) (hne : l ≠ []) : valid l = if (rdL l).2.2 = 0 then valid (l.drop (rdL l).2.1) else false := by
  have hl : 0 < l.length := List.length_pos_iff.2 hne
  have hw := (rdL_facts l hne).1
  obtain ⟨n, hn⟩ : ∃ n, l.length = n + 1 := ⟨l.length - 1, by omega⟩
  unfold valid
  rw [hn]
  show (if l = [] then true else _) = _
  rw [if_neg hne, validGo_fuel n (l.drop (rdL l).2.1).length _ (by rw [List.length_drop]; omega) (Nat.le_refl _)]

/-! ### there and back -/
def text (rs : List Int) : List UInt8 := rs.flatMap encodeRune
theorem text_nil : text [] = [] := rfl
theorem text_cons (r : Int) (rs : List Int) : text (r :: rs) = encodeRune r ++ text rs := by simp [text]
theorem tob (b : UInt8) (z : Int) (h : z = (b.toNat : Int)) : (z.toNat).toUInt8 = b := by subst h; simp

theorem lenS {l : List UInt8} (k : Nat) (h : k < l.length) : l.drop k = l.getD k 0 :: l.drop (k + 1) := by
  rw [List.drop_eq_getElem_cons h]; simp [List.getD_eq_getElem?_getD, List.getElem?_eq_getElem h]

/-- what is whole is its rune's own bytes -/
theorem rdL_whole (l : List UInt8) (h : (rdL l).2.2 = 0) (hne : l ≠ []) : l = encodeRune ((rdL l).1 : Nat) ++ l.drop (rdL l).2.1 := by
  have hl : 0 < l.length := List.length_pos_iff.2 hne
  have q0 := (l.getD 0 0).toNat_lt
  have q1 := (l.getD 1 0).toNat_lt
  have q2 := (l.getD 2 0).toNat_lt
  have q3 := (l.getD 3 0).toNat_lt
  have e0 := lenS (l := l) 0 hl
  rw [List.drop_zero] at e0
  revert h
  unfold rdL rdN
  by_cases c0 : (l.getD 0 0).toNat < 128
  · rw [if_pos c0]
    intro _
    simp only [encodeRune]
    rw [encodeRuneZ_one (by omega) (by omega)]
    simp only [List.map_cons, List.map_nil]
    rw [tob (l.getD 0 0) _ rfl]
    exact e0
  rw [if_neg c0]
  by_cases c1 : (l.getD 0 0).toNat < 194
  · rw [if_pos c1]; intro h; exact absurd h (by simp)
  rw [if_neg c1]
  by_cases c2 : (l.getD 0 0).toNat < 224
  · rw [if_pos c2]
    by_cases d1 : l.length ≤ 1
    · rw [if_pos d1]; intro h; exact absurd h (by simp)
    rw [if_neg d1]
    have e1 := lenS (l := l) 1 (by omega)
    by_cases d2 : (l.getD 1 0).toNat < 128 ∨ 191 < (l.getD 1 0).toNat
    · rw [if_pos d2]; intro h; exact absurd h (by simp)
    rw [if_neg d2]
    intro _
    simp only [encodeRune]
    rw [encodeRuneZ_two (by omega) (by omega)]
    simp only [List.map_cons, List.map_nil]
    rw [tob (l.getD 0 0) _ (by omega), tob (l.getD 1 0) _ (by omega)]
    rw [e1] at e0
    exact e0
  rw [if_neg c2]
  by_cases c3 : (l.getD 0 0).toNat < 240
  · rw [if_pos c3]
    by_cases d1 : l.length ≤ 1
    · rw [if_pos d1]; intro h; exact absurd h (by simp)
    rw [if_neg d1]
    have e1 := lenS (l := l) 1 (by omega)
    by_cases d2 : (l.getD 1 0).toNat < 128 ∨ 191 < (l.getD 1 0).toNat ∨ ((l.getD 0 0).toNat = 224 ∧ (l.getD 1 0).toNat < 160) ∨ ((l.getD 0 0).toNat = 237 ∧ 159 < (l.getD 1 0).toNat)
    · rw [if_pos d2]; intro h; exact absurd h (by simp)
    rw [if_neg d2]
    by_cases d3 : l.length ≤ 2
    · rw [if_pos d3]; intro h; exact absurd h (by simp)
    rw [if_neg d3]
    have e2 := lenS (l := l) 2 (by omega)
    by_cases d4 : (l.getD 2 0).toNat < 128 ∨ 191 < (l.getD 2 0).toNat
    · rw [if_pos d4]; intro h; exact absurd h (by simp)
    rw [if_neg d4]
    intro _
    simp only [encodeRune]
    rw [encodeRuneZ_three (by omega)]
    simp only [List.map_cons, List.map_nil]
    rw [tob (l.getD 0 0) _ (by omega), tob (l.getD 1 0) _ (by omega), tob (l.getD 2 0) _ (by omega)]
    rw [e1, e2] at e0
    exact e0
  rw [if_neg c3]
  by_cases c4 : (l.getD 0 0).toNat < 245
  · rw [if_pos c4]
    by_cases d1 : l.length ≤ 1
    · rw [if_pos d1]; intro h; exact absurd h (by simp)
    rw [if_neg d1]
    have e1 := lenS (l := l) 1 (by omega)
    by_cases d2 : (l.getD 1 0).toNat < 128 ∨ 191 < (l.getD 1 0).toNat ∨ ((l.getD 0 0).toNat = 240 ∧ (l.getD 1 0).toNat < 144) ∨ ((l.getD 0 0).toNat = 244 ∧ 143 < (l.getD 1 0).toNat)
    · rw [if_pos d2]; intro h; exact absurd h (by simp)
    rw [if_neg d2]
    by_cases d3 : l.length ≤ 2
    · rw [if_pos d3]; intro h; exact absurd h (by simp)
    rw [if_neg d3]
    have e2 := lenS (l := l) 2 (by omega)
    by_cases d4 : (l.getD 2 0).toNat < 128 ∨ 191 < (l.getD 2 0).toNat
    · rw [if_pos d4]; intro h; exact absurd h (by simp)
    rw [if_neg d4]
    by_cases d5 : l.length ≤ 3
    · rw [if_pos d5]; intro h; exact absurd h (by simp)
    rw [if_neg d5]
    have e3 := lenS (l := l) 3 (by omega)
    by_cases d6 : (l.getD 3 0).toNat < 128 ∨ 191 < (l.getD 3 0).toNat
    · rw [if_pos d6]; intro h; exact absurd h (by simp)
    rw [if_neg d6]
    intro _
    simp only [encodeRune]
    rw [encodeRuneZ_four (by omega) (by omega)]
    simp only [List.map_cons, List.map_nil]
    rw [tob (l.getD 0 0) _ (by omega), tob (l.getD 1 0) _ (by omega), tob (l.getD 2 0) _ (by omega), tob (l.getD 3 0) _ (by omega)]
    rw [e1, e2, e3] at e0
    exact e0
  · rw [if_neg c4]; intro h; exact absurd h (by simp)
end Go.Proofs.Ythmbbkbmlnaghaa.P
end
section
/-
 Mended text in plain Lean: what stands for a text's bytes, and that a text and its mended form agree in all that ASCII asks of them.
-/
set_option linter.unusedVariables false
set_option linter.unusedSimpArgs false
namespace Go.Proofs.Ythmbbkbmlnaghaa.P
open Go.Lib

/-! ### the model's own conversion is the same -/
theorem encode_list (r : Int) : (Utf8.encode r).data.toList = encodeRune r := by
 unfold encodeRune
 by_cases hb : r < 0 ∨ (55296 ≤ r ∧ r ≤ 57343) ∨ 1114111 < r
 ·have v : Utf8.valid r = false := by simp [Utf8.valid]; omega
  rw [encodeRuneZ_bad hb]
  simp [Utf8.encode, v, Utf8.runeError]
 have v : Utf8.valid r = true := by simp [Utf8.valid]; omega
 obtain ⟨n, rfl⟩ : ∃ n : Nat, r = n := ⟨r.toNat, by omega⟩
 by_cases c1 : n < 128
 ·rw [encodeRuneZ_one (by omega) (by omega)]
  simp [Utf8.encode, v, c1]
 by_cases c2 : n < 2048
 ·rw [encodeRuneZ_two (by omega) (by omega)]
  simp only [Utf8.encode, v, List.map_cons, List.map_nil]
  have e1 : ((192 : Int) + (n : Int) / 64).toNat = 192 + n / 64 := by omega
  have e2 : ((128 : Int) + (n : Int) % 64).toNat = 128 + n % 64 := by omega
  simp [c1, c2, e1, e2]
 by_cases c3 : n < 65536
 ·rw [encodeRuneZ_three (by omega)]
  simp only [Utf8.encode, v, List.map_cons, List.map_nil]
  have e1 : ((224 : Int) + (n : Int) / 4096).toNat = 224 + n / 4096 := by omega
  have e2 : ((128 : Int) + (n : Int) / 64 % 64).toNat = 128 + n / 64 % 64 := by omega
  have e3 : ((128 : Int) + (n : Int) % 64).toNat = 128 + n % 64 := by omega
  simp [c1, c2, c3, e1, e2, e3]
 ·rw [encodeRuneZ_four (by omega) (by omega)]
  simp only [Utf8.encode, v, List.map_cons, List.map_nil]
  have e0 : ((240 : Int) + (n : Int) / 262144).toNat = 240 + n / 262144 := by omega
  have e1 : ((128 : Int) + (n : Int) / 4096 % 64).toNat = 128 + n / 4096 % 64 := by omega
  have e2 : ((128 : Int) + (n : Int) / 64 % 64).toNat = 128 + n / 64 % 64 := by omega
  have e3 : ((128 : Int) + (n : Int) % 64).toNat = 128 + n % 64 := by omega
  simp [c1, c2, c3, e0, e1, e2, e3]
theorem runesBytes_go (xs : List Int) : ∀ a : ByteArray, (xs.foldl (fun r n => r ++ Utf8.encode n) a).data.toList = a.data.toList ++ text xs := by
 induction xs with
 | nil => intro a; simp [text_nil]
 | cons x t ih =>
  intro a
  rw [List.foldl_cons, ih, ByteArray.data_append, Array.toList_append, encode_list, text_cons, List.append_assoc]
theorem runesBytes_list (xs : List Int) : (runesBytes xs).data.toList = text xs := by
 unfold runesBytes
 rw [runesBytes_go]
 rfl

/-! ### mended -/
def mendL (l : List UInt8) : List UInt8 := text (runes l)
theorem rdL_ascii (b : UInt8) (l : List UInt8) (h : b.toNat < 128) : rdL (b :: l) = (b.toNat, 1, 0) := by
 unfold rdL rdN
 simp only [List.getD_cons_zero]
 rw [if_pos h]
/-! ### two texts that agree in their ASCII beginning, and in whether something stands behind it -/
inductive Agr : List UInt8 → List UInt8 → Prop
 | nil : Agr [] []
 | asc (b : UInt8) (l m : List UInt8) : b.toNat < 128 → Agr l m → Agr (b :: l) (b :: m)
 | hi (b c : UInt8) (l m : List UInt8) : 128 ≤ b.toNat → 128 ≤ c.toNat → Agr (b :: l) (c :: m)
theorem Agr.nil_iff {l m : List UInt8} (h : Agr l m) : l = [] ↔ m = [] := by cases h <;> simp
/-- an ASCII byte at the head -/
theorem Agr.head_iff {l m : List UInt8} (h : Agr l m) (c : UInt8) (hc : c.toNat < 128) : l.getD 0 0 = c ↔ m.getD 0 0 = c := by
 cases h with
 | nil => exact Iff.rfl
 | asc b l m hb h => exact Iff.rfl
 | hi b d l m hb hd =>
  simp only [List.getD_cons_zero]
  constructor
  ·rintro rfl; omega
  ·rintro rfl; omega
/-- up to place n both are the same, and behind it they agree -/
def Upto (n : Nat) (l m : List UInt8) : Prop := l.take n = m.take n ∧ Agr (l.drop n) (m.drop n) ∧ n ≤ l.length
theorem Upto.zero {l m : List UInt8} (h : Agr l m) : Upto 0 l m := ⟨by simp, by simpa using h, Nat.zero_le _⟩
theorem Upto.len {n : Nat} {l m : List UInt8} (h : Upto n l m) : n ≤ m.length := by
 have := congrArg List.length h.1
 rw [List.length_take, List.length_take] at this
 have := h.2.2
 omega
theorem getD_drop0 (l : List UInt8) (n : Nat) : (l.drop n).getD 0 0 = l.getD n 0 := by
 simp [List.getD_eq_getElem?_getD, List.getElem?_drop]
theorem Upto.len_iff {n : Nat} {l m : List UInt8} (h : Upto n l m) : n = l.length ↔ n = m.length := by
 have h1 := h.2.1.nil_iff
 have h2 := h.len
 have h3 := h.2.2
 rw [List.drop_eq_nil_iff, List.drop_eq_nil_iff] at h1
 omega
theorem Upto.lt_iff {n : Nat} {l m : List UInt8} (h : Upto n l m) : n < l.length ↔ n < m.length := by
 have h1 := h.len_iff
 have h2 := h.len
 have h3 := h.2.2
 omega
theorem Upto.at_iff {n : Nat} {l m : List UInt8} (h : Upto n l m) (c : UInt8) (hc : c.toNat < 128) : l.getD n 0 = c ↔ m.getD n 0 = c := by
 have := h.2.1.head_iff c hc
 rwa [getD_drop0, getD_drop0] at this
theorem Upto.before {n : Nat} {l m : List UInt8} (h : Upto n l m) (i : Nat) (hi : i < n) : l.getD i 0 = m.getD i 0 := by
 have e := congrArg (fun x : List UInt8 => x[i]?) h.1
 simp only [List.getElem?_take, if_pos hi] at e
 rw [List.getD_eq_getElem?_getD, List.getD_eq_getElem?_getD, e]
theorem Upto.succ {n : Nat} {l m : List UInt8} (h : Upto n l m) (hlt : n < l.length) (hb : (l.getD n 0).toNat < 128) : Upto (n + 1) l m := by
 have hm := h.lt_iff.1 hlt
 have e := (h.at_iff _ hb).1 rfl
 have a := h.2.1
 rw [lenS n hlt, lenS n hm, e] at a
 refine ⟨?_, ?_, hlt⟩
 ·rw [List.take_succ_eq_append_getElem hlt, List.take_succ_eq_append_getElem hm, h.1]
  have e1 : l.getD n 0 = l[n] := by rw [List.getD_eq_getElem?_getD, List.getElem?_eq_getElem hlt]; rfl
  have e2 : m.getD n 0 = m[n] := by rw [List.getD_eq_getElem?_getD, List.getElem?_eq_getElem hm]; rfl
  rw [← e1, ← e2, e]
 ·cases a with
  | asc b l m hb h => exact h
  | hi b c l m hb' hc => omega
end Go.Proofs.Ythmbbkbmlnaghaa.P
end
section
/-
 Valid texts in plain Lean: runes of a text of good runes; what may be cut off a valid text.
-/
set_option linter.unusedVariables false
set_option linter.unusedSimpArgs false
namespace Go.Proofs.Ythmbbkbmlnaghaa.P
open Go.Lib

theorem u8n (z : Nat) (h : z < 256) : (((z : Int)).toNat.toUInt8).toNat = z := by
 rw [Int.toNat_natCast]
 have : (z.toUInt8).toNat = z % 256 := by simp
 omega
theorem rdL_encode (r : Nat) (hg : r < 55296 ∨ (57344 ≤ r ∧ r ≤ 1114111)) (t : List UInt8) : rdL (encodeRune ((r : Nat) : Int) ++ t) = (r, (encodeRune ((r : Nat) : Int)).length, 0) := by
 by_cases c1 : r < 128
 ·have e : encodeRune ((r : Nat) : Int) = [(((r : Nat) : Int)).toNat.toUInt8] := by
   simp only [encodeRune]
   rw [encodeRuneZ_one (by omega) (by omega)]
   rfl
  rw [e, List.singleton_append, rdL_ascii _ _ (by rw [u8n r (by omega)]; omega), u8n r (by omega)]
  rfl
 by_cases c2 : r < 2048
 ·have e : encodeRune ((r : Nat) : Int) = [(((192 + r / 64 : Nat) : Int)).toNat.toUInt8, (((128 + r % 64 : Nat) : Int)).toNat.toUInt8] := by
   simp only [encodeRune]
   rw [encodeRuneZ_two (by omega) (by omega)]
   simp only [List.map_cons, List.map_nil]
   rw [show (192 : Int) + (r : Int) / 64 = ((192 + r / 64 : Nat) : Int) by omega, show (128 : Int) + (r : Int) % 64 = ((128 + r % 64 : Nat) : Int) by omega]
  rw [e]
  unfold rdL
  simp only [List.cons_append, List.nil_append, List.getD_cons_zero, List.getD_cons_succ, List.length_cons, List.length_nil]
  rw [u8n _ (by omega), u8n _ (by omega)]
  unfold rdN
  rw [if_neg (by omega), if_neg (by omega), if_pos (by omega), if_neg (by omega), if_neg (by omega)]
  congr 1
  omega
 by_cases c3 : r < 65536
 ·have e : encodeRune ((r : Nat) : Int) = [(((224 + r / 4096 : Nat) : Int)).toNat.toUInt8, (((128 + r / 64 % 64 : Nat) : Int)).toNat.toUInt8, (((128 + r % 64 : Nat) : Int)).toNat.toUInt8] := by
   simp only [encodeRune]
   rw [encodeRuneZ_three (by omega)]
   simp only [List.map_cons, List.map_nil]
   rw [show (224 : Int) + (r : Int) / 4096 = ((224 + r / 4096 : Nat) : Int) by omega, show (128 : Int) + (r : Int) / 64 % 64 = ((128 + r / 64 % 64 : Nat) : Int) by omega, show (128 : Int) + (r : Int) % 64 = ((128 + r % 64 : Nat) : Int) by omega]
  rw [e]
  unfold rdL
  simp only [List.cons_append, List.nil_append, List.getD_cons_zero, List.getD_cons_succ, List.length_cons, List.length_nil]
  rw [u8n _ (by omega), u8n _ (by omega), u8n _ (by omega)]
  unfold rdN
  rw [if_neg (by omega), if_neg (by omega), if_neg (by omega), if_pos (by omega), if_neg (by omega), if_neg (by omega), if_neg (by omega), if_neg (by omega)]
  congr 1
  omega
 ·have e : encodeRune ((r : Nat) : Int) = [(((240 + r / 262144 : Nat) : Int)).toNat.toUInt8, (((128 + r / 4096 % 64 : Nat) : Int)).toNat.toUInt8, (((128 + r / 64 % 64 : Nat) : Int)).toNat.toUInt8, (((128 + r % 64 : Nat) : Int)).toNat.toUInt8] := by
   simp only [encodeRune]
   rw [encodeRuneZ_four (by omega) (by omega)]
   simp only [List.map_cons, List.map_nil]
   rw [show (240 : Int) + (r : Int) / 262144 = ((240 + r / 262144 : Nat) : Int) by omega, show (128 : Int) + (r : Int) / 4096 % 64 = ((128 + r / 4096 % 64 : Nat) : Int) by omega, show (128 : Int) + (r : Int) / 64 % 64 = ((128 + r / 64 % 64 : Nat) : Int) by omega, show (128 : Int) + (r : Int) % 64 = ((128 + r % 64 : Nat) : Int) by omega]
  rw [e]
  unfold rdL
  simp only [List.cons_append, List.nil_append, List.getD_cons_zero, List.getD_cons_succ, List.length_cons, List.length_nil]
  rw [u8n _ (by omega), u8n _ (by omega), u8n _ (by omega), u8n _ (by omega)]
  unfold rdN
  rw [if_neg (by omega), if_neg (by omega), if_neg (by omega), if_neg (by omega), if_pos (by omega), if_neg (by omega), if_neg (by omega), if_neg (by omega), if_neg (by omega), if_neg (by omega), if_neg (by omega)]
  congr 1
  omega
theorem encode_ne (r : Int) : encodeRune r ≠ [] := by
 intro h
 have := (encodeRuneZ_length r).1
 have h2 := congrArg List.length h
 unfold encodeRune at h2
 rw [List.length_map, List.length_nil] at h2
 omega
def goodsR (rs : List Int) : Prop := ∀ r ∈ rs, goodR r
theorem runes_good : ∀ (n : Nat) (l : List UInt8), l.length ≤ n → goodsR (runes l)
 | 0, l, h => by
  obtain rfl : l = [] := List.eq_nil_of_length_eq_zero (by omega)
  intro r hr
  rw [runes_nil] at hr
  cases hr
 | n + 1, l, h => by
  by_cases hne : l = []
  ·subst hne
   intro r hr
   rw [runes_nil] at hr
   cases hr
  ·have hf := rdL_facts l hne
   have hl : 0 < l.length := List.length_pos_iff.2 hne
   rw [runes_step l hne]
   intro r hr
   rcases List.mem_cons.1 hr with rfl | hr
   ·have := hf.2.2.2.2.1
    unfold goodR
    omega
   ·exact runes_good n (l.drop (rdL l).2.1) (by rw [List.length_drop]; have := hf.1; omega) r hr
theorem runes_encode (r : Int) (hg : goodR r) (t : List UInt8) : runes (encodeRune r ++ t) = r :: runes t := by
 obtain ⟨n, rfl⟩ : ∃ n : Nat, r = n := ⟨r.toNat, by unfold goodR at hg; omega⟩
 have h := rdL_encode n (by unfold goodR at hg; omega) t
 rw [runes_step _ (by simp [encode_ne]), h]
 simp only
 rw [List.drop_append_of_le_length (Nat.le_refl _), List.drop_length, List.nil_append]
theorem runes_text : ∀ rs : List Int, goodsR rs → runes (text rs) = rs
 | [], _ => rfl
 | r :: t, h => by
  rw [text_cons, runes_encode r (h r List.mem_cons_self), runes_text t (fun x hx => h x (List.mem_cons_of_mem _ hx))]
theorem valid_encode (r : Int) (hg : goodR r) (t : List UInt8) : valid (encodeRune r ++ t) = valid t := by
 obtain ⟨n, rfl⟩ : ∃ n : Nat, r = n := ⟨r.toNat, by unfold goodR at hg; omega⟩
 have h := rdL_encode n (by unfold goodR at hg; omega) t
 rw [valid_step _ (by simp [encode_ne]), h]
 simp only
 rw [if_pos trivial, List.drop_append_of_le_length (Nat.le_refl _), List.drop_length, List.nil_append]
theorem valid_text : ∀ rs : List Int, goodsR rs → valid (text rs) = true
 | [], _ => rfl
 | r :: t, h => by rw [text_cons, valid_encode r (h r List.mem_cons_self), valid_text t (fun x hx => h x (List.mem_cons_of_mem _ hx))]
theorem text_runes : ∀ (n : Nat) (l : List UInt8), l.length ≤ n → valid l = true → text (runes l) = l
 | 0, l, h, _ => by
  obtain rfl : l = [] := List.eq_nil_of_length_eq_zero (by omega)
  rfl
 | n + 1, l, h, hv => by
  by_cases hne : l = []
  ·subst hne
   rfl
  ·have hf := rdL_facts l hne
   have hl : 0 < l.length := List.length_pos_iff.2 hne
   rw [valid_step l hne] at hv
   by_cases h0 : (rdL l).2.2 = 0
   ·rw [if_pos h0] at hv
    rw [runes_step l hne, text_cons, text_runes n (l.drop (rdL l).2.1) (by rw [List.length_drop]; have := hf.1; omega) hv]
    exact (rdL_whole l h0 hne).symm
   ·rw [if_neg h0] at hv
    cases hv
theorem mendL_valid (l : List UInt8) : valid (mendL l) = true := valid_text _ (runes_good _ l (Nat.le_refl _))
theorem mendL_runes (l : List UInt8) : runes (mendL l) = runes l := runes_text _ (runes_good _ l (Nat.le_refl _))
theorem mendL_of_valid (l : List UInt8) (h : valid l = true) : mendL l = l := text_runes _ l (Nat.le_refl _) h
end Go.Proofs.Ythmbbkbmlnaghaa.P
end
section
/-
 The plain rune of a rune (input.Plain and the document's): one plain function.
-/
set_option linter.unusedVariables false
set_option linter.unusedSimpArgs false
namespace Go.Proofs.Ythmbbkbmlnaghaa.P
open Go.RowKit

theorem bits_low (r : Nat) (h : r < 2147483648) : Go.bits .and .i32 (r : Int) 65534 = ((2 * (r / 2 % 32768) : Nat) : Int) := by
 have e : r &&& 65534 = 2 * (r / 2 % 32768) := by
  have h1 : (r &&& 65534) / 2 = r / 2 % 32768 := by
   rw [Nat.and_div_two]
   exact Nat.and_two_pow_sub_one_eq_mod (r / 2) 15
  have h2 : (r &&& 65534) % 2 = 0 := by
   have : (r &&& 65534) % 2 ^ 1 = (r % 2 ^ 1) &&& (65534 % 2 ^ 1) := Nat.and_mod_two_pow
   simpa using this
  omega
 have e3 : ((BitVec.ofInt 32 (r : Int)) &&& (BitVec.ofInt 32 65534)).toNat = 2 * (r / 2 % 32768) := by
  rw [BitVec.toNat_and, ← e]
  congr 1
  rw [BitVec.toNat_ofInt]
  omega
 show IntKind.wrap .i32 (((BitVec.ofInt 32 (r : Int)) &&& (BitVec.ofInt 32 65534)).toNat : Int) = _
 rw [e3]
 have h4 : 2 * (r / 2 % 32768) < 65536 := by omega
 generalize 2 * (r / 2 % 32768) = n at h4
 simp only [IntKind.wrap, IntKind.bits, IntKind.signed]
 simp
 omega

def plainP (r : Int) : Int := if r = 13 then 10 else if r = 9 ∨ r = 10 ∨ r = 12 then r else if r < 32 ∨ (127 ≤ r ∧ r ≤ 159) ∨ (64976 ≤ r ∧ r ≤ 65007) ∨ 65534 ≤ r % 65536 then 65533 else r

theorem plain_f (r : Int) (h : goodR r) : input_Plain.f 6 r = some (plainP r) := by
 unfold goodR at h
 have h0 : 0 ≤ r ∧ r ≤ 1114111 := by omega
 obtain ⟨n, rfl⟩ : ∃ n : Nat, r = (n : Int) := ⟨r.toNat, by omega⟩
 unfold input_Plain.f plainP
 by_cases c13 : (n : Int) = 13
 ·rw [if_pos c13, if_pos c13]
 rw [if_neg c13, if_neg c13]
 by_cases c9 : (n : Int) = 9
 ·rw [if_pos c9, if_pos (.inl c9)]
  rw [input_Plain.j0, if_pos (by simpa using c9)]
 rw [if_neg c9]
 by_cases c10 : (n : Int) = 10
 ·rw [if_pos c10, if_pos (.inr (.inl c10))]
  rw [input_Plain.j0, if_pos (by simpa using c10)]
 rw [if_neg c10]
 by_cases c12 : (n : Int) = 12
 ·rw [if_pos (.inr (.inr c12))]
  rw [input_Plain.j0, if_pos (by simpa using c12)]
 rw [if_neg (show ¬ ((n : Int) = 9 ∨ (n : Int) = 10 ∨ (n : Int) = 12) by omega)]
 rw [input_Plain.j0, if_neg (by simpa using c12)]
 by_cases c32 : (n : Int) < 32
 ·rw [if_pos c32, if_pos (.inl c32)]
 rw [if_neg c32]
 have hb := bits_low n (by omega)
 have e4 : ∀ b : Bool, input_Plain.j4 2 (n : Int) b = if b = true ∨ 65534 ≤ (n : Int) % 65536 then some 65533 else some (n : Int) := by
  intro b
  rw [input_Plain.j4, hb]
  cases b
  ·by_cases c : 65534 ≤ (n : Int) % 65536
   ·rw [if_neg (by simp), if_pos (by omega), if_pos (.inr c)]
   ·rw [if_neg (by simp), if_neg (by omega), if_neg (by simpa using c)]
  ·simp
 have e3 : ∀ b : Bool, input_Plain.j3 3 (n : Int) b = if b = true ∨ (64976 ≤ (n : Int) ∧ (n : Int) ≤ 65007) ∨ 65534 ≤ (n : Int) % 65536 then some 65533 else some (n : Int) := by
  intro b
  rw [input_Plain.j3, e4, e4]
  cases b
  ·by_cases c : 64976 ≤ (n : Int)
   ·by_cases c2 : (n : Int) ≤ 65007 <;> simp [c, c2]
   ·simp [c]
  ·simp
 have e2 : ∀ b : Bool, input_Plain.j2 4 (n : Int) b = if b = true ∨ (64976 ≤ (n : Int) ∧ (n : Int) ≤ 65007) ∨ 65534 ≤ (n : Int) % 65536 then some 65533 else some (n : Int) := by
  intro b
  rw [input_Plain.j2, e3, e3]
  cases b
  ·rw [if_neg (by simp), decide_eq_false (by omega)]
  ·simp
 have e1 : ∀ b : Bool, input_Plain.j1 5 (n : Int) b = if b = true ∨ (64976 ≤ (n : Int) ∧ (n : Int) ≤ 65007) ∨ 65534 ≤ (n : Int) % 65536 then some 65533 else some (n : Int) := by
  intro b
  rw [input_Plain.j1, e2, e2]
  cases b
  ·by_cases c : (n : Int) ≥ 55296
   ·rw [if_neg (by simp), if_pos c, decide_eq_false (by omega)]
   ·rw [if_neg (by simp), if_neg c]
  ·simp
 rw [e1, e1]
 by_cases c127 : (n : Int) ≥ 127
 ·by_cases c159 : (n : Int) ≤ 159
  ·simp [c32, c127, c159]
  ·simp [c32, c127, c159]
   split <;> rfl
 ·simp [c32, c127]
  split <;> rfl

theorem rplain_f (r : Int) (h : goodR r) : sieveref03_Plain.f 4 r = some (plainP r) := by
 unfold goodR at h
 have hc : sieveref01_Char.f r = some true := by
  unfold sieveref01_Char.f
  rw [if_pos (by omega), if_pos (by omega)]
  by_cases c : r < 55296
  ·rw [if_pos c]
  ·rw [if_neg c, decide_eq_true (by omega)]
 obtain ⟨n, rfl⟩ : ∃ n : Nat, r = (n : Int) := ⟨r.toNat, by omega⟩
 unfold sieveref03_Plain.f
 rw [hc]
 have ht : Int.tmod (n : Int) 65536 = (n : Int) % 65536 := Int.tmod_eq_emod_of_nonneg (by omega)
 have e2 : ∀ b : Bool, sieveref03_Plain.j2 2 (n : Int) b = if b = true ∨ 65534 ≤ (n : Int) % 65536 then some 65533 else some (n : Int) := by
  intro b
  rw [sieveref03_Plain.j2, ht]
  cases b
  ·by_cases c : 65534 ≤ (n : Int) % 65536
   ·rw [if_neg (by simp), if_pos c, if_pos (.inr c)]
   ·rw [if_neg (by simp), if_neg c, if_neg (by simpa using c)]
  ·simp
 have e1 : ∀ b : Bool, sieveref03_Plain.j1 3 (n : Int) b = if b = true ∨ (64976 ≤ (n : Int) ∧ (n : Int) ≤ 65007) ∨ 65534 ≤ (n : Int) % 65536 then some 65533 else some (n : Int) := by
  intro b
  rw [sieveref03_Plain.j1, e2, e2]
  cases b
  ·by_cases c : 64976 ≤ (n : Int)
   ·by_cases c2 : (n : Int) ≤ 65007 <;> simp [c, c2]
   ·simp [c]
  ·simp
 have e0 : ∀ b : Bool, sieveref03_Plain.j0 4 (n : Int) b = if b = true ∨ (127 ≤ (n : Int) ∧ (n : Int) ≤ 159) ∨ (64976 ≤ (n : Int) ∧ (n : Int) ≤ 65007) ∨ 65534 ≤ (n : Int) % 65536 then some 65533 else some (n : Int) := by
  intro b
  rw [sieveref03_Plain.j0, e1, e1]
  cases b
  ·by_cases c : 127 ≤ (n : Int)
   ·by_cases c2 : (n : Int) ≤ 159 <;> simp [c, c2]
   ·simp [c]
  ·simp
 simp only [Option.bind_some, if_true, e0]
 unfold plainP
 by_cases c13 : (n : Int) = 13
 ·rw [if_pos c13, if_pos c13]
 rw [if_neg c13, if_neg c13]
 by_cases c8 : (n : Int) ≤ 8
 ·rw [if_pos c8, if_neg (by omega), if_pos (by omega)]
 rw [if_neg c8]
 by_cases c11 : (n : Int) = 11
 ·rw [if_pos c11, if_neg (by omega), if_pos (by omega)]
 rw [if_neg c11]
 by_cases c14 : (n : Int) ≥ 14
 ·rw [if_pos c14, if_neg (show ¬ ((n : Int) = 9 ∨ (n : Int) = 10 ∨ (n : Int) = 12) by omega)]
  by_cases c31 : (n : Int) ≤ 31
  ·rw [if_pos (.inl (decide_eq_true c31)), if_pos (by omega)]
  ·have : ((decide ((n : Int) ≤ 31)) = true ∨ (127 ≤ (n : Int) ∧ (n : Int) ≤ 159) ∨ (64976 ≤ (n : Int) ∧ (n : Int) ≤ 65007) ∨ 65534 ≤ (n : Int) % 65536) ↔ ((n : Int) < 32 ∨ (127 ≤ (n : Int) ∧ (n : Int) ≤ 159) ∨ (64976 ≤ (n : Int) ∧ (n : Int) ≤ 65007) ∨ 65534 ≤ (n : Int) % 65536) := by
    rw [decide_eq_true_iff]
    omega
   simp only [this]
   split <;> rfl
 ·rw [if_neg c14, if_pos (show (n : Int) = 9 ∨ (n : Int) = 10 ∨ (n : Int) = 12 by omega), if_neg (by
   rintro (h | h | h | h)
   ·cases h
   ·omega
   ·omega
   ·omega)]
def plains (l : List UInt8) : List UInt8 := text ((runes l).map plainP)
def cleanB (b : ByteArray) : ByteArray := ⟨(plains b.data.toList).toArray⟩
end Go.Proofs.Ythmbbkbmlnaghaa.P
end
section
/-
 Small words..
-/
namespace Go.Proofs.Ythmbbkbmlnaghaa.P
open Go.RowKit Go.Proofs.YthmbbkbmlnaghaaW.PrintWords Go.Proofs.YthmbbkbmlnaghaaW.PrintLast Go.Proofs.YthmbbkbmlnaghaaW.PrintMore
set_option linter.unusedVariables false
set_option linter.unusedSimpArgs false

theorem wrap32_nat (a : Nat) (h : a < 2147483648) : wrap32 (a : Int) = (a : Int) := by unfold wrap32; omega
end Go.Proofs.Ythmbbkbmlnaghaa.P
end
section
/-
 utf.All: what it hands back, over a copy of the bytes; what its function does at a loop's rounds: the contract of the iterator.
-/
namespace Go.Proofs.Ythmbbkbmlnaghaa.P
open Go.RowKit Go.Shelf Go.Proofs.YthmbbkbmlnaghaaW.PrintWords Go.Proofs.YthmbbkbmlnaghaaW.PrintLast Go.Proofs.YthmbbkbmlnaghaaW.PrintMore
set_option linter.unusedVariables false
set_option linter.unusedSimpArgs false

set_option maxHeartbeats 1000000 in
theorem utf_All_calls (A : Option Addr) (c0 : Nat) (l0 : List Int) (w : World) (hr : Kd.C (Kd.int .u8) w A l0.length l0) (hb : l0.length ≤ 140737488355328) :
  Calls Try.prog 70 #[.slice A l0.length c0] w fun e w' => e = .returned (.func (.func 80) #[] #[.pointer (some ⟨w.heap.size, 0, none⟩)]) ∧
   (∃ v, w'.heap[w.heap.size]? = some (.cells #[v] 34 (0, 0)) ∧ Kd.R (Kd.int .u8) 5 w' w.heap.size (fun k => k ≠ w.heap.size) v l0) ∧ Below w.heap.size w w' := by
 have HR := Aside0.mk hr
 clear hr
 go_enter Try.func70, Try.ntmps70
 go_wp2_with (at_builtin; refine Kd.R_append_row (Value.int .u8) (0 : Int) (w0 := w) (h1 := fun _ => rfl) w.heap.size rfl (.const (.slice none 0 0)) (.tmp 3) 34 5 (.int .u8 0) 1 rfl Try.underlying34 info5 rfl (by omega) (.slice none 0 0) [] l0 A l0.length c0 (fun k => k ≠ w.heap.size) rfl rfl ?aF ?aO ?aC ?aB ?aS ?aL ?_)
 case aF => intro k hk; simp at hk; omega
 case aO => exact Kd.R_nil _ _ _ _ _
 case aC => exact Kd.C_alloc HR.out _
 case aB => exact (Below.refl _ _).alloc (Nat.le_refl _) _
 case aS => simp
 case aL => simpa using hb
 intro v1 w1 ho hbw hg hat
 obtain ⟨Ao, co, rfl⟩ := Kd.R_slice ho
 have hblk : w1.heap[w.heap.size]? = some (.cells #[.slice A l0.length c0] 34 (0, 0)) := (hg.block w.heap.size (by simp) (by simp [Value.ownBlock])).trans (heap_alloc_new w _)
 have HO := Aside0.mk ho
 have HB := Aside0.mk hbw
 have HBK := Aside0.mk hblk
 have hc : w1.cell? ⟨w.heap.size, 0, none⟩ = some (.slice A l0.length c0) := (blk_cell hblk 0).trans rfl
 have hf := blk_frozen hblk 0
 clear ho hbw hg hat hblk
 go_wp2
 go_ret
 refine ⟨rfl, ⟨.slice Ao l0.length co, ?_, ?_⟩, ?_⟩
 ·exact blk_put (cs := #[.slice A l0.length c0]) HBK.out 0 _ rfl
 ·exact Kd.R_far (p := ⟨w.heap.size, 0, none⟩) HO.out (fun _ hk => hk) _
 ·exact below_set HB.out (Nat.le_refl _)

/-! ### bytes that lie in blocks m0 .. n0, and are read -/
def Mid (m0 n0 : Nat) (W W' : World) : Prop := ∀ k, m0 ≤ k → k < n0 → W'.heap[k]? = W.heap[k]?
theorem Mid.refl (m0 n0 : Nat) (W : World) : Mid m0 n0 W W := fun _ _ _ => rfl
theorem Mid.trans {m0 n0 : Nat} {A B C : World} (h : Mid m0 n0 A B) (k : Mid m0 n0 B C) : Mid m0 n0 A C := fun i h1 h2 => (k i h1 h2).trans (h i h1 h2)
theorem Mid.drewN {m0 n0 : Nat} {A B : World} (h : Mid m0 n0 A B) (m : Nat) : Mid m0 n0 A (B.drewN m) := h
theorem Mid.below {m0 n0 : Nat} {A B : World} (h : Below n0 A B) : Mid m0 n0 A B := fun k _ hk => h.block k hk
theorem Mid.grown {m0 n0 : Nat} {A B : World} {row : Option Nat} (h : A.grownBy B row) (hs : n0 ≤ A.heap.size) (hr : ∀ r, row = some r → r < m0 ∨ n0 ≤ r) : Mid m0 n0 A B :=
 fun k h1 h2 => h.block k (by omega) (fun e => by have := hr k e.symm; omega)
theorem Mid.cell {m0 n0 : Nat} {A B : World} (h : Mid m0 n0 A B) {p : Addr} (h1 : m0 ≤ p.block) (h2 : p.block < n0) : B.cell? p = A.cell? p := World.cell?_of_block (h _ h1 h2)
theorem Mid.putObj {m0 n0 : Nat} {W : World} {l : Nat} {o o' : Obj} (hl : n0 ≤ l) (h : W.heap[l]? = some o) : Mid m0 n0 W (W.putObj l o') :=
 Mid.grown (grownBy_putObj' W l o') (by have := (Array.getElem?_eq_some_iff.1 h).1; omega) (fun r e => by cases e; exact .inr hl)
def BytesAt (m0 n0 : Nat) (W : World) (A : Option Addr) (zs : List Int) : Prop :=
 zs.length ≤ 9223372036854775807 ∧ (0 < zs.length → ∃ ad, A = some ad ∧ (m0 ≤ ad.block ∧ ad.block < n0) ∧ ∀ j, j < zs.length → W.cell? (ad.add j) = some (.int .u8 (zs.getD j 0)))
theorem block_add (a : Addr) (n : Nat) : (a.add n).block = a.block := by unfold Addr.add; split <;> rfl
theorem BytesAt.mid {m0 n0 : Nat} {W W' : World} {A : Option Addr} {zs : List Int} (h : BytesAt m0 n0 W A zs) (hb : Mid m0 n0 W W') : BytesAt m0 n0 W' A zs :=
 ⟨h.1, fun hn => by
  obtain ⟨ad, e, hlt, hc⟩ := h.2 hn
  exact ⟨ad, e, hlt, fun j hj => (hb.cell (p := ad.add j) (by rw [block_add]; exact hlt.1) (by rw [block_add]; exact hlt.2)).trans (hc j hj)⟩⟩
theorem BytesAt.C {m0 n0 : Nat} {W : World} {A : Option Addr} {zs : List Int} (h : BytesAt m0 n0 W A zs) : Kd.C (Kd.int .u8) W A zs.length zs :=
 Kd.C_of_reads (enc := Value.int .u8) (d := (0 : Int)) (h1 := fun _ => rfl) ⟨rfl, h.1, fun hn => by
  obtain ⟨ad, e, _, hc⟩ := h.2 hn
  exact ⟨ad, e, hc⟩⟩
theorem BytesAt.of_R {base : Nat} {ok : Nat → Prop} {W : World} {A : Option Addr} {c : Nat} {zs : List Int} (h : Kd.R (Kd.int .u8) 5 W base ok (.slice A zs.length c) zs) : BytesAt base W.heap.size W A zs ∧ zs.length ≤ c := by
 obtain ⟨h1, h2, h3⟩ := Kd.R_reads' h
 have hr := Kd.reads_of_C (enc := Value.int .u8) (d := (0 : Int)) (h1 := fun _ => rfl) h3
 have hb := Kd.R_base h
 refine ⟨⟨hr.2.1, fun hn => ?_⟩, h2⟩
 obtain ⟨ad, e, hc⟩ := hr.2.2 hn
 subst e
 refine ⟨ad, rfl, ⟨?_, ?_⟩, hc⟩
 ·have := own_base (Kd.own_of_R h) ad.block rfl
  exact this
 ·have := World.block_lt_of_cell? _ _ (hc 0 hn)
  rwa [block_add] at this

/-! ### the pieces of bytes: where each begins, and its rune -/
def pcsGo : Nat → Nat → List UInt8 → List (Nat × Int)
 | 0, _, _ => []
 | n + 1, p, l => if l = [] then [] else (p, ((rdL l).1 : Int)) :: pcsGo n (p + (rdL l).2.1) (l.drop (rdL l).2.1)
def pcs (p : Nat) (l : List UInt8) : List (Nat × Int) := pcsGo l.length p l
theorem pcsGo_fuel : ∀ (n m p : Nat) (l : List UInt8), l.length ≤ n → l.length ≤ m → pcsGo n p l = pcsGo m p l
 | 0, m, p, l, hn, _ => by
  obtain rfl : l = [] := List.eq_nil_of_length_eq_zero (by omega)
  cases m <;> simp [pcsGo]
 | n + 1, 0, p, l, _, hm => by
  obtain rfl : l = [] := List.eq_nil_of_length_eq_zero (by omega)
  simp [pcsGo]
 | n + 1, m + 1, p, l, hn, hm => by
  unfold pcsGo
  by_cases hne : l = []
  ·simp [hne]
  ·have hw := (rdL_facts l hne).1
   have hl : 0 < l.length := List.length_pos_iff.2 hne
   rw [if_neg hne, if_neg hne, pcsGo_fuel n m _ (l.drop (rdL l).2.1) (by rw [List.length_drop]; omega) (by rw [List.length_drop]; omega)]
theorem pcs_nil (p : Nat) : pcs p [] = [] := rfl
theorem pcs_step (p : Nat) (l : List UInt8) (hne : l ≠ []) : pcs p l = (p, ((rdL l).1 : Int)) :: pcs (p + (rdL l).2.1) (l.drop (rdL l).2.1) := by
 have hl : 0 < l.length := List.length_pos_iff.2 hne
 have hw := (rdL_facts l hne).1
 obtain ⟨n, hn⟩ : ∃ n, l.length = n + 1 := ⟨l.length - 1, by omega⟩
 unfold pcs
 rw [hn]
 show (if l = [] then [] else _) = _
 rw [if_neg hne, pcsGo_fuel n (l.drop (rdL l).2.1).length _ _ (by rw [List.length_drop]; omega) (Nat.le_refl _)]
theorem pcs_runes : ∀ (n : Nat) (l : List UInt8) (p : Nat), l.length ≤ n → (pcs p l).map (·.2) = runes l
 | 0, l, p, h => by
  obtain rfl : l = [] := List.eq_nil_of_length_eq_zero (by omega)
  rfl
 | n + 1, l, p, h => by
  by_cases hne : l = []
  ·subst hne; rfl
  ·have hw := (rdL_facts l hne).1
   have hl : 0 < l.length := List.length_pos_iff.2 hne
   rw [pcs_step p l hne, runes_step l hne, List.map_cons, pcs_runes n _ _ (by rw [List.length_drop]; omega)]


def zs (l : List UInt8) : List Int := l.map fun b => (b.toNat : Int)
theorem zs_length (l : List UInt8) : (zs l).length = l.length := by simp [zs]
theorem zs_drop (l : List UInt8) (k : Nat) : (zs l).drop k = zs (l.drop k) := by simp [zs]

/-- what 'utf.read' tells at the head of bytes: a premise here, paid in plain Lean elsewhere -/
def ReadTells : Prop := ∀ l : List UInt8, l ≠ [] → ∃ k, utf_read.f k (zs l) = some (((rdL l).1 : Int), ((rdL l).2.1 : Int), ((rdL l).2.2 : Int))

attribute [local go_sem] Oper.semAt_some

set_option maxHeartbeats 4000000 in
set_option maxRecDepth 100000 in
theorem all1_in (hrd : ReadTells) (n : Nat) (hn : 1 ≤ n) (l Bb m0 n0 : Nat) (A : Option Addr) (cap : Nat) (bs : List UInt8) (hlen : bs.length ≤ 140737488355328) (hcap : bs.length ≤ cap) (J Jx : List (Nat × Int) → World → Prop)
  (hJd : ∀ s W W', J s W → Below W.heap.size W W' → J s W')
  (hY : ∀ pre x W, J pre W → pre.length < (pcs 0 bs).length → YieldAt Fence.wide (n - 1) Try.prog l #[.int .i64 (x.1 : Nat), .int .i32 x.2] W fun e W' =>
   (e = .returned (.bool true) ∧ J (pre ++ [x]) W' ∧ Mid m0 n0 W W') ∨ (e = .returned (.bool false) ∧ Jx (pre ++ [x]) W'))
  (W : World) (hBb : m0 ≤ Bb ∧ Bb < n0) (hbox : W.cell? ⟨Bb, 0, none⟩ = some (.slice A bs.length cap)) (hby : BytesAt m0 n0 W A (zs bs)) (h0 : J [] W) :
  CallsIn Fence.wide n Try.prog 80 #[.func (.yield l) #[] #[], .pointer (some ⟨Bb, 0, none⟩)] W fun e W' => (∃ v, e = .returned v) ∧
   ((∃ ys, ys = pcs 0 bs ∧ J ys W') ∨ (∃ pre, pre <+: pcs 0 bs ∧ Jx pre W')) := by
 have HY := Aside0.mk hY
 have HJd := Aside0.mk hJd
 have HBY := Aside0.mk hby
 have HRD := Aside0.mk hrd
 clear hY hJd hby hrd
 obtain ⟨i07, hi07, _, hsz7, _⟩ := info_parts info5
 refine callsIn_of_wp Try.func80 rfl trivial ?_ rfl
 simp only [Try.ntmps80, List.size_toArray, List.length_cons, List.length_nil, Nat.reduceAdd, Nat.reduceSub, Array.replicate_succ, Array.replicate_zero, List.push_toArray, List.append_toArray, List.nil_append, List.cons_append]
 gi_wp2
 gi_loopw [3] (fun at_ wr => ∃ (k : Nat) (pre : List (Nat × Int)), k ≤ bs.length ∧ at_ = .int .i64 k ∧ Aside0 (J pre wr) ∧ Aside0 (pre ++ pcs k (bs.drop k) = pcs 0 bs) ∧ Aside0 (Mid m0 n0 W wr))
  (fun at_ _ => bs.length - (intOf at_).toNat)
 case atStart => exact ⟨0, [], Nat.zero_le _, rfl, ⟨h0⟩, ⟨by simp⟩, ⟨Mid.refl _ _ _⟩⟩
 case round =>
  obtain ⟨k, pre, hk, rfl, hJ, hpre, hbl⟩ := hrel
  have hc : wr.cell? ⟨Bb, 0, none⟩ = some (.slice A bs.length cap) := (hbl.out.cell (p := ⟨Bb, 0, none⟩) hBb.1 hBb.2).trans hbox
  by_cases hlt : k < bs.length
  ·have hne : bs.drop k ≠ [] := by
    intro e
    have := congrArg List.length e
    simp at this
    omega
   have hstep := pcs_step k (bs.drop k) hne
   have hfacts := rdL_facts (bs.drop k) hne
   obtain ⟨kr, hread⟩ := HRD.out (bs.drop k) hne
   have hbyt := HBY.out.mid hbl.out
   obtain ⟨A7, hcut7, hA7, hC7⟩ := print_drop_of (P := Try.prog) (Value.int .u8) 0 34 5 .i64 Try.underlying34 hi07 hsz7 A cap (zs bs) (k : Int) (by omega) (by rw [zs_length]; omega) (by rw [zs_length]; exact hcap)
   have hC := Aside0.mk (Kd.C_of_reads (h1 := fun _ => rfl) (hA7 wr (Kd.reads_of_C (d := (0 : Int)) hbyt.C)))
   clear hA7 hbyt
   simp only [Int.toNat_natCast, zs_drop] at hcut7 hC hC7
   generalize zs (bs.drop k) = Z at hcut7 hC hC7 hread
   rw [zs_length] at hcut7
   have hmk : k + (rdL (bs.drop k)).2.1 ≤ bs.length := by
    have := hfacts.2.1
    rw [List.length_drop] at this
    omega
   have hm1 := hfacts.1
   clear hfacts hne
   have hpl : pre.length < (pcs 0 bs).length := by
    rw [← hpre.out, hstep]
    simp
   have hpre2 : (pre ++ [(k, ((rdL (bs.drop k)).1 : Int))]) ++ pcs (k + (rdL (bs.drop k)).2.1) (bs.drop (k + (rdL (bs.drop k)).2.1)) = pcs 0 bs := by
    rw [← hpre.out, hstep, List.append_assoc, List.drop_drop]
    rfl
   have HP2 := Aside0.mk hpre2
   have HPL := Aside0.mk hpl
   clear hstep hpre2 hpl hpre
   generalize rdL (bs.drop k) = q at hread hmk hm1 HP2
   obtain ⟨q1, q2, q3⟩ := q
   dsimp only at hread hmk hm1 HP2
   have HREAD := Aside0.mk hread
   have HC7 := Aside0.mk hC7
   clear hread hC7
   have hw3 : IntKind.i64.wrap ((k : Int) + (q2 : Int)) = (k : Int) + (q2 : Int) := IntWalk.i64_in _ (by omega)
   gi_wp2_with (refine ⟨trivial, ?_⟩; gi_at_call 81; refine (callsIn_wide.2 (utf_read.calls kr _ _ Z _ _ _ _ hC.out HC7.out HREAD.out)).mono ?_; rintro e w' ⟨rfl, hdr⟩; obtain ⟨md, rfl⟩ := hdr.out; obtain ⟨fn, tmps, assign, body, hy, hR⟩ := HY.out pre (k, (q1 : Int)) _ (HJd.out _ _ _ hJ.out (pw_below_drewN (Below.refl _ _) md)) HPL.out; dsimp only at hy)
   refine hR.mono ?_
   rintro e W3 (⟨rfl, hJ3, hk3⟩ | ⟨rfl, hJx3⟩)
   ·have HJ3 := Aside0.mk hJ3
    have HK3 := Aside0.mk hk3
    clear hJ3 hk3
    gi_wp2
    go_roundw
    case rel => exact ⟨k + q2, pre ++ [(k, (q1 : Int))], hmk, by go_num, HJ3, HP2, ⟨(hbl.out.drewN md).trans HK3.out⟩⟩
    case measure => simp [intOf]; omega
   ·have HJx3 := Aside0.mk hJx3
    clear hJx3
    gi_wp2
    refine bodyPost_ret (results_none rfl _ _ _) rfl ?_
    exact ⟨⟨_, rfl⟩, .inr ⟨pre ++ [(k, (q1 : Int))], ⟨_, HP2.out⟩, HJx3.out⟩⟩
  ·obtain rfl : k = bs.length := by omega
   gi_wp2
   go_end0
   exact ⟨⟨_, rfl⟩, .inl ⟨pre, by have := hpre.out; simpa [pcs_nil] using this, hJ.out⟩⟩

theorem all_stops (hrd : ReadTells) (n : Nat) (hn : 1 ≤ n) (Bb m0 n0 : Nat) (A : Option Addr) (cap : Nat) (bs : List UInt8) (hlen : bs.length ≤ 140737488355328) (hcap : bs.length ≤ cap) (w : World)
  (hBb : m0 ≤ Bb ∧ Bb < n0) (hn0 : n0 ≤ w.heap.size) (hbox : w.cell? ⟨Bb, 0, none⟩ = some (.slice A bs.length cap)) (hby : BytesAt m0 n0 w A (zs bs)) :
  SeqStopsK Fence.wide n Try.prog 80 #[.pointer (some ⟨Bb, 0, none⟩)] (fun x : Nat × Int => #[Value.int .i64 (x.1 : Nat), Value.int .i32 x.2]) (Mid m0 n0) (fun ys => ys = pcs 0 bs) (fun pre => pre <+: pcs 0 bs) (pcs 0 bs).length w :=
 fun l J Jx W hW hJ _ hY h0 => all1_in hrd n hn l Bb m0 n0 A cap bs hlen hcap J Jx (fun s W1 W2 hs hb => hJ s W1 W2 none hs (grown_of_below hb none) (fun r e => by cases e)) hY W hBb
  ((hW.cell (p := ⟨Bb, 0, none⟩) (by show Bb < _; omega)).trans hbox) (hby.mid (Mid.below (hW.mono hn0))) h0
end Go.Proofs.Ythmbbkbmlnaghaa.P
end
section
/-
 utf.read, in plain Lean: what the printed function tells is 'rdL'.
-/
namespace Go.Proofs.Ythmbbkbmlnaghaa.P
open Go.RowKit Go.Proofs.YthmbbkbmlnaghaaW.PrintWords Go.Proofs.YthmbbkbmlnaghaaW.PrintLast Go.Proofs.YthmbbkbmlnaghaaW.PrintMore
set_option linter.unusedVariables false
set_option linter.unusedSimpArgs false

def bdN (b : Nat) : Int × Int × Int :=
 if b < 128 then (0, 0, 0) else if b < 194 then (-1, 0, 0) else if b < 224 then (1, 128, 191) else if b = 224 then (2, 160, 191)
 else if b = 237 then (2, 128, 159) else if b < 240 then (2, 128, 191) else if b = 240 then (3, 144, 191) else if b < 244 then (3, 128, 191)
 else if b = 244 then (3, 128, 143) else (-1, 0, 0)
theorem bd_all : ∀ b : Fin 256, utf_bounds.f 9 ((b.val : Nat) : Int) = some (bdN b.val) := by decide +kernel
theorem and_all : ∀ b : Fin 256, Go.bits .and .u8 ((b.val : Nat) : Int) 63 = ((b.val % 64 : Nat) : Int) := by decide +kernel
theorem and_1 : ∀ b : Fin 256, Go.bits .and .i32 (wrap32 ((b.val : Nat) : Int)) (shr .i32 63 1) = ((b.val % 32 : Nat) : Int) := by decide +kernel
theorem and_2 : ∀ b : Fin 256, Go.bits .and .i32 (wrap32 ((b.val : Nat) : Int)) (shr .i32 63 2) = ((b.val % 16 : Nat) : Int) := by decide +kernel
theorem and_3 : ∀ b : Fin 256, Go.bits .and .i32 (wrap32 ((b.val : Nat) : Int)) (shr .i32 63 3) = ((b.val % 8 : Nat) : Int) := by decide +kernel

theorem i32_or_nat (a b : Nat) (ha : a < 2147483648) (hb : b < 2147483648) : Go.bits .or .i32 (a : Int) (b : Int) = ((a ||| b : Nat) : Int) := by
 have hab : a ||| b < 2147483648 := Nat.or_lt_two_pow (n := 31) ha hb
 have e : (BitVec.ofInt 32 (a : Int) ||| BitVec.ofInt 32 (b : Int)).toNat = a ||| b := by
  rw [BitVec.toNat_or, Go.ofInt_u32 a (by omega), Go.ofInt_u32 b (by omega)]
 have e0 : Go.bits .or .i32 (a : Int) (b : Int) = IntKind.i32.wrap (((BitVec.ofInt 32 (a : Int) ||| BitVec.ofInt 32 (b : Int)).toNat : Nat) : Int) := rfl
 rw [e0, e, i32_w]
 unfold wrap32
 omega
theorem or_add (x y : Nat) (hy : y < 64) : (x * 64) ||| y = x * 64 + y := nat_join 6 _ _ (by omega) (by simpa using hy)
theorem orL (x b : Nat) (hx : x < 33554432) (hb : b < 256) :
  Go.bits .or .i32 (wrap32 ((x : Int) * 64)) (wrap32 (Go.bits .and .u8 (b : Int) 63)) = ((x * 64 + b % 64 : Nat) : Int) := by
 have h1 := and_all ⟨b, hb⟩
 simp only at h1
 rw [h1]
 have e1 : wrap32 ((x : Int) * 64) = ((x * 64 : Nat) : Int) := by unfold wrap32; omega
 have e2 : wrap32 ((b % 64 : Nat) : Int) = ((b % 64 : Nat) : Int) := by unfold wrap32; omega
 rw [e1, e2, i32_or_nat _ _ (by omega) (by omega), or_add _ _ (by omega)]
theorem rd_zs (l : List UInt8) (i : Nat) : rd (zs l) (i : Int) = ((l.getD i 0).toNat : Int) := by
 unfold rd zs
 simp only [Int.toNat_natCast, List.getD_eq_getElem?_getD, List.getElem?_map]
 cases l[i]? <;> simp

theorem l0_go (k : Nat) (l : List UInt8) (m lo hi x i : Nat) (hi' : i ≤ l.length) (hi4 : i ≤ 4) (hm : m ≤ 4) (hx : x < 33554432) :
  utf_read.l0 (k + 1) (zs l) m lo hi x i = if m < i then some ((x : Int), ((m + 1 : Nat) : Int), 0) else if i = l.length then some (65533, (i : Int), 2)
   else if (l.getD i 0).toNat < lo then some (65533, (i : Int), 1) else if hi < (l.getD i 0).toNat then some (65533, (i : Int), 1)
   else utf_read.l0 k (zs l) m (128 : Nat) (191 : Nat) ((x * 64 + (l.getD i 0).toNat % 64 : Nat) : Int) ((i + 1 : Nat) : Int) := by
 rw [utf_read.l0, rd_zs, zs_length, orL x _ hx (UInt8.toNat_lt _)]
 have e1 : wrap64 ((i : Int) + 1) = ((i + 1 : Nat) : Int) := by unfold wrap64; omega
 have e2 : wrap64 ((m : Int) + 1) = ((m + 1 : Nat) : Int) := by unfold wrap64; omega
 rw [e1, e2]
 by_cases c1 : m < i
 ·rw [if_neg (by omega), if_pos c1]
 rw [if_pos (by omega), if_neg c1]
 by_cases c2 : i = l.length
 ·rw [if_pos (by omega), if_pos c2]
 rw [if_neg (by omega), if_neg c2, if_pos (by omega), if_pos (by omega)]
 by_cases c3 : (l.getD i 0).toNat < lo
 ·rw [if_pos (by omega), if_pos c3]
 rw [if_neg (by omega), if_neg c3]
 by_cases c4 : hi < (l.getD i 0).toNat
 ·rw [if_pos (by omega), if_pos c4]
 rw [if_neg (by omega), if_neg c4]
 rfl

theorem read_tells : ReadTells := by
 intro l hne
 refine ⟨9, ?_⟩
 have hl : 0 < l.length := List.length_pos_iff.2 hne
 have q0 := (l.getD 0 0).toNat_lt
 have q1 := (l.getD 1 0).toNat_lt
 have q2 := (l.getD 2 0).toNat_lt
 have q3 := (l.getD 3 0).toNat_lt
 have hb := bd_all ⟨_, q0⟩
 have h1 := and_1 ⟨_, q0⟩
 have h2 := and_2 ⟨_, q0⟩
 have h3 := and_3 ⟨_, q0⟩
 simp only at hb h1 h2 h3
 have e0 : rd (zs l) 0 = ((l.getD 0 0).toNat : Int) := rd_zs l 0
 unfold utf_read.f
 rw [zs_length, if_pos (by omega), e0, hb]
 show (if (bdN _).1 < 0 then _ else _) = _
 unfold rdL rdN
 by_cases c0 : (l.getD 0 0).toNat < 128
 ·have eb : bdN (l.getD 0 0).toNat = (0, 0, 0) := by unfold bdN; rw [if_pos c0]
  rw [eb, if_pos c0, if_neg (by decide), if_pos rfl]
  have : wrap32 (((l.getD 0 0).toNat : Nat) : Int) = ((l.getD 0 0).toNat : Int) := by unfold wrap32; omega
  rw [this]
  rfl
 rw [if_neg c0]
 by_cases c1 : (l.getD 0 0).toNat < 194
 ·have eb : bdN (l.getD 0 0).toNat = (-1, 0, 0) := by unfold bdN; rw [if_neg c0, if_pos c1]
  rw [eb, if_pos c1, if_pos (by decide)]
  rfl
 rw [if_neg c1]
 by_cases c2 : (l.getD 0 0).toNat < 224
 ·have eb : bdN (l.getD 0 0).toNat = (1, 128, 191) := by unfold bdN; rw [if_neg c0, if_neg c1, if_pos c2]
  rw [eb, if_pos c2, if_neg (by decide), if_neg (by decide), if_pos (by decide), h1]
  have g := l0_go 8 l 1 128 191 ((l.getD 0 0).toNat % 32) 1 (by omega) (by omega) (by omega) (by omega)
  refine Eq.trans g ?_
  rw [if_neg (by omega)]
  by_cases d1 : l.length ≤ 1
  ·rw [if_pos (by omega), if_pos d1]; rfl
  rw [if_neg (by omega), if_neg d1]
  by_cases d2 : (l.getD 1 0).toNat < 128
  ·rw [if_pos d2, if_pos (by omega)]; rfl
  rw [if_neg d2]
  by_cases d3 : 191 < (l.getD 1 0).toNat
  ·rw [if_pos d3, if_pos (by omega)]; rfl
  rw [if_neg d3, if_neg (by omega), l0_go 7 l 1 128 191 _ 2 (by omega) (by omega) (by omega) (by omega), if_pos (by omega)]
  rfl
 rw [if_neg c2]
 by_cases c3 : (l.getD 0 0).toNat < 240
 ·obtain ⟨lo, hi, eb, hlh⟩ : ∃ lo hi : Nat, bdN (l.getD 0 0).toNat = (2, (lo : Int), (hi : Int)) ∧
    (((l.getD 1 0).toNat < lo ∨ hi < (l.getD 1 0).toNat) ↔ ((l.getD 1 0).toNat < 128 ∨ 191 < (l.getD 1 0).toNat ∨ ((l.getD 0 0).toNat = 224 ∧ (l.getD 1 0).toNat < 160) ∨ ((l.getD 0 0).toNat = 237 ∧ 159 < (l.getD 1 0).toNat))) := by
   unfold bdN
   rw [if_neg c0, if_neg c1, if_neg c2]
   by_cases f1 : (l.getD 0 0).toNat = 224
   ·exact ⟨160, 191, by rw [if_pos f1]; rfl, by omega⟩
   by_cases f2 : (l.getD 0 0).toNat = 237
   ·exact ⟨128, 159, by rw [if_neg f1, if_pos f2]; rfl, by omega⟩
   exact ⟨128, 191, by rw [if_neg f1, if_neg f2, if_pos c3]; rfl, by omega⟩
  rw [eb, if_pos c3, if_neg (show ¬ ((2 : Int) < 0) by decide), if_neg (show ¬ ((2 : Int) = 0) by decide), if_pos (show (0 : Int) ≤ 2 by decide), h2]
  have g := l0_go 8 l 2 lo hi ((l.getD 0 0).toNat % 16) 1 (by omega) (by omega) (by omega) (by omega)
  refine Eq.trans g ?_
  rw [if_neg (by omega)]
  by_cases d1 : l.length ≤ 1
  ·rw [if_pos (by omega), if_pos d1]; rfl
  rw [if_neg (by omega), if_neg d1]
  by_cases d2 : (l.getD 1 0).toNat < lo
  ·rw [if_pos d2, if_pos (hlh.1 (.inl d2))]; rfl
  rw [if_neg d2]
  by_cases d3 : hi < (l.getD 1 0).toNat
  ·rw [if_pos d3, if_pos (hlh.1 (.inr d3))]; rfl
  rw [if_neg d3, if_neg (fun h => (hlh.2 h).elim d2 d3), l0_go 7 l 2 128 191 _ 2 (by omega) (by omega) (by omega) (by omega), if_neg (by omega)]
  by_cases d4 : l.length ≤ 2
  ·rw [if_pos (by omega), if_pos d4]; rfl
  rw [if_neg (by omega), if_neg d4]
  by_cases d5 : (l.getD 2 0).toNat < 128
  ·rw [if_pos d5, if_pos (by omega)]; rfl
  rw [if_neg d5]
  by_cases d6 : 191 < (l.getD 2 0).toNat
  ·rw [if_pos d6, if_pos (by omega)]; rfl
  rw [if_neg d6, if_neg (by omega), l0_go 6 l 2 128 191 _ 3 (by omega) (by omega) (by omega) (by omega), if_pos (by omega)]
  refine congrArg some (Prod.ext ?_ rfl)
  show (_ : Int) = ((_ : Nat) : Int)
  omega
 rw [if_neg c3]
 by_cases c4 : (l.getD 0 0).toNat < 245
 ·obtain ⟨lo, hi, eb, hlh⟩ : ∃ lo hi : Nat, bdN (l.getD 0 0).toNat = (3, (lo : Int), (hi : Int)) ∧
    (((l.getD 1 0).toNat < lo ∨ hi < (l.getD 1 0).toNat) ↔ ((l.getD 1 0).toNat < 128 ∨ 191 < (l.getD 1 0).toNat ∨ ((l.getD 0 0).toNat = 240 ∧ (l.getD 1 0).toNat < 144) ∨ ((l.getD 0 0).toNat = 244 ∧ 143 < (l.getD 1 0).toNat))) := by
   unfold bdN
   rw [if_neg c0, if_neg c1, if_neg c2, if_neg (by omega : ¬ (l.getD 0 0).toNat = 224), if_neg (by omega : ¬ (l.getD 0 0).toNat = 237), if_neg c3]
   by_cases f1 : (l.getD 0 0).toNat = 240
   ·exact ⟨144, 191, by rw [if_pos f1]; rfl, by omega⟩
   by_cases f2 : (l.getD 0 0).toNat < 244
   ·exact ⟨128, 191, by rw [if_neg f1, if_pos f2]; rfl, by omega⟩
   exact ⟨128, 143, by rw [if_neg f1, if_neg f2, if_pos (by omega)]; rfl, by omega⟩
  rw [eb, if_pos c4, if_neg (show ¬ ((3 : Int) < 0) by decide), if_neg (show ¬ ((3 : Int) = 0) by decide), if_pos (show (0 : Int) ≤ 3 by decide), h3]
  have g := l0_go 8 l 3 lo hi ((l.getD 0 0).toNat % 8) 1 (by omega) (by omega) (by omega) (by omega)
  refine Eq.trans g ?_
  rw [if_neg (by omega)]
  by_cases d1 : l.length ≤ 1
  ·rw [if_pos (by omega), if_pos d1]; rfl
  rw [if_neg (by omega), if_neg d1]
  by_cases d2 : (l.getD 1 0).toNat < lo
  ·rw [if_pos d2, if_pos (hlh.1 (.inl d2))]; rfl
  rw [if_neg d2]
  by_cases d3 : hi < (l.getD 1 0).toNat
  ·rw [if_pos d3, if_pos (hlh.1 (.inr d3))]; rfl
  rw [if_neg d3, if_neg (fun h => (hlh.2 h).elim d2 d3), l0_go 7 l 3 128 191 _ 2 (by omega) (by omega) (by omega) (by omega), if_neg (by omega)]
  by_cases d4 : l.length ≤ 2
  ·rw [if_pos (by omega), if_pos d4]; rfl
  rw [if_neg (by omega), if_neg d4]
  by_cases d5 : (l.getD 2 0).toNat < 128
  ·rw [if_pos d5, if_pos (by omega)]; rfl
  rw [if_neg d5]
  by_cases d6 : 191 < (l.getD 2 0).toNat
  ·rw [if_pos d6, if_pos (by omega)]; rfl
  rw [if_neg d6, if_neg (by omega), l0_go 6 l 3 128 191 _ 3 (by omega) (by omega) (by omega) (by omega), if_neg (by omega)]
  by_cases d7 : l.length ≤ 3
  ·rw [if_pos (by omega), if_pos d7]; rfl
  rw [if_neg (by omega), if_neg d7]
  by_cases d8 : (l.getD 3 0).toNat < 128
  ·rw [if_pos d8, if_pos (by omega)]; rfl
  rw [if_neg d8]
  by_cases d9 : 191 < (l.getD 3 0).toNat
  ·rw [if_pos d9, if_pos (by omega)]; rfl
  rw [if_neg d9, if_neg (by omega), l0_go 5 l 3 128 191 _ 4 (by omega) (by omega) (by omega) (by omega), if_pos (by omega)]
  refine congrArg some (Prod.ext ?_ rfl)
  show (_ : Int) = ((_ : Nat) : Int)
  omega
 ·have eb : bdN (l.getD 0 0).toNat = (-1, 0, 0) := by
   unfold bdN
   rw [if_neg c0, if_neg c1, if_neg c2, if_neg (by omega), if_neg (by omega), if_neg c3, if_neg (by omega), if_neg (by omega), if_neg (by omega)]
  rw [eb, if_neg c4, if_pos (by decide)]
  rfl
end Go.Proofs.Ythmbbkbmlnaghaa.P
end
section
/-
  The document's answer for bytes and runes, in plain Lean: its runes are 'runes', its text is 'text'.
-/
namespace Go.Proofs.Ythmbbkbmlnaghaa.P
open Go.RowKit Go.Proofs.YthmbbkbmlnaghaaW.PrintWords Go.Proofs.YthmbbkbmlnaghaaW.PrintLast Go.Proofs.YthmbbkbmlnaghaaW.PrintMore
set_option linter.unusedVariables false
set_option linter.unusedSimpArgs false

abbrev Pc := S71
def sizeN (b : Nat) : Nat := if b < 128 then 1 else if b < 194 then 0 else if b < 224 then 2 else if b < 240 then 3 else if b < 245 then 4 else 0
theorem size_all : ∀ b : Fin 256, sieveref01_size.f 9 ((b.val : Nat) : Int) = some ((sizeN b.val : Nat) : Int) := by decide +kernel
theorem size_f (k b : Nat) (h : b < 256) : sieveref01_size.f (k + 2) (b : Int) = some ((sizeN b : Nat) : Int) :=
  (show sieveref01_size.f (k + 2) (b : Int) = sieveref01_size.f 9 (b : Int) from rfl).trans (size_all ⟨b, h⟩)
def secN (c d : Nat) : Bool := decide (¬ (d < 128 ∨ 191 < d ∨ (c = 224 ∧ d < 160) ∨ (c = 237 ∧ 159 < d) ∨ (c = 240 ∧ d < 144) ∨ (c = 244 ∧ 143 < d)))
theorem second_f (c d : Nat) : sieveref01_second.f (c : Int) (d : Int) = some (secN c d) := by
  unfold sieveref01_second.f secN
  by_cases h1 : c = 224
  · rw [if_pos (by omega)]
    by_cases h : d ≥ 160
    · rw [if_pos (by omega)]
      congr 1
      rw [decide_eq_decide]
      omega
    · rw [if_neg (by omega)]
      congr 1
      symm
      rw [decide_eq_false_iff_not]
      omega
  rw [if_neg (by omega)]
  by_cases h2 : c = 237
  · rw [if_pos (by omega)]
    by_cases h : d ≥ 128
    · rw [if_pos (by omega)]
      congr 1
      rw [decide_eq_decide]
      omega
    · rw [if_neg (by omega)]
      congr 1
      symm
      rw [decide_eq_false_iff_not]
      omega
  rw [if_neg (by omega)]
  by_cases h3 : c = 240
  · rw [if_pos (by omega)]
    by_cases h : d ≥ 144
    · rw [if_pos (by omega)]
      congr 1
      rw [decide_eq_decide]
      omega
    · rw [if_neg (by omega)]
      congr 1
      symm
      rw [decide_eq_false_iff_not]
      omega
  rw [if_neg (by omega)]
  by_cases h4 : c = 244
  · rw [if_pos (by omega)]
    by_cases h : d ≥ 128
    · rw [if_pos (by omega)]
      congr 1
      rw [decide_eq_decide]
      omega
    · rw [if_neg (by omega)]
      congr 1
      symm
      rw [decide_eq_false_iff_not]
      omega
  rw [if_neg (by omega)]
  by_cases h : d ≥ 128
  · rw [if_pos (by omega)]
    congr 1
    rw [decide_eq_decide]
    omega
  · rw [if_neg (by omega)]
    congr 1
    symm
    rw [decide_eq_false_iff_not]
    omega

theorem good_l0 (k : Nat) (l : List UInt8) (n i : Nat) (h1 : 1 ≤ i) (h4 : i ≤ 4) (hn : n ≤ 4) :
    sieveref01_good.l0 (k + 2) (zs l) (n : Int) (i : Int) =
      if i < n ∧ i < l.length then
        (if i = 1 ∧ secN (l.getD 0 0).toNat (l.getD 1 0).toNat = false then some ((i : Int), decide (i = n))
         else if i ≠ 1 ∧ ((l.getD i 0).toNat < 128 ∨ 191 < (l.getD i 0).toNat) then some ((i : Int), decide (i = n))
         else sieveref01_good.l0 k (zs l) (n : Int) ((i + 1 : Nat) : Int))
      else some ((i : Int), decide (i = n)) := by
  have hbd : ((i : Int) == (n : Int)) = decide (i = n) := by rw [Bool.eq_iff_iff, beq_iff_eq, decide_eq_true_iff]; omega
  have e1 : wrap64 ((i : Int) + 1) = ((i + 1 : Nat) : Int) := by unfold wrap64; omega
  rw [sieveref01_good.l0, zs_length]
  by_cases c1 : i < n
  · rw [if_pos (by omega), sieveref01_good.j1, zs_length, hbd, e1]
    by_cases c2 : i < l.length
    · rw [if_pos (by rw [decide_eq_true_iff]; omega), if_pos (show i < n ∧ i < l.length from ⟨c1, c2⟩)]
      by_cases c3 : i = 1
      · subst c3
        have r0 : rd (zs l) 0 = ((l.getD 0 0).toNat : Int) := rd_zs l 0
        have r1 : rd (zs l) 1 = ((l.getD 1 0).toNat : Int) := rd_zs l 1
        rw [if_pos (by omega), if_pos (by omega), if_pos (by omega), r0, r1, second_f, Option.bind_some]
        by_cases c4 : secN (l.getD 0 0).toNat (l.getD 1 0).toNat = true
        · rw [if_pos c4, if_neg (by omega), if_neg (show ¬ (1 = 1 ∧ secN (l.getD 0 0).toNat (l.getD 1 0).toNat = false) from fun h => by rw [c4] at h; cases h.2), if_neg (show ¬ ((1 : Nat) ≠ 1 ∧ _) from fun h => h.1 rfl)]
        · rw [if_neg c4, if_pos (show 1 = 1 ∧ secN (l.getD 0 0).toNat (l.getD 1 0).toNat = false from ⟨rfl, Bool.eq_false_iff.2 c4⟩)]
      · rw [if_neg (by omega), if_pos (by omega), if_pos (by omega), if_pos (by omega), rd_zs, if_neg (show ¬ (i = 1 ∧ _) from fun h => c3 h.1)]
        by_cases c4 : (l.getD i 0).toNat < 128
        · rw [if_pos (by omega), if_pos (show i ≠ 1 ∧ _ from ⟨c3, .inl c4⟩)]
        · rw [if_neg (by omega)]
          by_cases c5 : 191 < (l.getD i 0).toNat
          · rw [if_pos (by omega), if_pos (show i ≠ 1 ∧ _ from ⟨c3, .inr c5⟩)]
          · rw [if_neg (by omega), if_neg (show ¬ (i ≠ 1 ∧ _) from fun h => h.2.elim c4 c5)]
    · rw [if_neg (by rw [decide_eq_true_iff]; omega), if_neg (show ¬ (i < n ∧ i < l.length) from fun h => c2 h.2)]
  · rw [if_neg (by omega), sieveref01_good.j1, hbd, if_neg (by decide), if_neg (show ¬ (i < n ∧ i < l.length) from fun h => c1 h.1)]

/-- how many bytes of the character at the head are good, if it has n -/
def goW (n len b0 b1 b2 b3 : Nat) : Nat :=
  if 1 < n ∧ 1 < len then
    (if b1 < 128 ∨ 191 < b1 ∨ (b0 = 224 ∧ b1 < 160) ∨ (b0 = 237 ∧ 159 < b1) ∨ (b0 = 240 ∧ b1 < 144) ∨ (b0 = 244 ∧ 143 < b1) then 1
     else if 2 < n ∧ 2 < len then
      (if b2 < 128 ∨ 191 < b2 then 2
       else if 3 < n ∧ 3 < len then (if b3 < 128 ∨ 191 < b3 then 3 else 4) else 3)
     else 2)
  else 1
theorem good_go (k : Nat) (l : List UInt8) (n : Nat) (hn : n ≤ 4) :
    sieveref01_good.l0 (k + 8) (zs l) (n : Int) 1 = some ((goW n l.length (l.getD 0 0).toNat (l.getD 1 0).toNat (l.getD 2 0).toNat (l.getD 3 0).toNat : Int), decide (goW n l.length (l.getD 0 0).toNat (l.getD 1 0).toNat (l.getD 2 0).toNat (l.getD 3 0).toNat = n)) := by
  have g1 := good_l0 (k + 6) l n 1 (by omega) (by omega) hn
  have g2 := good_l0 (k + 4) l n 2 (by omega) (by omega) hn
  have g3 := good_l0 (k + 2) l n 3 (by omega) (by omega) hn
  have g4 := good_l0 k l n 4 (by omega) (by omega) hn
  refine Eq.trans g1 ?_
  unfold goW
  have hs : (1 = 1 ∧ secN (l.getD 0 0).toNat (l.getD 1 0).toNat = false) ↔ ((l.getD 1 0).toNat < 128 ∨ 191 < (l.getD 1 0).toNat ∨ ((l.getD 0 0).toNat = 224 ∧ (l.getD 1 0).toNat < 160) ∨ ((l.getD 0 0).toNat = 237 ∧ 159 < (l.getD 1 0).toNat) ∨ ((l.getD 0 0).toNat = 240 ∧ (l.getD 1 0).toNat < 144) ∨ ((l.getD 0 0).toNat = 244 ∧ 143 < (l.getD 1 0).toNat)) := by
    unfold secN
    rw [decide_eq_false_iff_not, Decidable.not_not]
    exact ⟨fun h => h.2, fun h => ⟨rfl, h⟩⟩
  by_cases c1 : 1 < n ∧ 1 < l.length
  · rw [if_pos c1, if_pos c1]
    by_cases d1 : 1 = 1 ∧ secN (l.getD 0 0).toNat (l.getD 1 0).toNat = false
    · rw [if_pos d1, if_pos (hs.1 d1)]
    rw [if_neg d1, if_neg (fun h => d1 (hs.2 h)), if_neg (show ¬ ((1 : Nat) ≠ 1 ∧ _) from fun h => h.1 rfl)]
    refine Eq.trans g2 ?_
    by_cases c2 : 2 < n ∧ 2 < l.length
    · rw [if_pos c2, if_pos c2, if_neg (show ¬ ((2 : Nat) = 1 ∧ _) from fun h => absurd h.1 (by decide))]
      by_cases d2 : (l.getD 2 0).toNat < 128 ∨ 191 < (l.getD 2 0).toNat
      · rw [if_pos d2, if_pos (show (2 : Nat) ≠ 1 ∧ _ from ⟨by decide, d2⟩)]
      rw [if_neg d2, if_neg (show ¬ ((2 : Nat) ≠ 1 ∧ _) from fun h => d2 h.2)]
      refine Eq.trans g3 ?_
      by_cases c3 : 3 < n ∧ 3 < l.length
      · rw [if_pos c3, if_pos c3, if_neg (show ¬ ((3 : Nat) = 1 ∧ _) from fun h => absurd h.1 (by decide))]
        by_cases d3 : (l.getD 3 0).toNat < 128 ∨ 191 < (l.getD 3 0).toNat
        · rw [if_pos d3, if_pos (show (3 : Nat) ≠ 1 ∧ _ from ⟨by decide, d3⟩)]
        rw [if_neg d3, if_neg (show ¬ ((3 : Nat) ≠ 1 ∧ _) from fun h => d3 h.2)]
        refine Eq.trans g4 ?_
        rw [if_neg (by omega)]
      · rw [if_neg c3, if_neg c3]
    · rw [if_neg c2, if_neg c2]
  · rw [if_neg c1, if_neg c1]
theorem goW_facts (n len b0 b1 b2 b3 : Nat) :
    (¬ (1 < n ∧ 1 < len) → goW n len b0 b1 b2 b3 = 1) ∧
    (1 < n ∧ 1 < len → (b1 < 128 ∨ 191 < b1 ∨ (b0 = 224 ∧ b1 < 160) ∨ (b0 = 237 ∧ 159 < b1) ∨ (b0 = 240 ∧ b1 < 144) ∨ (b0 = 244 ∧ 143 < b1)) → goW n len b0 b1 b2 b3 = 1) ∧
    (1 < n ∧ 1 < len → ¬ (b1 < 128 ∨ 191 < b1 ∨ (b0 = 224 ∧ b1 < 160) ∨ (b0 = 237 ∧ 159 < b1) ∨ (b0 = 240 ∧ b1 < 144) ∨ (b0 = 244 ∧ 143 < b1)) →
      (¬ (2 < n ∧ 2 < len) → goW n len b0 b1 b2 b3 = 2) ∧
      (2 < n ∧ 2 < len → (b2 < 128 ∨ 191 < b2) → goW n len b0 b1 b2 b3 = 2) ∧
      (2 < n ∧ 2 < len → ¬ (b2 < 128 ∨ 191 < b2) →
        (¬ (3 < n ∧ 3 < len) → goW n len b0 b1 b2 b3 = 3) ∧
        (3 < n ∧ 3 < len → (b3 < 128 ∨ 191 < b3) → goW n len b0 b1 b2 b3 = 3) ∧
        (3 < n ∧ 3 < len → ¬ (b3 < 128 ∨ 191 < b3) → goW n len b0 b1 b2 b3 = 4))) := by
  unfold goW
  refine ⟨fun h => by rw [if_neg h], fun h h2 => by rw [if_pos h, if_pos h2], fun h h2 => ?_⟩
  rw [if_pos h, if_neg h2]
  refine ⟨fun h => by rw [if_neg h], fun h h2 => by rw [if_pos h, if_pos h2], fun h h2 => ?_⟩
  rw [if_pos h, if_neg h2]
  exact ⟨fun h => by rw [if_neg h], fun h h2 => by rw [if_pos h, if_pos h2], fun h h2 => by rw [if_pos h, if_neg h2]⟩
theorem sizeN_facts (b : Nat) : (b < 128 ∧ sizeN b = 1) ∨ (128 ≤ b ∧ b < 194 ∧ sizeN b = 0) ∨ (194 ≤ b ∧ b < 224 ∧ sizeN b = 2) ∨ (224 ≤ b ∧ b < 240 ∧ sizeN b = 3) ∨ (240 ≤ b ∧ b < 245 ∧ sizeN b = 4) ∨ (245 ≤ b ∧ sizeN b = 0) := by
  unfold sizeN
  by_cases h1 : b < 128
  · rw [if_pos h1]; omega
  rw [if_neg h1]
  by_cases h2 : b < 194
  · rw [if_pos h2]; omega
  rw [if_neg h2]
  by_cases h3 : b < 224
  · rw [if_pos h3]; omega
  rw [if_neg h3]
  by_cases h4 : b < 240
  · rw [if_pos h4]; omega
  rw [if_neg h4]
  by_cases h5 : b < 245
  · rw [if_pos h5]; omega
  rw [if_neg h5]
  omega
theorem sizeN_le (b : Nat) : sizeN b ≤ 4 := by have := sizeN_facts b; omega
def GoodN (z g : Nat) (r : Nat × Nat × Nat) : Prop := r.2.1 = g ∧ (r.2.2 = 0 ↔ g = z)
theorem GoodN.ok {z g x a : Nat} (h : g = a) (hz : a = z) : GoodN z g (x, a, 0) := ⟨h.symm, fun _ => h.trans hz, fun _ => rfl⟩
theorem GoodN.no {z g x a c : Nat} (h : g = a) (hz : a ≠ z) (hc : c ≠ 0) : GoodN z g (x, a, c) := ⟨h.symm, fun e => absurd e hc, fun e => absurd (h.symm.trans e) hz⟩
theorem rdN_good (n b0 b1 b2 b3 : Nat) (hn : 1 ≤ n) (h0 : sizeN b0 ≠ 0) : GoodN (sizeN b0) (goW (sizeN b0) n b0 b1 b2 b3) (rdN n b0 b1 b2 b3) := by
  have f1 := sizeN_facts b0
  have f2 := goW_facts (sizeN b0) n b0 b1 b2 b3
  generalize goW (sizeN b0) n b0 b1 b2 b3 = g at *
  generalize sizeN b0 = z at *
  have F2 := Aside0.mk f2
  clear f2
  unfold rdN
  by_cases c0 : b0 < 128
  · rw [if_pos c0]
    have := F2.out.1 (by omega)
    first | exact GoodN.ok this rfl | exact GoodN.no this (by decide) (by decide) | exact GoodN.ok this (by omega)
  rw [if_neg c0]
  by_cases c1 : b0 < 194
  · omega
  rw [if_neg c1]
  by_cases c2 : b0 < 224
  · rw [if_pos c2]
    have hz : z = 2 := by omega
    subst hz
    by_cases d1 : n ≤ 1
    · rw [if_pos d1]
      have := F2.out.1 (by omega)
      first | exact GoodN.ok this rfl | exact GoodN.no this (by decide) (by decide) | exact GoodN.ok this (by omega)
    rw [if_neg d1]
    by_cases d2 : b1 < 128 ∨ 191 < b1
    · rw [if_pos d2]
      have := F2.out.2.1 (by omega) (by omega)
      first | exact GoodN.ok this rfl | exact GoodN.no this (by decide) (by decide) | exact GoodN.ok this (by omega)
    · rw [if_neg d2]
      have := (F2.out.2.2 (by omega) (by omega)).1 (by omega)
      first | exact GoodN.ok this rfl | exact GoodN.no this (by decide) (by decide) | exact GoodN.ok this (by omega)
  rw [if_neg c2]
  by_cases c3 : b0 < 240
  · rw [if_pos c3]
    have hz : z = 3 := by omega
    subst hz
    by_cases d1 : n ≤ 1
    · rw [if_pos d1]
      have := F2.out.1 (by omega)
      first | exact GoodN.ok this rfl | exact GoodN.no this (by decide) (by decide) | exact GoodN.ok this (by omega)
    rw [if_neg d1]
    by_cases d2 : b1 < 128 ∨ 191 < b1 ∨ (b0 = 224 ∧ b1 < 160) ∨ (b0 = 237 ∧ 159 < b1)
    · rw [if_pos d2]
      have := F2.out.2.1 (by omega) (by omega)
      first | exact GoodN.ok this rfl | exact GoodN.no this (by decide) (by decide) | exact GoodN.ok this (by omega)
    rw [if_neg d2]
    have F3 := Aside0.mk (F2.out.2.2 (by omega) (by omega))
    by_cases d3 : n ≤ 2
    · rw [if_pos d3]
      have := F3.out.1 (by omega)
      first | exact GoodN.ok this rfl | exact GoodN.no this (by decide) (by decide) | exact GoodN.ok this (by omega)
    rw [if_neg d3]
    by_cases d4 : b2 < 128 ∨ 191 < b2
    · rw [if_pos d4]
      have := F3.out.2.1 (by omega) (by omega)
      first | exact GoodN.ok this rfl | exact GoodN.no this (by decide) (by decide) | exact GoodN.ok this (by omega)
    · rw [if_neg d4]
      have := (F3.out.2.2 (by omega) (by omega)).1 (by omega)
      first | exact GoodN.ok this rfl | exact GoodN.no this (by decide) (by decide) | exact GoodN.ok this (by omega)
  rw [if_neg c3]
  by_cases c4 : b0 < 245
  · rw [if_pos c4]
    have hz : z = 4 := by omega
    subst hz
    by_cases d1 : n ≤ 1
    · rw [if_pos d1]
      have := F2.out.1 (by omega)
      first | exact GoodN.ok this rfl | exact GoodN.no this (by decide) (by decide) | exact GoodN.ok this (by omega)
    rw [if_neg d1]
    by_cases d2 : b1 < 128 ∨ 191 < b1 ∨ (b0 = 240 ∧ b1 < 144) ∨ (b0 = 244 ∧ 143 < b1)
    · rw [if_pos d2]
      have := F2.out.2.1 (by omega) (by omega)
      first | exact GoodN.ok this rfl | exact GoodN.no this (by decide) (by decide) | exact GoodN.ok this (by omega)
    rw [if_neg d2]
    have F3 := Aside0.mk (F2.out.2.2 (by omega) (by omega))
    by_cases d3 : n ≤ 2
    · rw [if_pos d3]
      have := F3.out.1 (by omega)
      first | exact GoodN.ok this rfl | exact GoodN.no this (by decide) (by decide) | exact GoodN.ok this (by omega)
    rw [if_neg d3]
    by_cases d4 : b2 < 128 ∨ 191 < b2
    · rw [if_pos d4]
      have := F3.out.2.1 (by omega) (by omega)
      first | exact GoodN.ok this rfl | exact GoodN.no this (by decide) (by decide) | exact GoodN.ok this (by omega)
    rw [if_neg d4]
    have F4 := Aside0.mk (F3.out.2.2 (by omega) (by omega))
    by_cases d5 : n ≤ 3
    · rw [if_pos d5]
      have := F4.out.1 (by omega)
      first | exact GoodN.ok this rfl | exact GoodN.no this (by decide) (by decide) | exact GoodN.ok this (by omega)
    rw [if_neg d5]
    by_cases d6 : b3 < 128 ∨ 191 < b3
    · rw [if_pos d6]
      have := F4.out.2.1 (by omega) (by omega)
      first | exact GoodN.ok this rfl | exact GoodN.no this (by decide) (by decide) | exact GoodN.ok this (by omega)
    · rw [if_neg d6]
      have := F4.out.2.2 (by omega) (by omega)
      first | exact GoodN.ok this rfl | exact GoodN.no this (by decide) (by decide) | exact GoodN.ok this (by omega)
  · omega

/-- what 'good' tells -/
def goodL (l : List UInt8) : Int × Bool := if sizeN (l.getD 0 0).toNat = 0 then (0, false) else (((rdL l).2.1 : Nat), decide ((rdL l).2.2 = 0))
theorem good_f (k : Nat) (l : List UInt8) (hne : l ≠ []) : sieveref01_good.f (k + 8) (zs l) = some (goodL l) := by
  have hl : 0 < l.length := List.length_pos_iff.2 hne
  have q0 := (l.getD 0 0).toNat_lt
  have r0 : rd (zs l) 0 = ((l.getD 0 0).toNat : Int) := rd_zs l 0
  unfold sieveref01_good.f goodL
  rw [zs_length, if_pos (by omega), r0, size_f (k + 6) _ q0, Option.bind_some]
  by_cases h0 : sizeN (l.getD 0 0).toNat = 0
  · rw [if_pos h0, if_pos (by omega)]
  · have h := rdN_good l.length (l.getD 0 0).toNat (l.getD 1 0).toNat (l.getD 2 0).toNat (l.getD 3 0).toNat (by omega) h0
    unfold GoodN at h
    rw [if_neg h0, if_neg (by omega), good_go k l _ (sizeN_le _)]
    unfold rdL
    rw [← h.1]
    congr 2
    rw [decide_eq_decide, h.1]
    exact h.2.symm

/-! ### pieces -/
def piecesGo : Nat → Nat → List UInt8 → List Pc
  | 0, _, _ => []
  | f + 1, p, l => if l = [] then [] else ⟨((rdL l).1 : Nat), (p : Nat), ((rdL l).2.1 : Nat), decide ((rdL l).2.2 = 0)⟩ :: piecesGo f (p + (rdL l).2.1) (l.drop (rdL l).2.1)
theorem piecesGo_runes : ∀ (f p : Nat) (l : List UInt8), (piecesGo f p l).map (fun x => x.f0) = runesGo f l
  | 0, p, l => rfl
  | f + 1, p, l => by
    unfold piecesGo runesGo
    by_cases h : l = []
    · rw [if_pos h, if_pos h]
      rfl
    · rw [if_neg h, if_neg h, List.map_cons, piecesGo_runes f]
theorem piecesGo_len : ∀ (f p : Nat) (l : List UInt8), (piecesGo f p l).length ≤ l.length
  | 0, p, l => Nat.zero_le _
  | f + 1, p, l => by
    unfold piecesGo
    by_cases h : l = []
    · rw [if_pos h]
      exact Nat.zero_le _
    · rw [if_neg h, List.length_cons]
      have := piecesGo_len f (p + (rdL l).2.1) (l.drop (rdL l).2.1)
      have h1 := (rdL_facts l h).1
      have hl : 0 < l.length := List.length_pos_iff.2 h
      rw [List.length_drop] at this
      omega
def ValN (n z b0 b1 b2 b3 : Nat) (r : Nat × Nat × Nat) : Prop :=
  (z = 0 → r.2.1 = 1 ∧ r.2.2 ≠ 0) ∧ (r.2.2 = 0 → r.2.1 = z ∧ 1 ≤ z ∧ z ≤ n ∧
    r.1 = (if z = 1 then b0 else if z = 2 then b0 % 32 * 64 + b1 % 64 else if z = 3 then b0 % 16 * 4096 + b1 % 64 * 64 + b2 % 64 else b0 % 8 * 262144 + b1 % 64 * 4096 + b2 % 64 * 64 + b3 % 64))
theorem rdN_val (n b0 b1 b2 b3 : Nat) (hn : 1 ≤ n) : ValN n (sizeN b0) b0 b1 b2 b3 (rdN n b0 b1 b2 b3) := by
  have f1 := sizeN_facts b0
  generalize sizeN b0 = z at *
  have w1 : ∀ (a : Nat), ValN n 0 b0 b1 b2 b3 (65533, 1, 1) := fun a => ⟨fun _ => ⟨rfl, by decide⟩, fun h => absurd h (by decide)⟩
  have w2 : ∀ (a c : Nat), z ≠ 0 → c ≠ 0 → ValN n z b0 b1 b2 b3 (65533, a, c) := fun a c hz hc => ⟨fun h => absurd h hz, fun h => absurd h hc⟩
  unfold rdN
  by_cases c0 : b0 < 128
  · rw [if_pos c0]
    obtain rfl : z = 1 := by omega
    exact ⟨fun h => absurd h (by decide), fun _ => ⟨rfl, Nat.le_refl _, hn, by rw [if_pos rfl]⟩⟩
  rw [if_neg c0]
  by_cases c1 : b0 < 194
  · rw [if_pos c1]
    obtain rfl : z = 0 := by omega
    exact w1 0
  rw [if_neg c1]
  by_cases c2 : b0 < 224
  · rw [if_pos c2]
    obtain rfl : z = 2 := by omega
    by_cases d1 : n ≤ 1
    · rw [if_pos d1]; exact w2 _ _ (by decide) (by decide)
    rw [if_neg d1]
    by_cases d2 : b1 < 128 ∨ 191 < b1
    · rw [if_pos d2]; exact w2 _ _ (by decide) (by decide)
    · rw [if_neg d2]
      exact ⟨fun h => absurd h (by decide), fun _ => ⟨rfl, by decide, by omega, by rw [if_neg (by decide), if_pos rfl]⟩⟩
  rw [if_neg c2]
  by_cases c3 : b0 < 240
  · rw [if_pos c3]
    obtain rfl : z = 3 := by omega
    by_cases d1 : n ≤ 1
    · rw [if_pos d1]; exact w2 _ _ (by decide) (by decide)
    rw [if_neg d1]
    by_cases d2 : b1 < 128 ∨ 191 < b1 ∨ (b0 = 224 ∧ b1 < 160) ∨ (b0 = 237 ∧ 159 < b1)
    · rw [if_pos d2]; exact w2 _ _ (by decide) (by decide)
    rw [if_neg d2]
    by_cases d3 : n ≤ 2
    · rw [if_pos d3]; exact w2 _ _ (by decide) (by decide)
    rw [if_neg d3]
    by_cases d4 : b2 < 128 ∨ 191 < b2
    · rw [if_pos d4]; exact w2 _ _ (by decide) (by decide)
    · rw [if_neg d4]
      exact ⟨fun h => absurd h (by decide), fun _ => ⟨rfl, by decide, by omega, by rw [if_neg (by decide), if_neg (by decide), if_pos rfl]⟩⟩
  rw [if_neg c3]
  by_cases c4 : b0 < 245
  · rw [if_pos c4]
    obtain rfl : z = 4 := by omega
    by_cases d1 : n ≤ 1
    · rw [if_pos d1]; exact w2 _ _ (by decide) (by decide)
    rw [if_neg d1]
    by_cases d2 : b1 < 128 ∨ 191 < b1 ∨ (b0 = 240 ∧ b1 < 144) ∨ (b0 = 244 ∧ 143 < b1)
    · rw [if_pos d2]; exact w2 _ _ (by decide) (by decide)
    rw [if_neg d2]
    by_cases d3 : n ≤ 2
    · rw [if_pos d3]; exact w2 _ _ (by decide) (by decide)
    rw [if_neg d3]
    by_cases d4 : b2 < 128 ∨ 191 < b2
    · rw [if_pos d4]; exact w2 _ _ (by decide) (by decide)
    rw [if_neg d4]
    by_cases d5 : n ≤ 3
    · rw [if_pos d5]; exact w2 _ _ (by decide) (by decide)
    rw [if_neg d5]
    by_cases d6 : b3 < 128 ∨ 191 < b3
    · rw [if_pos d6]; exact w2 _ _ (by decide) (by decide)
    · rw [if_neg d6]
      exact ⟨fun h => absurd h (by decide), fun _ => ⟨rfl, by decide, by omega, by rw [if_neg (by decide), if_neg (by decide), if_neg (by decide)]⟩⟩
  · rw [if_neg c4]
    obtain rfl : z = 0 := by omega
    exact w1 0
theorem tmod_nat (a b : Nat) : Int.tmod (a : Int) (b : Int) = ((a % b : Nat) : Int) := (Int.ofNat_tmod a b).symm
theorem l1_go (k : Nat) (l : List UInt8) (hl : l.length ≤ 1099511627776) (out : List Pc) (p n x i : Nat) (t0 t1 t2 : Int) (b : Bool) (hp : p + n ≤ l.length) (hn : n ≤ 4) (hi : i < n) (hx : x < 33554431) :
    sieveref01_Pieces.l1 (k + 1) (zs l) out (p : Int) (n : Int) (x : Int) (i : Int) t0 t1 t2 b =
      sieveref01_Pieces.l1 k (zs l) out (p : Int) (n : Int) ((x * 64 + (l.getD (p + i) 0).toNat % 64 : Nat) : Int) ((i + 1 : Nat) : Int) t0 t1 t2 b := by
  have q := (l.getD (p + i) 0).toNat_lt
  have e0 : wrap64 ((p : Int) + (i : Int)) = ((p + i : Nat) : Int) := by unfold wrap64; omega
  have e1 : wrap64 ((i : Int) + 1) = ((i + 1 : Nat) : Int) := by clear e0; unfold wrap64; omega
  have e2 : wrap32 ((x : Int) * 64) = ((x * 64 : Nat) : Int) := by clear e0 e1; unfold wrap32; omega
  have e3 : Int.tmod (((l.getD (p + i) 0).toNat : Nat) : Int) 64 = (((l.getD (p + i) 0).toNat % 64 : Nat) : Int) := tmod_nat _ 64
  rw [sieveref01_Pieces.l1, zs_length, if_pos (by omega), e0, if_pos (by omega), if_pos (by omega), rd_zs, e1, e2, wrap32_nat _ (by omega), e3]
  have e4 : wrap32 (((x * 64 : Nat) : Int) + (((l.getD (p + i) 0).toNat % 64 : Nat) : Int)) = ((x * 64 + (l.getD (p + i) 0).toNat % 64 : Nat) : Int) := by
    generalize (l.getD (p + i) 0).toNat = z at *
    clear e0 e1 e2 e3
    unfold wrap32
    omega
  rw [e4]
theorem l1_end (k : Nat) (l : List UInt8) (out : List Pc) (ho : out.length < 4398046511104) (p n x i : Nat) (t0 t1 t2 : Int) (b : Bool) (hi : n ≤ i) :
    sieveref01_Pieces.l1 (k + 1) (zs l) out (p : Int) (n : Int) (x : Int) (i : Int) t0 t1 t2 b = sieveref01_Pieces.l0 k (zs l) (out ++ [⟨(x : Int), t1, t2, b⟩]) (wrap64 ((p : Int) + t2)) := by
  rw [sieveref01_Pieces.l1, if_neg (by omega), if_pos ho]
theorem getD_drop (l : List UInt8) (p i : Nat) : (l.drop p).getD i 0 = l.getD (p + i) 0 := by
  simp [List.getD_eq_getElem?_getD, List.getElem?_drop]
/-- a whole character, byte by byte -/
theorem l1_all (k : Nat) (l : List UInt8) (hl : l.length ≤ 1099511627776) (out : List Pc) (ho : out.length < 4398046511104) (p n : Nat) (hn1 : 1 ≤ n) (hn4 : n ≤ 4) (hp : p + n ≤ l.length) (b0 b1 b2 b3 : Nat) (hb : b0 < 256)
    (e1 : (l.getD (p + 1) 0).toNat = b1) (e2 : (l.getD (p + 2) 0).toNat = b2) (e3 : (l.getD (p + 3) 0).toNat = b3) :
    ∃ j, k ≤ j ∧ (if (n : Int) = 2 then sieveref01_Pieces.j2 (k + 7) (zs l) out (p : Int) (n : Int) ((b0 % 32 : Nat) : Int) 65533 (p : Int) (n : Int) true
      else if (n : Int) = 3 then sieveref01_Pieces.j2 (k + 7) (zs l) out (p : Int) (n : Int) ((b0 % 16 : Nat) : Int) 65533 (p : Int) (n : Int) true
      else if (n : Int) = 4 then sieveref01_Pieces.j2 (k + 7) (zs l) out (p : Int) (n : Int) ((b0 % 8 : Nat) : Int) 65533 (p : Int) (n : Int) true
      else sieveref01_Pieces.j2 (k + 7) (zs l) out (p : Int) (n : Int) (b0 : Int) 65533 (p : Int) (n : Int) true) =
    sieveref01_Pieces.l0 j (zs l) (out ++ [⟨((if n = 1 then b0 else if n = 2 then b0 % 32 * 64 + b1 % 64 else if n = 3 then b0 % 16 * 4096 + b1 % 64 * 64 + b2 % 64 else b0 % 8 * 262144 + b1 % 64 * 4096 + b2 % 64 * 64 + b3 % 64 : Nat) : Int), (p : Int), (n : Int), true⟩]) (wrap64 ((p : Int) + (n : Int))) := by
  have hn : n = 1 ∨ n = 2 ∨ n = 3 ∨ n = 4 := by omega
  rcases hn with rfl | rfl | rfl | rfl
  · have s1 := l1_end (k + 5) l out ho p 1 b0 1 65533 (p : Int) ((1 : Nat) : Int) true (by omega)
    refine ⟨k + 5, by omega, ?_⟩
    rw [if_neg (by decide), if_neg (by decide), if_neg (by decide), if_pos rfl, sieveref01_Pieces.j2]
    exact s1
  · have s1 := l1_go (k + 5) l hl out p 2 (b0 % 32) 1 65533 (p : Int) ((2 : Nat) : Int) true hp (by omega) (by omega) (by omega)
    have s2 := l1_end (k + 4) l out ho p 2 (b0 % 32 * 64 + b1 % 64) 2 65533 (p : Int) ((2 : Nat) : Int) true (by omega)
    rw [e1] at s1
    refine ⟨k + 4, by omega, ?_⟩
    rw [if_pos (by decide), if_neg (by decide), if_pos rfl, sieveref01_Pieces.j2]
    exact s1.trans s2
  · have s1 := l1_go (k + 5) l hl out p 3 (b0 % 16) 1 65533 (p : Int) ((3 : Nat) : Int) true hp (by omega) (by omega) (by omega)
    have s2 := l1_go (k + 4) l hl out p 3 (b0 % 16 * 64 + b1 % 64) 2 65533 (p : Int) ((3 : Nat) : Int) true hp (by omega) (by omega) (by omega)
    have s3 := l1_end (k + 3) l out ho p 3 ((b0 % 16 * 64 + b1 % 64) * 64 + b2 % 64) 3 65533 (p : Int) ((3 : Nat) : Int) true (by omega)
    rw [e1] at s1
    rw [e2] at s2
    refine ⟨k + 3, by omega, ?_⟩
    rw [if_neg (by decide), if_pos (by decide), if_neg (by decide), if_neg (by decide), if_pos rfl, sieveref01_Pieces.j2, show b0 % 16 * 4096 + b1 % 64 * 64 + b2 % 64 = (b0 % 16 * 64 + b1 % 64) * 64 + b2 % 64 by omega]
    exact s1.trans (s2.trans s3)
  · have s1 := l1_go (k + 5) l hl out p 4 (b0 % 8) 1 65533 (p : Int) ((4 : Nat) : Int) true hp (by omega) (by omega) (by omega)
    have s2 := l1_go (k + 4) l hl out p 4 (b0 % 8 * 64 + b1 % 64) 2 65533 (p : Int) ((4 : Nat) : Int) true hp (by omega) (by omega) (by omega)
    have s3 := l1_go (k + 3) l hl out p 4 ((b0 % 8 * 64 + b1 % 64) * 64 + b2 % 64) 3 65533 (p : Int) ((4 : Nat) : Int) true hp (by omega) (by omega) (by omega)
    have s4 := l1_end (k + 2) l out ho p 4 (((b0 % 8 * 64 + b1 % 64) * 64 + b2 % 64) * 64 + b3 % 64) 4 65533 (p : Int) ((4 : Nat) : Int) true (by omega)
    rw [e1] at s1
    rw [e2] at s2
    rw [e3] at s3
    refine ⟨k + 2, by omega, ?_⟩
    rw [if_neg (by decide), if_neg (by decide), if_pos (by decide), if_neg (by decide), if_neg (by decide), if_neg (by decide), sieveref01_Pieces.j2,
      show b0 % 8 * 262144 + b1 % 64 * 4096 + b2 % 64 * 64 + b3 % 64 = ((b0 % 8 * 64 + b1 % 64) * 64 + b2 % 64) * 64 + b3 % 64 by omega]
    exact s1.trans (s2.trans (s3.trans s4))
/-- one round -/
theorem pieces_step (k : Nat) (l : List UInt8) (hl : l.length ≤ 1099511627776) (out : List Pc) (ho : out.length < 4398046511104) (p : Nat) (hp : p < l.length) :
    ∃ j, k ≤ j ∧ sieveref01_Pieces.l0 (k + 9) (zs l) out (p : Int) = sieveref01_Pieces.l0 j (zs l) (out ++ [⟨((rdL (l.drop p)).1 : Nat), (p : Nat), ((rdL (l.drop p)).2.1 : Nat), decide ((rdL (l.drop p)).2.2 = 0)⟩]) ((p + (rdL (l.drop p)).2.1 : Nat) : Int) := by
  have hne : l.drop p ≠ [] := by
    rw [ne_eq, List.drop_eq_nil_iff]
    omega
  have hf := rdL_facts _ hne
  have hdl : (l.drop p).length = l.length - p := by rw [List.length_drop]
  have hd0 : (zs l).drop p = zs (l.drop p) := by unfold zs; rw [List.map_drop]
  have hv : ValN (l.drop p).length (sizeN ((l.drop p).getD 0 0).toNat) ((l.drop p).getD 0 0).toNat ((l.drop p).getD 1 0).toNat ((l.drop p).getD 2 0).toNat ((l.drop p).getD 3 0).toNat (rdL (l.drop p)) := rdN_val _ _ _ _ _ (by rw [hdl]; omega)
  rw [getD_drop, getD_drop, getD_drop, getD_drop, Nat.add_zero] at hv
  rw [sieveref01_Pieces.l0, zs_length, if_pos (by omega), if_pos (by omega), if_pos (by omega), Int.toNat_natCast, hd0, good_f k _ hne, Option.bind_some]
  unfold goodL
  rw [getD_drop, Nat.add_zero]
  have q0 := (l.getD p 0).toNat_lt
  have hs4 := sizeN_le (l.getD p 0).toNat
  rw [hdl] at hv hf
  have HD := Aside0.mk hd0
  clear hd0
  generalize rdL (l.drop p) = q at *
  obtain ⟨q1, q2, q3⟩ := q
  unfold FactsN at hf
  simp only at hf
  have hf3 := hf.2.2.2.2.2
  have hf1 := hf.1
  have hf2 := hf.2.1
  clear hf
  have hw : wrap64 ((p : Int) + (q2 : Int)) = ((p + q2 : Nat) : Int) := by
    clear hv hf3
    unfold wrap64
    omega
  have HW := Aside0.mk hw
  clear hw
  simp only
  rw [← HW.out]
  by_cases c0 : sizeN (l.getD p 0).toNat = 0
  · obtain ⟨hw1, hw2⟩ := hv.1 c0
    simp only at hw1 hw2
    rw [if_pos c0]
    simp only
    rw [if_pos trivial, sieveref01_Pieces.j1, if_neg (by decide), if_pos ho, decide_eq_false hw2, hf3 hw2, hw1]
    exact ⟨k + 7, by omega, rfl⟩
  · rw [if_neg c0]
    simp only
    rw [if_neg (by omega), sieveref01_Pieces.j1]
    by_cases c1 : q3 = 0
    · obtain ⟨v1, v2, v3, v4⟩ := hv.2 c1
      simp only at v1 v4
      have e32 : Int.tmod (((l.getD p 0).toNat : Nat) : Int) 32 = (((l.getD p 0).toNat % 32 : Nat) : Int) := tmod_nat _ 32
      have e16 : Int.tmod (((l.getD p 0).toNat : Nat) : Int) 16 = (((l.getD p 0).toNat % 16 : Nat) : Int) := tmod_nat _ 16
      have e8 : Int.tmod (((l.getD p 0).toNat : Nat) : Int) 8 = (((l.getD p 0).toNat % 8 : Nat) : Int) := tmod_nat _ 8
      rw [decide_eq_true c1, if_pos rfl, if_pos (by omega), if_pos (by rw [zs_length]; omega), rd_zs, wrap32_nat _ (by omega), e32, e16, e8, v4, ← v1]
      exact l1_all k l hl out ho p q2 (by omega) (by omega) (by omega) (l.getD p 0).toNat _ _ _ q0 rfl rfl rfl
    · rw [decide_eq_false c1, if_neg (by decide), if_pos ho, hf3 c1]
      exact ⟨k + 7, by omega, rfl⟩
theorem pieces_go (l : List UInt8) (hl : l.length ≤ 1099511627776) : ∀ (d p : Nat) (out : List Pc), l.length - p = d → p ≤ l.length → out.length ≤ p →
    ∃ k, sieveref01_Pieces.l0 k (zs l) out (p : Int) = some (out ++ piecesGo (l.length - p) p (l.drop p)) := by
  intro d
  induction d using Nat.strongRecOn with
  | _ d ih =>
    intro p out hd hp hop
    by_cases c : p < l.length
    · have hne : l.drop p ≠ [] := by
        rw [ne_eq, List.drop_eq_nil_iff]
        omega
      have hf := rdL_facts _ hne
      have hdl : (l.drop p).length = l.length - p := by rw [List.length_drop]
      have h1 := hf.1
      have h2 := hf.2.1
      rw [hdl] at h2
      obtain ⟨k, hk⟩ := ih (l.length - (p + (rdL (l.drop p)).2.1)) (by omega) (p + (rdL (l.drop p)).2.1) (out ++ [⟨((rdL (l.drop p)).1 : Nat), (p : Nat), ((rdL (l.drop p)).2.1 : Nat), decide ((rdL (l.drop p)).2.2 = 0)⟩]) rfl (by omega) (by rw [List.length_append, List.length_singleton]; omega)
      obtain ⟨j, hj, e⟩ := pieces_step k l hl out (by omega) p c
      refine ⟨k + 9, ?_⟩
      rw [e, at_rounds (fun k => (sieveref01_Pieces.mono_l k).1 _ _ _) hj hk]
      congr 1
      obtain ⟨f, hf2⟩ : ∃ f, l.length - p = f + 1 := ⟨l.length - p - 1, by omega⟩
      rw [hf2, piecesGo, if_neg hne, List.append_assoc, List.singleton_append, List.drop_drop]
      congr 2
      have : ∀ (f g : Nat) (q : Nat) (m : List UInt8), m.length ≤ f → m.length ≤ g → piecesGo f q m = piecesGo g q m := by
        intro f
        induction f with
        | zero =>
          intro g q m hf hg
          obtain rfl : m = [] := List.eq_nil_of_length_eq_zero (by omega)
          cases g <;> simp [piecesGo]
        | succ f ih =>
          intro g q m hf hg
          cases g with
          | zero =>
            obtain rfl : m = [] := List.eq_nil_of_length_eq_zero (by omega)
            simp [piecesGo]
          | succ g =>
            unfold piecesGo
            by_cases hm : m = []
            · rw [if_pos hm, if_pos hm]
            · have := (rdL_facts m hm).1
              have hml : 0 < m.length := List.length_pos_iff.2 hm
              rw [if_neg hm, if_neg hm, ih g _ _ (by rw [List.length_drop]; omega) (by rw [List.length_drop]; omega)]
      exact this _ _ _ _ (by rw [List.length_drop]; omega) (by rw [List.length_drop]; omega)
    · have e : l.length - p = 0 := by omega
      refine ⟨1, ?_⟩
      rw [sieveref01_Pieces.l0, zs_length, if_neg (by omega), e, piecesGo, List.append_nil]
theorem pieces_f (l : List UInt8) (hl : l.length ≤ 1099511627776) : ∃ k, sieveref01_Pieces.f k (zs l) = some (piecesGo l.length 0 l) := by
  obtain ⟨k, hk⟩ := pieces_go l hl l.length 0 [] (by omega) (by omega) (Nat.le_refl _)
  refine ⟨k, ?_⟩
  unfold sieveref01_Pieces.f
  rw [Nat.sub_zero, List.drop_zero, List.nil_append] at hk
  exact hk
theorem runes_l0 (xs : List Pc) (hx : xs.length ≤ 1099511627776) : ∀ (d i k : Nat) (out : List Int), xs.length - i = d → i ≤ xs.length → out.length = i → d + 1 ≤ k →
    sieveref01_Runes.l0 k out xs (xs.length : Int) (i : Int) = some (out ++ (xs.drop i).map (fun x => x.f0))
  | 0, i, k, out, hd, hi, ho, hk => by
    obtain ⟨k, rfl⟩ : ∃ j, k = j + 1 := ⟨k - 1, by omega⟩
    obtain rfl : i = xs.length := by omega
    rw [sieveref01_Runes.l0, if_neg (by omega), List.drop_length, List.map_nil, List.append_nil]
  | d + 1, i, k, out, hd, hi, ho, hk => by
    obtain ⟨k, rfl⟩ : ∃ j, k = j + 1 := ⟨k - 1, by omega⟩
    have hlt : i < xs.length := by omega
    have e1 : wrap64 ((i : Int) + 1) = ((i + 1 : Nat) : Int) := by unfold wrap64; omega
    have er : rd_T71 xs (i : Int) = xs[i] := by
      unfold rd_T71
      rw [Int.toNat_natCast, List.getD_eq_getElem?_getD, List.getElem?_eq_getElem hlt]
      rfl
    rw [sieveref01_Runes.l0, if_pos (by omega), if_pos (by omega), if_pos (by omega), if_pos (by omega), e1, er, runes_l0 xs hx d (i + 1) k _ (by omega) (by omega) (by rw [List.length_append, List.length_singleton]; omega) (by omega)]
    rw [List.drop_eq_getElem_cons hlt, List.map_cons, List.append_assoc, List.singleton_append]
theorem runes_f (l : List UInt8) (hl : l.length ≤ 1099511627776) : ∃ k, sieveref01_Runes.f k (zs l) = some (runes l) := by
  obtain ⟨k, hk⟩ := pieces_f l hl
  have hlen := piecesGo_len l.length 0 l
  have h2 := runes_l0 (piecesGo l.length 0 l) (by omega) _ 0 (k + (piecesGo l.length 0 l).length + 1) [] rfl (by omega) rfl (by omega)
  refine ⟨k + (piecesGo l.length 0 l).length + 1, ?_⟩
  unfold sieveref01_Runes.f
  rw [at_rounds (sieveref01_Pieces.mono _) (by omega) hk, Option.bind_some]
  refine Eq.trans h2 ?_
  rw [List.nil_append, List.drop_zero, piecesGo_runes]
  rfl

end Go.Proofs.Ythmbbkbmlnaghaa.P
end
section
/-
 The document's answer for bytes and runes, in plain Lean: the text of runes is 'text'.
-/
namespace Go.Proofs.Ythmbbkbmlnaghaa.P
open Go.RowKit Go.Proofs.YthmbbkbmlnaghaaW.PrintWords Go.Proofs.YthmbbkbmlnaghaaW.PrintLast Go.Proofs.YthmbbkbmlnaghaaW.PrintMore
set_option linter.unusedVariables false
set_option linter.unusedSimpArgs false

/-! ### runes to bytes -/
theorem char_f (r : Int) : sieveref01_Char.f r = some (decide (goodR r)) := by
 have hg : goodR r ↔ (0 ≤ r ∧ r < 55296) ∨ (57344 ≤ r ∧ r ≤ 1114111) := Iff.rfl
 unfold sieveref01_Char.f
 by_cases h0 : r ≥ 0
 ·rw [if_pos h0]
  by_cases h1 : r ≤ 1114111
  ·rw [if_pos h1]
   by_cases h2 : r < 55296
   ·rw [if_pos h2, decide_eq_true (hg.2 (by omega))]
   ·rw [if_neg h2]
    congr 1
    rw [decide_eq_decide, hg]
    omega
  ·rw [if_neg h1, decide_eq_false (fun h => by have := hg.1 h; omega)]
 ·rw [if_neg h0, decide_eq_false (fun h => by have := hg.1 h; omega)]
theorem width_f (r : Int) (h : goodR r) : sieveref01_Width.f r = some (if r < 128 then 1 else if r < 2048 then 2 else if r < 65536 then 3 else 4) := by
 unfold sieveref01_Width.f
 rw [char_f, decide_eq_true h, Option.bind_some, if_pos rfl]
 repeat' split
 all_goals rfl
theorem zs_encode (z : List Int) (h : ∀ x ∈ z, 0 ≤ x ∧ x < 256) : zs (z.map fun x => x.toNat.toUInt8) = z := by
 unfold zs
 rw [List.map_map]
 conv => rhs; rw [← List.map_id z]
 refine List.map_congr_left fun x hx => ?_
 have := h x hx
 have e : (x.toNat.toUInt8).toNat = x.toNat % 256 := by simp
 show (((x.toNat.toUInt8).toNat : Nat) : Int) = x
 rw [e]
 omega
theorem tdiv_nat (a b : Nat) : Int.tdiv (a : Int) (b : Int) = ((a / b : Nat) : Int) := (Int.ofNat_tdiv a b).symm
theorem wrap_byte (a b : Nat) (h : a + b < 256) : wrap32 ((a : Int) + (b : Int)) % 256 = (a : Int) + (b : Int) := by unfold wrap32; omega
theorem enc_hi (c r m : Nat) (h : c + r / m < 256) : wrap32 ((c : Int) + wrap32 (Int.tdiv (r : Int) (m : Int))) % 256 = (c : Int) + (r : Int) / (m : Int) := by
 rw [tdiv_nat, wrap32_nat _ (by omega), wrap_byte _ _ h, Int.natCast_ediv]
theorem enc_mid (r m : Nat) (h : r / m < 2147483648) : wrap32 (((128 : Nat) : Int) + Int.tmod (wrap32 (Int.tdiv (r : Int) (m : Int))) ((64 : Nat) : Int)) % 256 = ((128 : Nat) : Int) + (r : Int) / (m : Int) % ((64 : Nat) : Int) := by
 rw [tdiv_nat, wrap32_nat _ h, tmod_nat, wrap_byte _ _ (by omega), Int.natCast_emod, Int.natCast_ediv]
theorem enc_lo (r : Nat) : wrap32 (((128 : Nat) : Int) + Int.tmod (r : Int) ((64 : Nat) : Int)) % 256 = ((128 : Nat) : Int) + (r : Int) % ((64 : Nat) : Int) := by
 rw [tmod_nat, wrap_byte _ _ (by omega), Int.natCast_emod]
theorem bytes_j0 (k : Nat) (r : Nat) (h : goodR (r : Int)) : sieveref01_bytesOf.j0 (k + 1) (r : Int) = some (Lib.encodeRuneZ (r : Int)) := by
 have hr : (r < 55296) ∨ (57344 ≤ r ∧ r ≤ 1114111) := by unfold goodR at h; omega
 rw [sieveref01_bytesOf.j0, width_f _ h, Option.bind_some]
 have lo : wrap32 (128 + Int.tmod (r : Int) 64) % 256 = 128 + (r : Int) % 64 := enc_lo r
 by_cases c1 : r < 128
 ·rw [if_pos (show (r : Int) < 128 by omega), if_pos rfl, Lib.encodeRuneZ_one (by omega) (by omega), show (r : Int) % 256 = r by omega]
 rw [if_neg (show ¬ (r : Int) < 128 by omega)]
 by_cases c2 : r < 2048
 ·have hi : wrap32 (192 + wrap32 (Int.tdiv (r : Int) 64)) % 256 = 192 + (r : Int) / 64 := enc_hi 192 r 64 (by omega)
  rw [if_pos (show (r : Int) < 2048 by omega), if_neg (by decide), if_pos rfl, Lib.encodeRuneZ_two (by omega) (by omega), hi, lo]
 rw [if_neg (show ¬ (r : Int) < 2048 by omega)]
 by_cases c3 : r < 65536
 ·have hi : wrap32 (224 + wrap32 (Int.tdiv (r : Int) 4096)) % 256 = 224 + (r : Int) / 4096 := enc_hi 224 r 4096 (by omega)
  have mi : wrap32 (128 + Int.tmod (wrap32 (Int.tdiv (r : Int) 64)) 64) % 256 = 128 + (r : Int) / 64 % 64 := enc_mid r 64 (by omega)
  rw [if_pos (show (r : Int) < 65536 by omega), if_neg (by decide), if_neg (by decide), if_pos rfl, Lib.encodeRuneZ_three (by omega), hi, mi, lo]
 ·have hi : wrap32 (240 + wrap32 (Int.tdiv (r : Int) 262144)) % 256 = 240 + (r : Int) / 262144 := enc_hi 240 r 262144 (by omega)
  have m2 : wrap32 (128 + Int.tmod (wrap32 (Int.tdiv (r : Int) 4096)) 64) % 256 = 128 + (r : Int) / 4096 % 64 := enc_mid r 4096 (by omega)
  have mi : wrap32 (128 + Int.tmod (wrap32 (Int.tdiv (r : Int) 64)) 64) % 256 = 128 + (r : Int) / 64 % 64 := enc_mid r 64 (by omega)
  rw [if_neg (show ¬ (r : Int) < 65536 by omega), if_neg (by decide), if_neg (by decide), if_neg (by decide), Lib.encodeRuneZ_four (by omega) (by omega), hi, m2, mi, lo]
theorem bytesOf_f (k : Nat) (r : Int) : sieveref01_bytesOf.f (k + 1) r = some (zs (Lib.encodeRune r)) := by
 unfold sieveref01_bytesOf.f Lib.encodeRune
 rw [zs_encode _ (Lib.encodeRuneZ_byte r), char_f, Option.bind_some]
 by_cases h : goodR r
 ·rw [decide_eq_true h, if_pos rfl]
  obtain ⟨n, rfl⟩ : ∃ n : Nat, r = n := ⟨r.toNat, by unfold goodR at h; omega⟩
  exact bytes_j0 k n h
 ·rw [decide_eq_false h, if_neg (by decide)]
  rw [Lib.encodeRuneZ_bad (by unfold goodR at h; omega)]
  exact (bytes_j0 k 65533 (by decide)).trans (by decide)
theorem encode_len (r : Int) : 1 ≤ (Lib.encodeRune r).length ∧ (Lib.encodeRune r).length ≤ 4 := by
 unfold Lib.encodeRune
 rw [List.length_map]
 exact Lib.encodeRuneZ_length r
theorem bytes_l0 (xs : List Int) (hx : xs.length ≤ 4398046511104) : ∀ (d i k : Nat) (out : List UInt8), xs.length - i = d → i ≤ xs.length → out.length ≤ 4 * i → d + 2 ≤ k →
  sieveref01_Bytes.l0 k (zs out) xs (xs.length : Int) (i : Int) = some (zs (out ++ text (xs.drop i)))
 | 0, i, k, out, hd, hi, ho, hk => by
  obtain ⟨k, rfl⟩ : ∃ j, k = j + 1 := ⟨k - 1, by omega⟩
  obtain rfl : i = xs.length := by omega
  rw [sieveref01_Bytes.l0, if_neg (by omega), List.drop_length, text_nil, List.append_nil]
 | d + 1, i, k, out, hd, hi, ho, hk => by
  obtain ⟨k, rfl⟩ : ∃ j, k = j + 2 := ⟨k - 2, by omega⟩
  have hlt : i < xs.length := by omega
  have e1 : wrap64 ((i : Int) + 1) = ((i + 1 : Nat) : Int) := by unfold wrap64; omega
  have er : rd xs (i : Int) = xs[i] := by
   unfold rd
   rw [Int.toNat_natCast, List.getD_eq_getElem?_getD, List.getElem?_eq_getElem hlt]
   rfl
  have hz : zs out ++ zs (Lib.encodeRune xs[i]) = zs (out ++ Lib.encodeRune xs[i]) := by unfold zs; rw [List.map_append]
  have h4 := (encode_len xs[i]).2
  rw [sieveref01_Bytes.l0, if_pos (by omega), if_pos (by omega), if_pos (by omega), er, bytesOf_f, Option.bind_some, zs_length, zs_length, if_pos (by omega), hz, e1,
   bytes_l0 xs hx d (i + 1) (k + 1) _ (by omega) (by omega) (by rw [List.length_append]; omega) (by omega)]
  rw [List.drop_eq_getElem_cons hlt, text_cons, List.append_assoc]
theorem text_f (xs : List Int) (hx : xs.length ≤ 4398046511104) (k : Nat) (hk : xs.length + 2 ≤ k) : sieveref01_Text.f k xs = some ⟨(text xs).toArray⟩ := by
 unfold sieveref01_Text.f sieveref01_Bytes.f
 have h := bytes_l0 xs hx xs.length 0 k [] (by omega) (by omega) (Nat.zero_le _) (by omega)
 rw [show sieveref01_Bytes.l0 k ([] : List Int) xs (xs.length : Int) 0 = some (zs ([] ++ text (xs.drop 0))) from h, Option.bind_some, List.nil_append, List.drop_zero]
 congr 1
 have : zs (text xs) = (text xs).map fun b => (b.toNat : Int) := rfl
 rw [this]
 unfold strOfNums
 rw [List.map_map]
 congr 2
 conv => rhs; rw [← List.map_id (text xs)]
 refine List.map_congr_left fun b _ => ?_
 show UInt8.ofNat ((b.toNat : Int)).toNat = b
 rw [Int.toNat_natCast]
 exact UInt8.ofNat_toNat
end Go.Proofs.Ythmbbkbmlnaghaa.P
end
section
/-
 sieveref01.Mend: the text of the runes of a text's bytes.
-/
namespace Go.Proofs.Ythmbbkbmlnaghaa.P
open Go.RowKit Go.Proofs.YthmbbkbmlnaghaaW.PrintWords Go.Proofs.YthmbbkbmlnaghaaW.PrintLast Go.Proofs.YthmbbkbmlnaghaaW.PrintMore
set_option linter.unusedVariables false
set_option linter.unusedSimpArgs false

def sieveref01_Mend.f (s : ByteArray) : Option ByteArray := if s.size ≤ 1099511627776 then some ⟨(mendL s.data.toList).toArray⟩ else none

theorem runes_len : ∀ (n : Nat) (l : List UInt8), l.length ≤ n → (runes l).length ≤ l.length
 | 0, l, h => by
  obtain rfl : l = [] := List.eq_nil_of_length_eq_zero (by omega)
  exact Nat.le_refl _
 | n + 1, l, h => by
  by_cases hne : l = []
  ·subst hne
   exact Nat.le_refl _
  ·have hw := (rdL_facts l hne).1
   have hl : 0 < l.length := List.length_pos_iff.2 hne
   rw [runes_step l hne, List.length_cons]
   have := runes_len n (l.drop (rdL l).2.1) (by rw [List.length_drop]; omega)
   rw [List.length_drop] at this
   omega
/-- a text's bytes, made: what a call may read -/
theorem bytes_read (w : World) (s : ByteArray) (h : s.size ≤ 140737488355328) : Kd.C (Kd.int .u8) (Lib.bytesWorld w 5 s) (some ⟨w.heap.size, 0, none⟩) (zs s.data.toList).length (zs s.data.toList) := by
 have hz : (zs s.data.toList).length = s.size := by simp [zs]
 rw [hz]
 exact Kd.C_of_reads (enc := Value.int .u8) (d := (0 : Int)) (h1 := fun _ => rfl) ⟨by simp [zs], by omega, fun _ => ⟨_, rfl, fun j hj => by
  rw [add_plain, Lib.bytesWorld_cell w 5 s j hj]
  have := rd_zs s.data.toList j
  unfold rd at this
  rw [Int.toNat_natCast] at this
  rw [this]⟩⟩

set_option maxRecDepth 100000 in
set_option maxHeartbeats 4000000 in
theorem sieveref01_Mend.calls (s : ByteArray) (r : ByteArray) (w : World) (h : sieveref01_Mend.f s = some r) :
  Calls Try.prog 20 #[.string s] w fun e w' => e = .returned (.string r) ∧ Below w.heap.size w w' := by
 unfold sieveref01_Mend.f at h
 by_cases hsz : s.size ≤ 1099511627776
 case neg => rw [if_neg hsz] at h; cases h
 rw [if_pos hsz] at h
 have hr := Option.some.inj h
 clear h
 have HR := Aside0.mk hr
 clear hr
 have hl : s.data.toList.length = s.size := by simp
 have hcv := Lib.run_convert_string_bytes (P := Try.prog) w 9 34 5 s Try.underlying9 Try.underlying34 Try.underlying5
 have hbb := Lib.bytesWorld_below w 5 s
 have hbs := Lib.bytesWorld_size w 5 s
 have hrd := bytes_read w s (by omega)
 have hz : (zs s.data.toList).length = s.size := by simp [zs]
 obtain ⟨k1, hk1⟩ := runes_f s.data.toList (by omega)
 have hrl := runes_len _ s.data.toList (Nat.le_refl _)
 have hk2 := text_f (runes s.data.toList) (by omega) ((runes s.data.toList).length + 2) (Nat.le_refl _)
 have hgc : (zs s.data.toList).length ≤ Go.grownCap w s.size 0 5 := by rw [hz]; exact grownCap_ge _ _ _ _
 have hcall := sieveref01_Runes.calls k1 (some ⟨w.heap.size, 0, none⟩) (Go.grownCap w s.size 0 5) (zs s.data.toList) _ _ hrd hgc hk1
 rw [hz] at hcall
 have HC := Aside0.mk hcall
 have HBB := Aside0.mk hbb
 have HK2 := Aside0.mk hk2
 clear hcall hrd hz hbb hk1 hk2 hrl hl hgc
 go_enter Try.func20, Try.ntmps20
 go_wp2_with (first | (go_at_call 10; refine HC.out.mono ?_; rintro e w2 ⟨v, rfl, hR, hb2⟩; obtain ⟨A2, c2, rfl, hc2, hC2⟩ := Kd.R_reads hR) | (go_at_call 12; refine (sieveref01_Text.calls _ A2 c2 _ _ _ hC2 hc2 HK2.out).mono ?_; rintro e w3 ⟨rfl, hb3⟩))
 go_ret
 refine ⟨?_, (HBB.out.trans (hb2.mono (by omega))).trans (hb3.mono ?_)⟩
 ·rw [← HR.out]
  rfl
 ·have := hb2.size
  omega
end Go.Proofs.Ythmbbkbmlnaghaa.P
end
