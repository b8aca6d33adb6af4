/-
  Part 6 of 7 of the proof's texts, joined: PA6, Lent, Lnamed, Lnum, Lr06n, Lnext, Lagr, Lr06, Lr06b, Lsure, HrepD, HwholeD, Hrunes, Hmend, Hdec.
  (Where a joined text began as one that the kit's print.sh printed, it is trimmed here to what this claim uses, by this session's pack.py.)
-/
import Derived.Test.YthmbbkbmlnaghaaQCharrefDecodes0
import Derived.Test.YthmbbkbmlnaghaaQCharrefDecodes1
import Derived.Test.YthmbbkbmlnaghaaQCharrefDecodes2
import Derived.Test.YthmbbkbmlnaghaaQCharrefDecodes3
import Derived.Test.YthmbbkbmlnaghaaQCharrefDecodes4
import Derived.Lib.Strings
import Derived.Laws.EntriesVeiled
import Derived.Deep.RegionWith
import Derived.Maps.AppendAt
import Derived.Lib.TrimUEq
import Derived.Lib.OthersKept
import Derived.Lib.AtoiErrMem
section
namespace Go.Proofs.Ythmbbkbmlnaghaa.P
open Go.RowKit Go.Proofs.YthmbbkbmlnaghaaW.PrintWords Go.Proofs.YthmbbkbmlnaghaaW.PrintLast Go.Proofs.YthmbbkbmlnaghaaW.PrintMore
attribute [local go_sem] max2_int min2_int max_two min_two max_three min_three max_four min_four   -- for this text's walks alone
set_option linter.unusedVariables false
set_option linter.unusedSimpArgs false

/-! ### sieveref05_Longest: function 63 -/
mutual
def sieveref05_Longest.l0 : Nat → ByteArray → Int → List Int → List (S64) → Int → Int → Option (Int × List Int)
 | 0, _, _, _, _, _, _ => none
 | k + 1, x0, x4, x5, x9, x10, x11 => if x11 < x10 then (if 0 ≤ x11 then (if x11 < (x9.length : Int) then ((sieveref05_Prefix.f x0 ((rd_T64 x9 x11).f0)).bind fun t229 => (if t229 = true then (if (rd_T64 x9 x11).f3 = true then (sieveref05_Longest.j1 k x0 x4 x5 (((rd_T64 x9 x11).f0).size : Int) x9 x10 x11 (decide ((((rd_T64 x9 x11).f0).size : Int) > x4)) ((rd_T64 x9 x11).f0) ((rd_T64 x9 x11).f1) ((rd_T64 x9 x11).f2) ((rd_T64 x9 x11).f3)) else (sieveref05_Longest.j1 k x0 x4 x5 (((rd_T64 x9 x11).f0).size : Int) x9 x10 x11 false ((rd_T64 x9 x11).f0) ((rd_T64 x9 x11).f1) ((rd_T64 x9 x11).f2) ((rd_T64 x9 x11).f3))) else (sieveref05_Longest.l0 k x0 x4 x5 x9 x10 (wrap64 (x11 + 1))))) else (none)) else (none)) else (some (x4, x5))
def sieveref05_Longest.j1 : Nat → ByteArray → Int → List Int → Int → List (S64) → Int → Int → Bool → ByteArray → Int → Int → Bool → Option (Int × List Int)
 | 0, _, _, _, _, _, _, _, _, _, _, _, _ => none
 | k + 1, x0, x4, x5, x8, x9, x10, x11, x29, x229000, x229001, x229002, x229003 => if x29 = true then ((sieveref05_says.f x229000 x229001 x229002 x229003).bind fun t230 => (if x8 < (x0.size : Int) then (if 0 ≤ x8 then (if (bt x0 x8) = 59 then (if (wrap64 (x8 + 1)) > x8 then ((sieveref05_says.f x229000 x229001 x229002 x229003).bind fun t233 => (sieveref05_Longest.l0 k x0 (wrap64 (x8 + 1)) t233 x9 x10 (wrap64 (x11 + 1)))) else (sieveref05_Longest.l0 k x0 x8 t230 x9 x10 (wrap64 (x11 + 1)))) else (sieveref05_Longest.l0 k x0 x8 t230 x9 x10 (wrap64 (x11 + 1)))) else (none)) else (sieveref05_Longest.l0 k x0 x8 t230 x9 x10 (wrap64 (x11 + 1))))) else (if x8 < (x0.size : Int) then (if 0 ≤ x8 then (if (bt x0 x8) = 59 then (if (wrap64 (x8 + 1)) > x4 then ((sieveref05_says.f x229000 x229001 x229002 x229003).bind fun t236 => (sieveref05_Longest.l0 k x0 (wrap64 (x8 + 1)) t236 x9 x10 (wrap64 (x11 + 1)))) else (sieveref05_Longest.l0 k x0 x4 x5 x9 x10 (wrap64 (x11 + 1)))) else (sieveref05_Longest.l0 k x0 x4 x5 x9 x10 (wrap64 (x11 + 1)))) else (none)) else (sieveref05_Longest.l0 k x0 x4 x5 x9 x10 (wrap64 (x11 + 1))))
end
def sieveref05_Longest.f (k : Nat) (a0 : ByteArray) : Option (Int × List Int) := (api_Entities.f).bind fun t224 => (sieveref05_Longest.l0 k a0 0 ([] : List Int) t224 (t224.length : Int) 0)
set_option maxHeartbeats 8000000 in
set_option maxRecDepth 100000 in
theorem sieveref05_Longest.calls (k : Nat) (a0 : ByteArray) (r1 : Int) (r2 : List Int) (w : World) (h : sieveref05_Longest.f k a0 = some (r1, r2)) :
  Calls Try.prog 63 #[.string a0] w fun e w' => ∃ v1_ : Value, e = .returned (.tuple #[.int .i64 r1, v1_]) ∧ Kd.R (Kd.int .i32) 21 w' w.heap.size (fun _ => True) v1_ r2 ∧ Below w.heap.size w w' := by
 have hu64 := Try.underlying64
 have HB := Aside0.mk (Below.refl w.heap.size w)
 have H : ((api_Entities.f).bind fun t224 => (sieveref05_Longest.l0 k a0 0 ([] : List Int) t224 (t224.length : Int) 0)) = some (r1, r2) := h
 clear h
 replace H := Option.bind_eq_some_iff.mp H
 obtain ⟨t224, A20, H⟩ := H
 replace H : (sieveref05_Longest.l0 k a0 0 ([] : List Int) t224 (t224.length : Int) 0) = some (r1, r2) := H
 have A2 := Aside0.mk A20
 clear A20
 have H' := Aside0.mk H
 clear H
 go_enter Try.func63, Try.ntmps63
 go_wp2_with (first | ((with_reducible refine gate_callee (f := 28) rfl ?_); refine goesL_ (some 9) rfl rfl Try.func28 (by kernel_rfl) rfl #[] rfl (by (try simp only [List.map_toArray, List.map_cons, List.map_nil]); first | done | rfl | (simp only [List.length_drop, List.length_take]; rfl) | (simp [*] <;> rfl)) ?_; (with_reducible refine (api_Entities.calls  t224 _ A2.out).mono ?_); rintro e w3 ⟨v225, rfl, ho0, hb⟩; refine ⟨_, rfl, ?_⟩; have n0_ := Aside0.mk (Kd.R_lower ho0 (below_size (by repeat (first | (with_reducible first | exact HB.out | apply below_alloc | apply pw_below_drewN | apply below_drew1) | exact HB.out)))); have n1_ := Aside0.mk (below_step (by repeat (first | (with_reducible first | exact HB.out | apply below_alloc | apply pw_below_drewN | apply below_drew1) | exact HB.out)) hb); clear HB; have HO226 := n0_; have HB := n1_; clear n0_ n1_; (try clear hb); (try clear hb2); (try clear hk); (try clear hi); (try clear ho0); obtain ⟨Ao4, co4, eo4⟩ := Kd.R_slice HO226.out; subst eo4))
 go_loopg [4, 5, 11] k (fun kq v4 v5 v11 w' => ∃ (x4_1 : Int) (x5_1 : List Int) (x11_1 : Int), v4 = .int .i64 x4_1 ∧ v11 = .int .i64 x11_1 ∧ Aside0 (sieveref05_Longest.l0 kq a0 x4_1 x5_1 t224 (t224.length : Int) x11_1 = some (r1, r2)) ∧ Aside0 (kq ≤ k) ∧ Aside0 (Kd.R (Kd.int .i32) 21 w' w.heap.size (fun _ => True) v5 x5_1) ∧ Aside0 (Kd.R k64 64 w' w.heap.size (fun _ => True) (.slice Ao4 t224.length co4) t224) ∧ Aside0 (Below w.heap.size w w'))
 case atStart => exact ⟨(0), (([] : List Int)), (0), (by first | rfl | (simp; done) | (simp [*]; done) | (unfold bt; split <;> first | rfl | (exfalso; simp_all; done) | (exfalso; simp_all; omega))), (by first | rfl | (simp; done) | (simp [*]; done) | (unfold bt; split <;> first | rfl | (exfalso; simp_all; done) | (exfalso; simp_all; omega))), H', ⟨Nat.le_refl _⟩, ⟨by first | exact Kd.R_nil _ _ _ _ _ | exact Kd.N_nil _ _ _ _ _ | exact Kd.V_nil _ _ _ _ _ | exact Kd.Q_nil _ _ _ _ _ | exact Kd.S_nil _ _ _ _ _⟩, ⟨by (with_reducible repeat (first | apply Kd.R_alloc | apply Kd.R_drewN | apply Kd.R_drew)); exact HO226.out⟩, ⟨by repeat (first | (with_reducible first | exact HB.out | apply below_alloc | apply pw_below_drewN | apply below_drew1) | exact HB.out)⟩⟩
 case round =>
  clear H'
  try clear c2
  try clear p2
  obtain ⟨x4_1, x5_1, x11_1, rfl, rfl, HA, HK1, HO_5, HO_9, HB⟩ := hrel
  cases gk with
  | zero => exact absurd HA.out (by simp [sieveref05_Longest.l0])
  | succ k1 =>
   have H := HA.out
   clear HA
   simp only [sieveref05_Longest.l0] at H
   by_cases c5 : x11_1 < (t224.length : Int)
   ·rw [if_pos c5] at H
    have c5b0 : decide (x11_1 < (t224.length : Int)) = true := decide_eq_true c5
    clear c5
    by_cases c6 : 0 ≤ x11_1
    ·rw [if_pos c6] at H
     have c6b0 : decide (0 ≤ x11_1) = true := decide_eq_true c6
     clear c6
     by_cases c7 : x11_1 < (t224.length : Int)
     ·rw [if_pos c7] at H
      have c7b0 : decide (x11_1 < (t224.length : Int)) = true := decide_eq_true c7
      clear c7
      replace H := Option.bind_eq_some_iff.mp H
      obtain ⟨t229, A80, H⟩ := H
      replace H : (if t229 = true then (if (rd_T64 t224 x11_1).f3 = true then (sieveref05_Longest.j1 k1 a0 x4_1 x5_1 (((rd_T64 t224 x11_1).f0).size : Int) t224 (t224.length : Int) x11_1 (decide ((((rd_T64 t224 x11_1).f0).size : Int) > x4_1)) ((rd_T64 t224 x11_1).f0) ((rd_T64 t224 x11_1).f1) ((rd_T64 t224 x11_1).f2) ((rd_T64 t224 x11_1).f3)) else (sieveref05_Longest.j1 k1 a0 x4_1 x5_1 (((rd_T64 t224 x11_1).f0).size : Int) t224 (t224.length : Int) x11_1 false ((rd_T64 t224 x11_1).f0) ((rd_T64 t224 x11_1).f1) ((rd_T64 t224 x11_1).f2) ((rd_T64 t224 x11_1).f3))) else (sieveref05_Longest.l0 k1 a0 x4_1 x5_1 t224 (t224.length : Int) (wrap64 (x11_1 + 1)))) = some (r1, r2) := H
      have A8 := Aside0.mk A80
      clear A80
      by_cases c9 : t229 = true
      ·subst c9
       have H1 : (if (rd_T64 t224 x11_1).f3 = true then (sieveref05_Longest.j1 k1 a0 x4_1 x5_1 (((rd_T64 t224 x11_1).f0).size : Int) t224 (t224.length : Int) x11_1 (decide ((((rd_T64 t224 x11_1).f0).size : Int) > x4_1)) ((rd_T64 t224 x11_1).f0) ((rd_T64 t224 x11_1).f1) ((rd_T64 t224 x11_1).f2) ((rd_T64 t224 x11_1).f3)) else (sieveref05_Longest.j1 k1 a0 x4_1 x5_1 (((rd_T64 t224 x11_1).f0).size : Int) t224 (t224.length : Int) x11_1 false ((rd_T64 t224 x11_1).f0) ((rd_T64 t224 x11_1).f1) ((rd_T64 t224 x11_1).f2) ((rd_T64 t224 x11_1).f3))) = some (r1, r2) := by rw [if_pos rfl] at H; exact H
       clear H
       have H := H1
       clear H1
       have HC10 := Aside0.mk H
       clear H
       have p227 : 0 ≤ (x11_1 : Int) := of_decide_eq_true (by first | (with_reducible assumption) | assumption)
       have q227 : x11_1 < (t224.length : Int) := of_decide_eq_true (by first | (with_reducible assumption) | assumption)
       obtain ⟨ad227, e227, hx227_0, hx227_1, hx227_2, hx227_3⟩ := at_T64 (Kd.R_reads' HO_9.out).2.2 x11_1 p227 q227
       cases e227
       replace p227 := eq_true p227
       replace q227 := eq_true q227
       go_upto_region 7 with (first | ((with_reducible refine gate_dst (N := 7) rfl ?_); refine box_event ?hg (N := 7) ?hd (cs := #[.string (⟨#[]⟩ : ByteArray), .int .i32 0, .int .i32 0, .bool false]) (t := 64) ?hr ?_; (case hd => rfl); (case hg => rfl); (case hr => first | (go_simp; done) | (go_simp; rfl)); intro gb228 hg w11 hbox hb; have n0_ := Aside0.mk (Kd.R_below (by (with_reducible repeat (first | apply Kd.R_alloc | apply Kd.R_drewN | apply Kd.R_drew)); exact HO_5.out) hb); have n1_ := Aside0.mk (Kd.R_below (Kd.R_elderB (by (with_reducible repeat (first | apply Kd.R_alloc | apply Kd.R_drewN | apply Kd.R_drew)); exact HO_9.out) gb228 (Nat.le_of_eq hg.symm)) hb); have n2_ := Aside0.mk (below_step (by repeat (first | (with_reducible first | exact HB.out | apply below_alloc | apply pw_below_drewN | apply below_drew1) | exact HB.out)) hb); have n3_ := Aside0.mk (hbox); have n4_ := Aside0.mk ((by rw [hg]; exact (below_size (by repeat (first | (with_reducible first | exact HB.out | apply below_alloc | apply pw_below_drewN | apply below_drew1) | exact HB.out))) : w.heap.size ≤ gb228)); have n5_ := Aside0.mk ((by rw [hg]; exact (below_size (by repeat (first | (with_reducible first | exact HB.out | apply below_alloc | apply pw_below_drewN | apply below_drew1) | exact HB.out))) : w.heap.size ≤ gb228)); clear HO_5; clear HO_9; clear HB; have HO_5 := n0_; have HO_9 := n1_; have HB := n2_; have BK228 := n3_; have GW228 := n4_; have GE228 := n5_; clear n0_ n1_ n2_ n3_ n4_ n5_; clear hb hbox hg; have hcz12_0 : w11.cell? ⟨gb228, 0, none⟩ = some (.string (⟨#[]⟩ : ByteArray)) := (blk_cell BK228.out 0).trans rfl; have hcz12_1 : w11.cell? ⟨gb228, 1, none⟩ = some (.int .i32 0) := (blk_cell BK228.out 1).trans rfl; have hcz12_2 : w11.cell? ⟨gb228, 2, none⟩ = some (.int .i32 0) := (blk_cell BK228.out 2).trans rfl; have hcz12_3 : w11.cell? ⟨gb228, 3, none⟩ = some (.bool false) := (blk_cell BK228.out 3).trans rfl; have hfz12_0 := blk_frozen BK228.out 0; have hfz12_1 := blk_frozen BK228.out 1; have hfz12_2 := blk_frozen BK228.out 2; have hfz12_3 := blk_frozen BK228.out 3) | ((with_reducible refine gate_callee (f := 24) rfl ?_); refine goesL_ (some 21) rfl rfl Try.func24 (by kernel_rfl) rfl #[.string a0, .string ((rd_T64 t224 x11_1).f0)] rfl (by (try simp only [List.map_toArray, List.map_cons, List.map_nil]); first | done | rfl | (simp only [List.length_drop, List.length_take]; rfl) | (simp [*] <;> rfl)) ?_; (with_reducible refine (sieveref05_Prefix.calls a0 ((rd_T64 t224 x11_1).f0) true _ A8.out).mono ?_); rintro e w' ⟨rfl, ⟨nd, rfl⟩⟩; refine ⟨_, rfl, ?_⟩))
       (try simp only [Act.put, List.setIfInBounds_toArray, List.set_cons_zero, List.set_cons_succ])
       go_cut [29] (fun v29 wc => ∃ (kq : Nat) (x29_9 : Bool), v29 = .bool x29_9 ∧ Aside0 (sieveref05_Longest.j1 kq a0 x4_1 x5_1 (((rd_T64 t224 x11_1).f0).size : Int) t224 (t224.length : Int) x11_1 x29_9 ((rd_T64 t224 x11_1).f0) ((rd_T64 t224 x11_1).f1) ((rd_T64 t224 x11_1).f2) ((rd_T64 t224 x11_1).f3) = some (r1, r2)) ∧ Aside0 (kq ≤ k1) ∧ Aside0 (Kd.R (Kd.int .i32) 21 wc w.heap.size (fun _ => True) u5 x5_1) ∧ Aside0 (Kd.R k64 64 wc w.heap.size (fun k_ => k_ ≠ gb228) (.slice (some ad227) t224.length co4) t224) ∧ Aside0 (wc.heap[gb228]? = some (.cells #[.string ((rd_T64 t224 x11_1).f0), .int .i32 ((rd_T64 t224 x11_1).f1), .int .i32 ((rd_T64 t224 x11_1).f2), .bool ((rd_T64 t224 x11_1).f3)] 64 (0, 0))) ∧ Aside0 (Below w.heap.size w wc))
       case first =>
        have H := HC10.out
        clear HC10
        obtain ⟨bq13, hbq13⟩ : ∃ b_ : Bool, b_ = ((rd_T64 t224 x11_1).f3) := ⟨_, rfl⟩
        replace H : (if bq13 = true then (sieveref05_Longest.j1 k1 a0 x4_1 x5_1 (((rd_T64 t224 x11_1).f0).size : Int) t224 (t224.length : Int) x11_1 (decide ((((rd_T64 t224 x11_1).f0).size : Int) > x4_1)) ((rd_T64 t224 x11_1).f0) ((rd_T64 t224 x11_1).f1) ((rd_T64 t224 x11_1).f2) bq13) else (sieveref05_Longest.j1 k1 a0 x4_1 x5_1 (((rd_T64 t224 x11_1).f0).size : Int) t224 (t224.length : Int) x11_1 false ((rd_T64 t224 x11_1).f0) ((rd_T64 t224 x11_1).f1) ((rd_T64 t224 x11_1).f2) bq13)) = some (r1, r2) := by rw [← hbq13] at H; exact H
        have Nbq13 := Aside0.mk hbq13
        clear hbq13
        (try rw [← Nbq13.out])
        by_cases c14 : bq13 = true
        ·subst c14
         have H1 : (sieveref05_Longest.j1 k1 a0 x4_1 x5_1 (((rd_T64 t224 x11_1).f0).size : Int) t224 (t224.length : Int) x11_1 (decide ((((rd_T64 t224 x11_1).f0).size : Int) > x4_1)) ((rd_T64 t224 x11_1).f0) ((rd_T64 t224 x11_1).f1) ((rd_T64 t224 x11_1).f2) true) = some (r1, r2) := by rw [if_pos rfl] at H; exact H
         clear H
         have H := H1
         clear H1
         have H' := Aside0.mk H
         clear H
         have hcz15_0 : w11.cell? ⟨gb228, 0, none⟩ = some (.string (⟨#[]⟩ : ByteArray)) := (blk_cell BK228.out 0).trans rfl
         have hcz15_1 : w11.cell? ⟨gb228, 1, none⟩ = some (.int .i32 0) := (blk_cell BK228.out 1).trans rfl
         have hcz15_2 : w11.cell? ⟨gb228, 2, none⟩ = some (.int .i32 0) := (blk_cell BK228.out 2).trans rfl
         have hcz15_3 : w11.cell? ⟨gb228, 3, none⟩ = some (.bool false) := (blk_cell BK228.out 3).trans rfl
         have hfz15_0 := blk_frozen BK228.out 0
         have hfz15_1 := blk_frozen BK228.out 1
         have hfz15_2 := blk_frozen BK228.out 2
         have hfz15_3 := blk_frozen BK228.out 3
         go_wp2
         go_meet
         case rel => (try rw [← Nbq13.out]); exact ⟨_, (decide ((((rd_T64 t224 x11_1).f0).size : Int) > x4_1)), (by first | rfl | (simp; done) | (simp [*]; done) | (unfold bt; split <;> first | rfl | (exfalso; simp_all; done) | (exfalso; simp_all; omega))), H', ⟨by have := HK1.out; first | omega | exact Nat.le_refl _⟩, ⟨by (with_reducible repeat (first | apply Kd.R_alloc | apply Kd.R_drewN | apply Kd.R_drew)); exact Kd.R_mono (Kd.R_far (p := ⟨gb228, 3, none⟩) (Kd.R_far (p := ⟨gb228, 2, none⟩) (Kd.R_far (p := ⟨gb228, 1, none⟩) (Kd.R_far (p := ⟨gb228, 0, none⟩) (Kd.R_types HO_5.out BK228.out (by decide)) (fun _ hk => hk.2) (.string ((rd_T64 t224 x11_1).f0))) (fun _ hk => hk.2) (.int .i32 ((rd_T64 t224 x11_1).f1))) (fun _ hk => hk.2) (.int .i32 ((rd_T64 t224 x11_1).f2))) (fun _ hk => hk.2) (.bool (true))) (fun _ hk => trivial)⟩, ⟨by (with_reducible repeat (first | apply Kd.R_alloc | apply Kd.R_drewN | apply Kd.R_drew)); exact Kd.R_mono (Kd.R_far (p := ⟨gb228, 3, none⟩) (Kd.R_far (p := ⟨gb228, 2, none⟩) (Kd.R_far (p := ⟨gb228, 1, none⟩) (Kd.R_far (p := ⟨gb228, 0, none⟩) (Kd.R_mono HO_9.out (fun k_ hk => (⟨hk, hk.2⟩ : _ ∧ k_ ≠ gb228))) (fun _ hk => hk.2) (.string ((rd_T64 t224 x11_1).f0))) (fun _ hk => hk.2) (.int .i32 ((rd_T64 t224 x11_1).f1))) (fun _ hk => hk.2) (.int .i32 ((rd_T64 t224 x11_1).f2))) (fun _ hk => hk.2) (.bool (true))) (fun _ hk => hk.1.2)⟩, ⟨by (with_reducible repeat (first | refine blk_drewN ?_ _ | refine blk_drew ?_ | refine blk_alloc ?_ _)); refine blk_put (cs := #[.string ((rd_T64 t224 x11_1).f0), .int .i32 ((rd_T64 t224 x11_1).f1), .int .i32 ((rd_T64 t224 x11_1).f2), .bool false]) ?_ 3 _ rfl; (with_reducible repeat (first | refine blk_drewN ?_ _ | refine blk_drew ?_ | refine blk_alloc ?_ _)); refine blk_put (cs := #[.string ((rd_T64 t224 x11_1).f0), .int .i32 ((rd_T64 t224 x11_1).f1), .int .i32 0, .bool false]) ?_ 2 _ rfl; (with_reducible repeat (first | refine blk_drewN ?_ _ | refine blk_drew ?_ | refine blk_alloc ?_ _)); refine blk_put (cs := #[.string ((rd_T64 t224 x11_1).f0), .int .i32 0, .int .i32 0, .bool false]) ?_ 1 _ rfl; (with_reducible repeat (first | refine blk_drewN ?_ _ | refine blk_drew ?_ | refine blk_alloc ?_ _)); refine blk_put (cs := #[.string (⟨#[]⟩ : ByteArray), .int .i32 0, .int .i32 0, .bool false]) ?_ 0 _ rfl; (with_reducible repeat (first | refine blk_drewN ?_ _ | refine blk_drew ?_ | refine blk_alloc ?_ _)); exact BK228.out⟩, ⟨by repeat (first | (with_reducible first | exact HB.out | apply below_alloc | apply pw_below_drewN | apply below_drew1 | refine below_set ?_ GE228.out) | exact HB.out)⟩⟩
        ·replace c14 := Bool.eq_false_iff.mpr c14
         subst c14
         have H1 : (sieveref05_Longest.j1 k1 a0 x4_1 x5_1 (((rd_T64 t224 x11_1).f0).size : Int) t224 (t224.length : Int) x11_1 false ((rd_T64 t224 x11_1).f0) ((rd_T64 t224 x11_1).f1) ((rd_T64 t224 x11_1).f2) false) = some (r1, r2) := by rw [if_neg (show ¬ (false = true) by decide)] at H; exact H
         clear H
         have H := H1
         clear H1
         have H' := Aside0.mk H
         clear H
         have hcz16_0 : w11.cell? ⟨gb228, 0, none⟩ = some (.string (⟨#[]⟩ : ByteArray)) := (blk_cell BK228.out 0).trans rfl
         have hcz16_1 : w11.cell? ⟨gb228, 1, none⟩ = some (.int .i32 0) := (blk_cell BK228.out 1).trans rfl
         have hcz16_2 : w11.cell? ⟨gb228, 2, none⟩ = some (.int .i32 0) := (blk_cell BK228.out 2).trans rfl
         have hcz16_3 : w11.cell? ⟨gb228, 3, none⟩ = some (.bool false) := (blk_cell BK228.out 3).trans rfl
         have hfz16_0 := blk_frozen BK228.out 0
         have hfz16_1 := blk_frozen BK228.out 1
         have hfz16_2 := blk_frozen BK228.out 2
         have hfz16_3 := blk_frozen BK228.out 3
         go_wp2
         go_meet
         case rel => (try rw [← Nbq13.out]); exact ⟨_, (false), (by first | rfl | (simp; done) | (simp [*]; done) | (unfold bt; split <;> first | rfl | (exfalso; simp_all; done) | (exfalso; simp_all; omega))), H', ⟨by have := HK1.out; first | omega | exact Nat.le_refl _⟩, ⟨by (with_reducible repeat (first | apply Kd.R_alloc | apply Kd.R_drewN | apply Kd.R_drew)); exact Kd.R_mono (Kd.R_far (p := ⟨gb228, 3, none⟩) (Kd.R_far (p := ⟨gb228, 2, none⟩) (Kd.R_far (p := ⟨gb228, 1, none⟩) (Kd.R_far (p := ⟨gb228, 0, none⟩) (Kd.R_types HO_5.out BK228.out (by decide)) (fun _ hk => hk.2) (.string ((rd_T64 t224 x11_1).f0))) (fun _ hk => hk.2) (.int .i32 ((rd_T64 t224 x11_1).f1))) (fun _ hk => hk.2) (.int .i32 ((rd_T64 t224 x11_1).f2))) (fun _ hk => hk.2) (.bool (false))) (fun _ hk => trivial)⟩, ⟨by (with_reducible repeat (first | apply Kd.R_alloc | apply Kd.R_drewN | apply Kd.R_drew)); exact Kd.R_mono (Kd.R_far (p := ⟨gb228, 3, none⟩) (Kd.R_far (p := ⟨gb228, 2, none⟩) (Kd.R_far (p := ⟨gb228, 1, none⟩) (Kd.R_far (p := ⟨gb228, 0, none⟩) (Kd.R_mono HO_9.out (fun k_ hk => (⟨hk, hk.2⟩ : _ ∧ k_ ≠ gb228))) (fun _ hk => hk.2) (.string ((rd_T64 t224 x11_1).f0))) (fun _ hk => hk.2) (.int .i32 ((rd_T64 t224 x11_1).f1))) (fun _ hk => hk.2) (.int .i32 ((rd_T64 t224 x11_1).f2))) (fun _ hk => hk.2) (.bool (false))) (fun _ hk => hk.1.2)⟩, ⟨by (with_reducible repeat (first | refine blk_drewN ?_ _ | refine blk_drew ?_ | refine blk_alloc ?_ _)); refine blk_put (cs := #[.string ((rd_T64 t224 x11_1).f0), .int .i32 ((rd_T64 t224 x11_1).f1), .int .i32 ((rd_T64 t224 x11_1).f2), .bool false]) ?_ 3 _ rfl; (with_reducible repeat (first | refine blk_drewN ?_ _ | refine blk_drew ?_ | refine blk_alloc ?_ _)); refine blk_put (cs := #[.string ((rd_T64 t224 x11_1).f0), .int .i32 ((rd_T64 t224 x11_1).f1), .int .i32 0, .bool false]) ?_ 2 _ rfl; (with_reducible repeat (first | refine blk_drewN ?_ _ | refine blk_drew ?_ | refine blk_alloc ?_ _)); refine blk_put (cs := #[.string ((rd_T64 t224 x11_1).f0), .int .i32 0, .int .i32 0, .bool false]) ?_ 1 _ rfl; (with_reducible repeat (first | refine blk_drewN ?_ _ | refine blk_drew ?_ | refine blk_alloc ?_ _)); refine blk_put (cs := #[.string (⟨#[]⟩ : ByteArray), .int .i32 0, .int .i32 0, .bool false]) ?_ 0 _ rfl; (with_reducible repeat (first | refine blk_drewN ?_ _ | refine blk_drew ?_ | refine blk_alloc ?_ _)); exact BK228.out⟩, ⟨by repeat (first | (with_reducible first | exact HB.out | apply below_alloc | apply pw_below_drewN | apply below_drew1 | refine below_set ?_ GE228.out) | exact HB.out)⟩⟩
       case rest =>
        clear HC10
        try clear c1
        try clear q1
        try clear c2
        try clear p2
        try clear q2
        try clear hx2
        try clear c5
        try clear c5b0
        try clear c6
        try clear c6b0
        try clear p6
        try clear c7
        try clear c7b0
        try clear c9
        try clear q13
        try clear c14
        try clear hcz12_0
        try clear hcz12_1
        try clear hcz12_2
        try clear hcz12_3
        try clear hcz15_0
        try clear hcz15_1
        try clear hcz15_2
        try clear hcz15_3
        try clear hcz16_0
        try clear hcz16_1
        try clear hcz16_2
        try clear hcz16_3
        try clear hfz12_0
        try clear hfz12_1
        try clear hfz12_2
        try clear hfz12_3
        try clear hfz15_0
        try clear hfz15_1
        try clear hfz15_2
        try clear hfz15_3
        try clear hfz16_0
        try clear hfz16_1
        try clear hfz16_2
        try clear hfz16_3
        try clear hx227_0
        try clear hx227_1
        try clear hx227_2
        try clear hx227_3
        try clear p2
        try clear p227
        try clear q227
        obtain ⟨kq, x29_9, rfl, HA, HJ9, HO_5, HO_9, BK228, HB⟩ := hcut
        cases kq with
        | zero => exact absurd HA.out (by simp [sieveref05_Longest.j1])
        | succ kj9 =>
         have H := HA.out
         clear HA
         simp only [sieveref05_Longest.j1] at H
         by_cases c17 : x29_9 = true
         ·subst c17
          have H1 : ((sieveref05_says.f ((rd_T64 t224 x11_1).f0) ((rd_T64 t224 x11_1).f1) ((rd_T64 t224 x11_1).f2) ((rd_T64 t224 x11_1).f3)).bind fun t230 => (if (((rd_T64 t224 x11_1).f0).size : Int) < (a0.size : Int) then (if 0 ≤ (((rd_T64 t224 x11_1).f0).size : Int) then (if (bt a0 (((rd_T64 t224 x11_1).f0).size : Int)) = 59 then (if (wrap64 ((((rd_T64 t224 x11_1).f0).size : Int) + 1)) > (((rd_T64 t224 x11_1).f0).size : Int) then ((sieveref05_says.f ((rd_T64 t224 x11_1).f0) ((rd_T64 t224 x11_1).f1) ((rd_T64 t224 x11_1).f2) ((rd_T64 t224 x11_1).f3)).bind fun t233 => (sieveref05_Longest.l0 kj9 a0 (wrap64 ((((rd_T64 t224 x11_1).f0).size : Int) + 1)) t233 t224 (t224.length : Int) (wrap64 (x11_1 + 1)))) else (sieveref05_Longest.l0 kj9 a0 (((rd_T64 t224 x11_1).f0).size : Int) t230 t224 (t224.length : Int) (wrap64 (x11_1 + 1)))) else (sieveref05_Longest.l0 kj9 a0 (((rd_T64 t224 x11_1).f0).size : Int) t230 t224 (t224.length : Int) (wrap64 (x11_1 + 1)))) else (none)) else (sieveref05_Longest.l0 kj9 a0 (((rd_T64 t224 x11_1).f0).size : Int) t230 t224 (t224.length : Int) (wrap64 (x11_1 + 1))))) = some (r1, r2) := by rw [if_pos rfl] at H; exact H
          clear H
          have H := H1
          clear H1
          replace H := Option.bind_eq_some_iff.mp H
          obtain ⟨t230, A180, H⟩ := H
          replace H : (if (((rd_T64 t224 x11_1).f0).size : Int) < (a0.size : Int) then (if 0 ≤ (((rd_T64 t224 x11_1).f0).size : Int) then (if (bt a0 (((rd_T64 t224 x11_1).f0).size : Int)) = 59 then (if (wrap64 ((((rd_T64 t224 x11_1).f0).size : Int) + 1)) > (((rd_T64 t224 x11_1).f0).size : Int) then ((sieveref05_says.f ((rd_T64 t224 x11_1).f0) ((rd_T64 t224 x11_1).f1) ((rd_T64 t224 x11_1).f2) ((rd_T64 t224 x11_1).f3)).bind fun t233 => (sieveref05_Longest.l0 kj9 a0 (wrap64 ((((rd_T64 t224 x11_1).f0).size : Int) + 1)) t233 t224 (t224.length : Int) (wrap64 (x11_1 + 1)))) else (sieveref05_Longest.l0 kj9 a0 (((rd_T64 t224 x11_1).f0).size : Int) t230 t224 (t224.length : Int) (wrap64 (x11_1 + 1)))) else (sieveref05_Longest.l0 kj9 a0 (((rd_T64 t224 x11_1).f0).size : Int) t230 t224 (t224.length : Int) (wrap64 (x11_1 + 1)))) else (none)) else (sieveref05_Longest.l0 kj9 a0 (((rd_T64 t224 x11_1).f0).size : Int) t230 t224 (t224.length : Int) (wrap64 (x11_1 + 1)))) = some (r1, r2) := H
          have A18 := Aside0.mk A180
          clear A180
          by_cases c19 : (((rd_T64 t224 x11_1).f0).size : Int) < (a0.size : Int)
          ·rw [if_pos c19] at H
           have c19b0 : decide ((((rd_T64 t224 x11_1).f0).size : Int) < (a0.size : Int)) = true := decide_eq_true c19
           have c19b1 : decide (((rd_T64 t224 x11_1).f0).size < a0.size) = true := decide_eq_true (Int.ofNat_lt.mp c19)
           clear c19
           by_cases c20 : 0 ≤ (((rd_T64 t224 x11_1).f0).size : Int)
           ·rw [if_pos c20] at H
            have c20b0 : decide (0 ≤ (((rd_T64 t224 x11_1).f0).size : Int)) = true := decide_eq_true c20
            have c20b1 : decide (0 ≤ ((rd_T64 t224 x11_1).f0).size) = true := decide_eq_true (by omega)
            clear c20
            by_cases c22 : (bt a0 (((rd_T64 t224 x11_1).f0).size : Int)) = 59
            ·rw [if_pos c22] at H
             have c22b0 : ((bt a0 (((rd_T64 t224 x11_1).f0).size : Int)) == 59) = true := beq_iff_eq.mpr c22
             have c22b1 : ((bt a0 (((rd_T64 t224 x11_1).f0).size : Int)) != 59) = false := bne_eq_false_iff_eq.mpr c22
             clear c22
             by_cases c23 : (wrap64 ((((rd_T64 t224 x11_1).f0).size : Int) + 1)) > (((rd_T64 t224 x11_1).f0).size : Int)
             ·rw [if_pos c23] at H
              have c23b0 : decide ((((rd_T64 t224 x11_1).f0).size : Int) < (wrap64 ((((rd_T64 t224 x11_1).f0).size : Int) + 1))) = true := decide_eq_true c23
              clear c23
              replace H := Option.bind_eq_some_iff.mp H
              obtain ⟨t233, A240, H⟩ := H
              replace H : (sieveref05_Longest.l0 kj9 a0 (wrap64 ((((rd_T64 t224 x11_1).f0).size : Int) + 1)) t233 t224 (t224.length : Int) (wrap64 (x11_1 + 1))) = some (r1, r2) := H
              have A24 := Aside0.mk A240
              clear A240
              have H' := Aside0.mk H
              clear H
              have hcz25_0 : wc.cell? ⟨gb228, 0, none⟩ = some (.string ((rd_T64 t224 x11_1).f0)) := (blk_cell BK228.out 0).trans rfl
              have hcz25_1 : wc.cell? ⟨gb228, 1, none⟩ = some (.int .i32 ((rd_T64 t224 x11_1).f1)) := (blk_cell BK228.out 1).trans rfl
              have hcz25_2 : wc.cell? ⟨gb228, 2, none⟩ = some (.int .i32 ((rd_T64 t224 x11_1).f2)) := (blk_cell BK228.out 2).trans rfl
              have hcz25_3 : wc.cell? ⟨gb228, 3, none⟩ = some (.bool ((rd_T64 t224 x11_1).f3)) := (blk_cell BK228.out 3).trans rfl
              have hfz25_0 := blk_frozen BK228.out 0
              have hfz25_1 := blk_frozen BK228.out 1
              have hfz25_2 := blk_frozen BK228.out 2
              have hfz25_3 := blk_frozen BK228.out 3
              go_wp2_with (first | ((with_reducible refine gate_callee (f := 49) rfl ?_); refine goesL_ (some 32) rfl rfl Try.func49 (by kernel_rfl) rfl #[.agg #[.string ((rd_T64 t224 x11_1).f0), .int .i32 ((rd_T64 t224 x11_1).f1), .int .i32 ((rd_T64 t224 x11_1).f2), .bool ((rd_T64 t224 x11_1).f3)]] rfl (by (try simp only [List.map_toArray, List.map_cons, List.map_nil]); first | done | rfl | (simp only [List.length_drop, List.length_take]; rfl) | (simp [*] <;> rfl)) ?_; (with_reducible refine (sieveref05_says.calls ((rd_T64 t224 x11_1).f0) ((rd_T64 t224 x11_1).f1) ((rd_T64 t224 x11_1).f2) ((rd_T64 t224 x11_1).f3) t230 _ A18.out).mono ?_); rintro e w26 ⟨v231, rfl, ho0, hb⟩; refine ⟨_, rfl, ?_⟩; have n0_ := Aside0.mk (Kd.R_elder' (by (with_reducible repeat (first | apply Kd.R_alloc | apply Kd.R_drewN | apply Kd.R_drew)); exact HO_5.out) (Kd.R_base ho0) hb); have n1_ := Aside0.mk (Kd.R_below (by (with_reducible repeat (first | apply Kd.R_alloc | apply Kd.R_drewN | apply Kd.R_drew)); exact HO_9.out) hb); have n2_ := Aside0.mk (Kd.R_lower (Kd.R_new' ho0 (Kd.R_lt (by (with_reducible repeat (first | apply Kd.R_alloc | apply Kd.R_drewN | apply Kd.R_drew)); exact HO_5.out))) (below_size (by repeat (first | (with_reducible first | exact HB.out | apply below_alloc | apply pw_below_drewN | apply below_drew1 | refine below_set ?_ GE228.out) | exact HB.out)))); have n3_ := Aside0.mk (blk_below (g := gb228) (o := .cells #[.string ((rd_T64 t224 x11_1).f0), .int .i32 ((rd_T64 t224 x11_1).f1), .int .i32 ((rd_T64 t224 x11_1).f2), .bool ((rd_T64 t224 x11_1).f3)] 64 (0, 0)) (by (with_reducible repeat (first | refine blk_drewN ?_ _ | refine blk_drew ?_ | refine blk_alloc ?_ _)); exact BK228.out) hb); have n4_ := Aside0.mk (below_step (by repeat (first | (with_reducible first | exact HB.out | apply below_alloc | apply pw_below_drewN | apply below_drew1 | refine below_set ?_ GE228.out) | exact HB.out)) hb); clear HO_5; clear HO_9; clear BK228; clear HB; have HO_5 := n0_; have HO_9 := n1_; have HO232 := n2_; have BK228 := n3_; have HB := n4_; clear n0_ n1_ n2_ n3_ n4_; (try clear hb); (try clear hb2); (try clear hk); (try clear hi); (try clear ho0); have p21 : 0 ≤ ((((rd_T64 t224 x11_1).f0).size : Int) : Int) := of_decide_eq_true (by first | (with_reducible assumption) | assumption); have q21 : (((rd_T64 t224 x11_1).f0).size : Int) < (a0.size : Int) := of_decide_eq_true (by first | (with_reducible assumption) | assumption); have hx21 := bt_at a0 (((rd_T64 t224 x11_1).f0).size : Int); have hx21z : ∀ h : ((rd_T64 t224 x11_1).f0).size < a0.size, ((a0[((rd_T64 t224 x11_1).f0).size]'h).toNat : Int) = bt a0 (((rd_T64 t224 x11_1).f0).size : Int) := bt_at a0 (((rd_T64 t224 x11_1).f0).size : Int); replace p21 := eq_true p21; replace q21 := eq_true q21; have hcz27_0 : w26.cell? ⟨gb228, 0, none⟩ = some (.string ((rd_T64 t224 x11_1).f0)) := (blk_cell BK228.out 0).trans rfl; have hcz27_1 : w26.cell? ⟨gb228, 1, none⟩ = some (.int .i32 ((rd_T64 t224 x11_1).f1)) := (blk_cell BK228.out 1).trans rfl; have hcz27_2 : w26.cell? ⟨gb228, 2, none⟩ = some (.int .i32 ((rd_T64 t224 x11_1).f2)) := (blk_cell BK228.out 2).trans rfl; have hcz27_3 : w26.cell? ⟨gb228, 3, none⟩ = some (.bool ((rd_T64 t224 x11_1).f3)) := (blk_cell BK228.out 3).trans rfl; have hfz27_0 := blk_frozen BK228.out 0; have hfz27_1 := blk_frozen BK228.out 1; have hfz27_2 := blk_frozen BK228.out 2; have hfz27_3 := blk_frozen BK228.out 3) | ((with_reducible refine gate_callee (f := 49) rfl ?_); refine goesL_ (some 52) rfl rfl Try.func49 (by kernel_rfl) rfl #[.agg #[.string ((rd_T64 t224 x11_1).f0), .int .i32 ((rd_T64 t224 x11_1).f1), .int .i32 ((rd_T64 t224 x11_1).f2), .bool ((rd_T64 t224 x11_1).f3)]] rfl (by (try simp only [List.map_toArray, List.map_cons, List.map_nil]); first | done | rfl | (simp only [List.length_drop, List.length_take]; rfl) | (simp [*] <;> rfl)) ?_; (with_reducible refine (sieveref05_says.calls ((rd_T64 t224 x11_1).f0) ((rd_T64 t224 x11_1).f1) ((rd_T64 t224 x11_1).f2) ((rd_T64 t224 x11_1).f3) t233 _ A24.out).mono ?_); rintro e w28 ⟨v234, rfl, ho0, hb⟩; refine ⟨_, rfl, ?_⟩; have n0_ := Aside0.mk (Kd.R_elder' (by (with_reducible repeat (first | apply Kd.R_alloc | apply Kd.R_drewN | apply Kd.R_drew)); exact HO_5.out) (Kd.R_base ho0) hb); have n1_ := Aside0.mk (Kd.R_below (by (with_reducible repeat (first | apply Kd.R_alloc | apply Kd.R_drewN | apply Kd.R_drew)); exact HO_9.out) hb); have n2_ := Aside0.mk (Kd.R_elder' (by (with_reducible repeat (first | apply Kd.R_alloc | apply Kd.R_drewN | apply Kd.R_drew)); exact HO232.out) (Kd.R_base ho0) hb); have n3_ := Aside0.mk (Kd.R_lower (Kd.R_new' (Kd.R_new' ho0 (Kd.R_lt (by (with_reducible repeat (first | apply Kd.R_alloc | apply Kd.R_drewN | apply Kd.R_drew)); exact HO_5.out))) (Kd.R_lt (by (with_reducible repeat (first | apply Kd.R_alloc | apply Kd.R_drewN | apply Kd.R_drew)); exact HO232.out))) (below_size (by repeat (first | (with_reducible first | exact HB.out | apply below_alloc | apply pw_below_drewN | apply below_drew1 | refine below_set ?_ GE228.out) | exact HB.out)))); have n4_ := Aside0.mk (blk_below (g := gb228) (o := .cells #[.string ((rd_T64 t224 x11_1).f0), .int .i32 ((rd_T64 t224 x11_1).f1), .int .i32 ((rd_T64 t224 x11_1).f2), .bool ((rd_T64 t224 x11_1).f3)] 64 (0, 0)) (by (with_reducible repeat (first | refine blk_drewN ?_ _ | refine blk_drew ?_ | refine blk_alloc ?_ _)); exact BK228.out) hb); have n5_ := Aside0.mk (below_step (by repeat (first | (with_reducible first | exact HB.out | apply below_alloc | apply pw_below_drewN | apply below_drew1 | refine below_set ?_ GE228.out) | exact HB.out)) hb); clear HO_5; clear HO_9; clear HO232; clear BK228; clear HB; have HO_5 := n0_; have HO_9 := n1_; have HO232 := n2_; have HO235 := n3_; have BK228 := n4_; have HB := n5_; clear n0_ n1_ n2_ n3_ n4_ n5_; (try clear hb); (try clear hb2); (try clear hk); (try clear hi); (try clear ho0)))
              go_roundg kj9
              case measure => have := HK1.out; have := HJ9.out; omega
              case rel => exact ⟨(wrap64 ((((rd_T64 t224 x11_1).f0).size : Int) + 1)), (t233), (wrap64 (x11_1 + 1)), (by first | rfl | (simp; done) | (simp [*]; done) | (unfold bt; split <;> first | rfl | (exfalso; simp_all; done) | (exfalso; simp_all; omega))), (by first | rfl | (simp; done) | (simp [*]; done) | (unfold bt; split <;> first | rfl | (exfalso; simp_all; done) | (exfalso; simp_all; omega))), H', ⟨by have := HK1.out; have := HJ9.out; omega⟩, ⟨by (with_reducible repeat (first | apply Kd.R_alloc | apply Kd.R_drewN | apply Kd.R_drew)); exact Kd.R_mono HO235.out (fun _ hk => trivial)⟩, ⟨by (with_reducible repeat (first | apply Kd.R_alloc | apply Kd.R_drewN | apply Kd.R_drew)); exact Kd.R_mono HO_9.out (fun _ hk => trivial)⟩, ⟨by repeat (first | (with_reducible first | exact HB.out | apply below_alloc | apply pw_below_drewN | apply below_drew1 | refine below_set ?_ GE228.out) | exact HB.out)⟩⟩
             ·rw [if_neg c23] at H
              have c23b0 : decide ((((rd_T64 t224 x11_1).f0).size : Int) < (wrap64 ((((rd_T64 t224 x11_1).f0).size : Int) + 1))) = false := decide_eq_false c23
              clear c23
              have H' := Aside0.mk H
              clear H
              have hcz29_0 : wc.cell? ⟨gb228, 0, none⟩ = some (.string ((rd_T64 t224 x11_1).f0)) := (blk_cell BK228.out 0).trans rfl
              have hcz29_1 : wc.cell? ⟨gb228, 1, none⟩ = some (.int .i32 ((rd_T64 t224 x11_1).f1)) := (blk_cell BK228.out 1).trans rfl
              have hcz29_2 : wc.cell? ⟨gb228, 2, none⟩ = some (.int .i32 ((rd_T64 t224 x11_1).f2)) := (blk_cell BK228.out 2).trans rfl
              have hcz29_3 : wc.cell? ⟨gb228, 3, none⟩ = some (.bool ((rd_T64 t224 x11_1).f3)) := (blk_cell BK228.out 3).trans rfl
              have hfz29_0 := blk_frozen BK228.out 0
              have hfz29_1 := blk_frozen BK228.out 1
              have hfz29_2 := blk_frozen BK228.out 2
              have hfz29_3 := blk_frozen BK228.out 3
              go_wp2_with (first | ((with_reducible refine gate_callee (f := 49) rfl ?_); refine goesL_ (some 32) rfl rfl Try.func49 (by kernel_rfl) rfl #[.agg #[.string ((rd_T64 t224 x11_1).f0), .int .i32 ((rd_T64 t224 x11_1).f1), .int .i32 ((rd_T64 t224 x11_1).f2), .bool ((rd_T64 t224 x11_1).f3)]] rfl (by (try simp only [List.map_toArray, List.map_cons, List.map_nil]); first | done | rfl | (simp only [List.length_drop, List.length_take]; rfl) | (simp [*] <;> rfl)) ?_; (with_reducible refine (sieveref05_says.calls ((rd_T64 t224 x11_1).f0) ((rd_T64 t224 x11_1).f1) ((rd_T64 t224 x11_1).f2) ((rd_T64 t224 x11_1).f3) t230 _ A18.out).mono ?_); rintro e w30 ⟨v231, rfl, ho0, hb⟩; refine ⟨_, rfl, ?_⟩; have n0_ := Aside0.mk (Kd.R_elder' (by (with_reducible repeat (first | apply Kd.R_alloc | apply Kd.R_drewN | apply Kd.R_drew)); exact HO_5.out) (Kd.R_base ho0) hb); have n1_ := Aside0.mk (Kd.R_below (by (with_reducible repeat (first | apply Kd.R_alloc | apply Kd.R_drewN | apply Kd.R_drew)); exact HO_9.out) hb); have n2_ := Aside0.mk (Kd.R_lower (Kd.R_new' ho0 (Kd.R_lt (by (with_reducible repeat (first | apply Kd.R_alloc | apply Kd.R_drewN | apply Kd.R_drew)); exact HO_5.out))) (below_size (by repeat (first | (with_reducible first | exact HB.out | apply below_alloc | apply pw_below_drewN | apply below_drew1 | refine below_set ?_ GE228.out) | exact HB.out)))); have n3_ := Aside0.mk (blk_below (g := gb228) (o := .cells #[.string ((rd_T64 t224 x11_1).f0), .int .i32 ((rd_T64 t224 x11_1).f1), .int .i32 ((rd_T64 t224 x11_1).f2), .bool ((rd_T64 t224 x11_1).f3)] 64 (0, 0)) (by (with_reducible repeat (first | refine blk_drewN ?_ _ | refine blk_drew ?_ | refine blk_alloc ?_ _)); exact BK228.out) hb); have n4_ := Aside0.mk (below_step (by repeat (first | (with_reducible first | exact HB.out | apply below_alloc | apply pw_below_drewN | apply below_drew1 | refine below_set ?_ GE228.out) | exact HB.out)) hb); clear HO_5; clear HO_9; clear BK228; clear HB; have HO_5 := n0_; have HO_9 := n1_; have HO232 := n2_; have BK228 := n3_; have HB := n4_; clear n0_ n1_ n2_ n3_ n4_; (try clear hb); (try clear hb2); (try clear hk); (try clear hi); (try clear ho0); have p21 : 0 ≤ ((((rd_T64 t224 x11_1).f0).size : Int) : Int) := of_decide_eq_true (by first | (with_reducible assumption) | assumption); have q21 : (((rd_T64 t224 x11_1).f0).size : Int) < (a0.size : Int) := of_decide_eq_true (by first | (with_reducible assumption) | assumption); have hx21 := bt_at a0 (((rd_T64 t224 x11_1).f0).size : Int); have hx21z : ∀ h : ((rd_T64 t224 x11_1).f0).size < a0.size, ((a0[((rd_T64 t224 x11_1).f0).size]'h).toNat : Int) = bt a0 (((rd_T64 t224 x11_1).f0).size : Int) := bt_at a0 (((rd_T64 t224 x11_1).f0).size : Int); replace p21 := eq_true p21; replace q21 := eq_true q21))
              go_roundg kj9
              case measure => have := HK1.out; have := HJ9.out; omega
              case rel => exact ⟨((((rd_T64 t224 x11_1).f0).size : Int)), (t230), (wrap64 (x11_1 + 1)), (by first | rfl | (simp; done) | (simp [*]; done) | (unfold bt; split <;> first | rfl | (exfalso; simp_all; done) | (exfalso; simp_all; omega))), (by first | rfl | (simp; done) | (simp [*]; done) | (unfold bt; split <;> first | rfl | (exfalso; simp_all; done) | (exfalso; simp_all; omega))), H', ⟨by have := HK1.out; have := HJ9.out; omega⟩, ⟨by (with_reducible repeat (first | apply Kd.R_alloc | apply Kd.R_drewN | apply Kd.R_drew)); exact Kd.R_mono HO232.out (fun _ hk => trivial)⟩, ⟨by (with_reducible repeat (first | apply Kd.R_alloc | apply Kd.R_drewN | apply Kd.R_drew)); exact Kd.R_mono HO_9.out (fun _ hk => trivial)⟩, ⟨by repeat (first | (with_reducible first | exact HB.out | apply below_alloc | apply pw_below_drewN | apply below_drew1 | refine below_set ?_ GE228.out) | exact HB.out)⟩⟩
            ·rw [if_neg c22] at H
             have c22b0 : ((bt a0 (((rd_T64 t224 x11_1).f0).size : Int)) == 59) = false := beq_eq_false_iff_ne.mpr c22
             have c22b1 : ((bt a0 (((rd_T64 t224 x11_1).f0).size : Int)) != 59) = true := bne_iff_ne.mpr c22
             have H' := Aside0.mk H
             clear H
             have hcz31_0 : wc.cell? ⟨gb228, 0, none⟩ = some (.string ((rd_T64 t224 x11_1).f0)) := (blk_cell BK228.out 0).trans rfl
             have hcz31_1 : wc.cell? ⟨gb228, 1, none⟩ = some (.int .i32 ((rd_T64 t224 x11_1).f1)) := (blk_cell BK228.out 1).trans rfl
             have hcz31_2 : wc.cell? ⟨gb228, 2, none⟩ = some (.int .i32 ((rd_T64 t224 x11_1).f2)) := (blk_cell BK228.out 2).trans rfl
             have hcz31_3 : wc.cell? ⟨gb228, 3, none⟩ = some (.bool ((rd_T64 t224 x11_1).f3)) := (blk_cell BK228.out 3).trans rfl
             have hfz31_0 := blk_frozen BK228.out 0
             have hfz31_1 := blk_frozen BK228.out 1
             have hfz31_2 := blk_frozen BK228.out 2
             have hfz31_3 := blk_frozen BK228.out 3
             go_wp2_with (first | ((with_reducible refine gate_callee (f := 49) rfl ?_); refine goesL_ (some 32) rfl rfl Try.func49 (by kernel_rfl) rfl #[.agg #[.string ((rd_T64 t224 x11_1).f0), .int .i32 ((rd_T64 t224 x11_1).f1), .int .i32 ((rd_T64 t224 x11_1).f2), .bool ((rd_T64 t224 x11_1).f3)]] rfl (by (try simp only [List.map_toArray, List.map_cons, List.map_nil]); first | done | rfl | (simp only [List.length_drop, List.length_take]; rfl) | (simp [*] <;> rfl)) ?_; (with_reducible refine (sieveref05_says.calls ((rd_T64 t224 x11_1).f0) ((rd_T64 t224 x11_1).f1) ((rd_T64 t224 x11_1).f2) ((rd_T64 t224 x11_1).f3) t230 _ A18.out).mono ?_); rintro e w32 ⟨v231, rfl, ho0, hb⟩; refine ⟨_, rfl, ?_⟩; have n0_ := Aside0.mk (Kd.R_elder' (by (with_reducible repeat (first | apply Kd.R_alloc | apply Kd.R_drewN | apply Kd.R_drew)); exact HO_5.out) (Kd.R_base ho0) hb); have n1_ := Aside0.mk (Kd.R_below (by (with_reducible repeat (first | apply Kd.R_alloc | apply Kd.R_drewN | apply Kd.R_drew)); exact HO_9.out) hb); have n2_ := Aside0.mk (Kd.R_lower (Kd.R_new' ho0 (Kd.R_lt (by (with_reducible repeat (first | apply Kd.R_alloc | apply Kd.R_drewN | apply Kd.R_drew)); exact HO_5.out))) (below_size (by repeat (first | (with_reducible first | exact HB.out | apply below_alloc | apply pw_below_drewN | apply below_drew1 | refine below_set ?_ GE228.out) | exact HB.out)))); have n3_ := Aside0.mk (blk_below (g := gb228) (o := .cells #[.string ((rd_T64 t224 x11_1).f0), .int .i32 ((rd_T64 t224 x11_1).f1), .int .i32 ((rd_T64 t224 x11_1).f2), .bool ((rd_T64 t224 x11_1).f3)] 64 (0, 0)) (by (with_reducible repeat (first | refine blk_drewN ?_ _ | refine blk_drew ?_ | refine blk_alloc ?_ _)); exact BK228.out) hb); have n4_ := Aside0.mk (below_step (by repeat (first | (with_reducible first | exact HB.out | apply below_alloc | apply pw_below_drewN | apply below_drew1 | refine below_set ?_ GE228.out) | exact HB.out)) hb); clear HO_5; clear HO_9; clear BK228; clear HB; have HO_5 := n0_; have HO_9 := n1_; have HO232 := n2_; have BK228 := n3_; have HB := n4_; clear n0_ n1_ n2_ n3_ n4_; (try clear hb); (try clear hb2); (try clear hk); (try clear hi); (try clear ho0); have p21 : 0 ≤ ((((rd_T64 t224 x11_1).f0).size : Int) : Int) := of_decide_eq_true (by first | (with_reducible assumption) | assumption); have q21 : (((rd_T64 t224 x11_1).f0).size : Int) < (a0.size : Int) := of_decide_eq_true (by first | (with_reducible assumption) | assumption); have hx21 := bt_at a0 (((rd_T64 t224 x11_1).f0).size : Int); have hx21z : ∀ h : ((rd_T64 t224 x11_1).f0).size < a0.size, ((a0[((rd_T64 t224 x11_1).f0).size]'h).toNat : Int) = bt a0 (((rd_T64 t224 x11_1).f0).size : Int) := bt_at a0 (((rd_T64 t224 x11_1).f0).size : Int); replace p21 := eq_true p21; replace q21 := eq_true q21))
             go_roundg kj9
             case measure => have := HK1.out; have := HJ9.out; omega
             case rel => exact ⟨((((rd_T64 t224 x11_1).f0).size : Int)), (t230), (wrap64 (x11_1 + 1)), (by first | rfl | (simp; done) | (simp [*]; done) | (unfold bt; split <;> first | rfl | (exfalso; simp_all; done) | (exfalso; simp_all; omega))), (by first | rfl | (simp; done) | (simp [*]; done) | (unfold bt; split <;> first | rfl | (exfalso; simp_all; done) | (exfalso; simp_all; omega))), H', ⟨by have := HK1.out; have := HJ9.out; omega⟩, ⟨by (with_reducible repeat (first | apply Kd.R_alloc | apply Kd.R_drewN | apply Kd.R_drew)); exact Kd.R_mono HO232.out (fun _ hk => trivial)⟩, ⟨by (with_reducible repeat (first | apply Kd.R_alloc | apply Kd.R_drewN | apply Kd.R_drew)); exact Kd.R_mono HO_9.out (fun _ hk => trivial)⟩, ⟨by repeat (first | (with_reducible first | exact HB.out | apply below_alloc | apply pw_below_drewN | apply below_drew1 | refine below_set ?_ GE228.out) | exact HB.out)⟩⟩
           ·rw [if_neg c20] at H
            exact absurd H (by simp)
          ·rw [if_neg c19] at H
           have c19b0 : decide ((((rd_T64 t224 x11_1).f0).size : Int) < (a0.size : Int)) = false := decide_eq_false c19
           have c19b1 : decide (((rd_T64 t224 x11_1).f0).size < a0.size) = false := decide_eq_false (fun h => c19 (Int.ofNat_lt.mpr h))
           clear c19
           have H' := Aside0.mk H
           clear H
           have hcz33_0 : wc.cell? ⟨gb228, 0, none⟩ = some (.string ((rd_T64 t224 x11_1).f0)) := (blk_cell BK228.out 0).trans rfl
           have hcz33_1 : wc.cell? ⟨gb228, 1, none⟩ = some (.int .i32 ((rd_T64 t224 x11_1).f1)) := (blk_cell BK228.out 1).trans rfl
           have hcz33_2 : wc.cell? ⟨gb228, 2, none⟩ = some (.int .i32 ((rd_T64 t224 x11_1).f2)) := (blk_cell BK228.out 2).trans rfl
           have hcz33_3 : wc.cell? ⟨gb228, 3, none⟩ = some (.bool ((rd_T64 t224 x11_1).f3)) := (blk_cell BK228.out 3).trans rfl
           have hfz33_0 := blk_frozen BK228.out 0
           have hfz33_1 := blk_frozen BK228.out 1
           have hfz33_2 := blk_frozen BK228.out 2
           have hfz33_3 := blk_frozen BK228.out 3
           go_wp2_with (first | ((with_reducible refine gate_callee (f := 49) rfl ?_); refine goesL_ (some 32) rfl rfl Try.func49 (by kernel_rfl) rfl #[.agg #[.string ((rd_T64 t224 x11_1).f0), .int .i32 ((rd_T64 t224 x11_1).f1), .int .i32 ((rd_T64 t224 x11_1).f2), .bool ((rd_T64 t224 x11_1).f3)]] rfl (by (try simp only [List.map_toArray, List.map_cons, List.map_nil]); first | done | rfl | (simp only [List.length_drop, List.length_take]; rfl) | (simp [*] <;> rfl)) ?_; (with_reducible refine (sieveref05_says.calls ((rd_T64 t224 x11_1).f0) ((rd_T64 t224 x11_1).f1) ((rd_T64 t224 x11_1).f2) ((rd_T64 t224 x11_1).f3) t230 _ A18.out).mono ?_); rintro e w34 ⟨v231, rfl, ho0, hb⟩; refine ⟨_, rfl, ?_⟩; have n0_ := Aside0.mk (Kd.R_elder' (by (with_reducible repeat (first | apply Kd.R_alloc | apply Kd.R_drewN | apply Kd.R_drew)); exact HO_5.out) (Kd.R_base ho0) hb); have n1_ := Aside0.mk (Kd.R_below (by (with_reducible repeat (first | apply Kd.R_alloc | apply Kd.R_drewN | apply Kd.R_drew)); exact HO_9.out) hb); have n2_ := Aside0.mk (Kd.R_lower (Kd.R_new' ho0 (Kd.R_lt (by (with_reducible repeat (first | apply Kd.R_alloc | apply Kd.R_drewN | apply Kd.R_drew)); exact HO_5.out))) (below_size (by repeat (first | (with_reducible first | exact HB.out | apply below_alloc | apply pw_below_drewN | apply below_drew1 | refine below_set ?_ GE228.out) | exact HB.out)))); have n3_ := Aside0.mk (blk_below (g := gb228) (o := .cells #[.string ((rd_T64 t224 x11_1).f0), .int .i32 ((rd_T64 t224 x11_1).f1), .int .i32 ((rd_T64 t224 x11_1).f2), .bool ((rd_T64 t224 x11_1).f3)] 64 (0, 0)) (by (with_reducible repeat (first | refine blk_drewN ?_ _ | refine blk_drew ?_ | refine blk_alloc ?_ _)); exact BK228.out) hb); have n4_ := Aside0.mk (below_step (by repeat (first | (with_reducible first | exact HB.out | apply below_alloc | apply pw_below_drewN | apply below_drew1 | refine below_set ?_ GE228.out) | exact HB.out)) hb); clear HO_5; clear HO_9; clear BK228; clear HB; have HO_5 := n0_; have HO_9 := n1_; have HO232 := n2_; have BK228 := n3_; have HB := n4_; clear n0_ n1_ n2_ n3_ n4_; (try clear hb); (try clear hb2); (try clear hk); (try clear hi); (try clear ho0)))
           go_roundg kj9
           case measure => have := HK1.out; have := HJ9.out; omega
           case rel => exact ⟨((((rd_T64 t224 x11_1).f0).size : Int)), (t230), (wrap64 (x11_1 + 1)), (by first | rfl | (simp; done) | (simp [*]; done) | (unfold bt; split <;> first | rfl | (exfalso; simp_all; done) | (exfalso; simp_all; omega))), (by first | rfl | (simp; done) | (simp [*]; done) | (unfold bt; split <;> first | rfl | (exfalso; simp_all; done) | (exfalso; simp_all; omega))), H', ⟨by have := HK1.out; have := HJ9.out; omega⟩, ⟨by (with_reducible repeat (first | apply Kd.R_alloc | apply Kd.R_drewN | apply Kd.R_drew)); exact Kd.R_mono HO232.out (fun _ hk => trivial)⟩, ⟨by (with_reducible repeat (first | apply Kd.R_alloc | apply Kd.R_drewN | apply Kd.R_drew)); exact Kd.R_mono HO_9.out (fun _ hk => trivial)⟩, ⟨by repeat (first | (with_reducible first | exact HB.out | apply below_alloc | apply pw_below_drewN | apply below_drew1 | refine below_set ?_ GE228.out) | exact HB.out)⟩⟩
         ·replace c17 := Bool.eq_false_iff.mpr c17
          subst c17
          have H1 : (if (((rd_T64 t224 x11_1).f0).size : Int) < (a0.size : Int) then (if 0 ≤ (((rd_T64 t224 x11_1).f0).size : Int) then (if (bt a0 (((rd_T64 t224 x11_1).f0).size : Int)) = 59 then (if (wrap64 ((((rd_T64 t224 x11_1).f0).size : Int) + 1)) > x4_1 then ((sieveref05_says.f ((rd_T64 t224 x11_1).f0) ((rd_T64 t224 x11_1).f1) ((rd_T64 t224 x11_1).f2) ((rd_T64 t224 x11_1).f3)).bind fun t236 => (sieveref05_Longest.l0 kj9 a0 (wrap64 ((((rd_T64 t224 x11_1).f0).size : Int) + 1)) t236 t224 (t224.length : Int) (wrap64 (x11_1 + 1)))) else (sieveref05_Longest.l0 kj9 a0 x4_1 x5_1 t224 (t224.length : Int) (wrap64 (x11_1 + 1)))) else (sieveref05_Longest.l0 kj9 a0 x4_1 x5_1 t224 (t224.length : Int) (wrap64 (x11_1 + 1)))) else (none)) else (sieveref05_Longest.l0 kj9 a0 x4_1 x5_1 t224 (t224.length : Int) (wrap64 (x11_1 + 1)))) = some (r1, r2) := by rw [if_neg (show ¬ (false = true) by decide)] at H; exact H
          clear H
          have H := H1
          clear H1
          by_cases c35 : (((rd_T64 t224 x11_1).f0).size : Int) < (a0.size : Int)
          ·rw [if_pos c35] at H
           have c35b0 : decide ((((rd_T64 t224 x11_1).f0).size : Int) < (a0.size : Int)) = true := decide_eq_true c35
           have c35b1 : decide (((rd_T64 t224 x11_1).f0).size < a0.size) = true := decide_eq_true (Int.ofNat_lt.mp c35)
           clear c35
           by_cases c36 : 0 ≤ (((rd_T64 t224 x11_1).f0).size : Int)
           ·rw [if_pos c36] at H
            have c36b0 : decide (0 ≤ (((rd_T64 t224 x11_1).f0).size : Int)) = true := decide_eq_true c36
            have c36b1 : decide (0 ≤ ((rd_T64 t224 x11_1).f0).size) = true := decide_eq_true (by omega)
            clear c36
            by_cases c38 : (bt a0 (((rd_T64 t224 x11_1).f0).size : Int)) = 59
            ·rw [if_pos c38] at H
             have c38b0 : ((bt a0 (((rd_T64 t224 x11_1).f0).size : Int)) == 59) = true := beq_iff_eq.mpr c38
             have c38b1 : ((bt a0 (((rd_T64 t224 x11_1).f0).size : Int)) != 59) = false := bne_eq_false_iff_eq.mpr c38
             clear c38
             by_cases c39 : (wrap64 ((((rd_T64 t224 x11_1).f0).size : Int) + 1)) > x4_1
             ·rw [if_pos c39] at H
              have c39b0 : decide (x4_1 < (wrap64 ((((rd_T64 t224 x11_1).f0).size : Int) + 1))) = true := decide_eq_true c39
              clear c39
              replace H := Option.bind_eq_some_iff.mp H
              obtain ⟨t236, A400, H⟩ := H
              replace H : (sieveref05_Longest.l0 kj9 a0 (wrap64 ((((rd_T64 t224 x11_1).f0).size : Int) + 1)) t236 t224 (t224.length : Int) (wrap64 (x11_1 + 1))) = some (r1, r2) := H
              have A40 := Aside0.mk A400
              clear A400
              have H' := Aside0.mk H
              clear H
              have p37 : 0 ≤ ((((rd_T64 t224 x11_1).f0).size : Int) : Int) := of_decide_eq_true (by first | (with_reducible assumption) | assumption)
              have q37 : (((rd_T64 t224 x11_1).f0).size : Int) < (a0.size : Int) := of_decide_eq_true (by first | (with_reducible assumption) | assumption)
              have hx37 := bt_at a0 (((rd_T64 t224 x11_1).f0).size : Int)
              have hx37z : ∀ h : ((rd_T64 t224 x11_1).f0).size < a0.size, ((a0[((rd_T64 t224 x11_1).f0).size]'h).toNat : Int) = bt a0 (((rd_T64 t224 x11_1).f0).size : Int) := bt_at a0 (((rd_T64 t224 x11_1).f0).size : Int)
              replace p37 := eq_true p37
              replace q37 := eq_true q37
              have hcz41_0 : wc.cell? ⟨gb228, 0, none⟩ = some (.string ((rd_T64 t224 x11_1).f0)) := (blk_cell BK228.out 0).trans rfl
              have hcz41_1 : wc.cell? ⟨gb228, 1, none⟩ = some (.int .i32 ((rd_T64 t224 x11_1).f1)) := (blk_cell BK228.out 1).trans rfl
              have hcz41_2 : wc.cell? ⟨gb228, 2, none⟩ = some (.int .i32 ((rd_T64 t224 x11_1).f2)) := (blk_cell BK228.out 2).trans rfl
              have hcz41_3 : wc.cell? ⟨gb228, 3, none⟩ = some (.bool ((rd_T64 t224 x11_1).f3)) := (blk_cell BK228.out 3).trans rfl
              have hfz41_0 := blk_frozen BK228.out 0
              have hfz41_1 := blk_frozen BK228.out 1
              have hfz41_2 := blk_frozen BK228.out 2
              have hfz41_3 := blk_frozen BK228.out 3
              go_wp2_with (first | ((with_reducible refine gate_callee (f := 49) rfl ?_); refine goesL_ (some 52) rfl rfl Try.func49 (by kernel_rfl) rfl #[.agg #[.string ((rd_T64 t224 x11_1).f0), .int .i32 ((rd_T64 t224 x11_1).f1), .int .i32 ((rd_T64 t224 x11_1).f2), .bool ((rd_T64 t224 x11_1).f3)]] rfl (by (try simp only [List.map_toArray, List.map_cons, List.map_nil]); first | done | rfl | (simp only [List.length_drop, List.length_take]; rfl) | (simp [*] <;> rfl)) ?_; (with_reducible refine (sieveref05_says.calls ((rd_T64 t224 x11_1).f0) ((rd_T64 t224 x11_1).f1) ((rd_T64 t224 x11_1).f2) ((rd_T64 t224 x11_1).f3) t236 _ A40.out).mono ?_); rintro e w42 ⟨v237, rfl, ho0, hb⟩; refine ⟨_, rfl, ?_⟩; have n0_ := Aside0.mk (Kd.R_elder' (by (with_reducible repeat (first | apply Kd.R_alloc | apply Kd.R_drewN | apply Kd.R_drew)); exact HO_5.out) (Kd.R_base ho0) hb); have n1_ := Aside0.mk (Kd.R_below (by (with_reducible repeat (first | apply Kd.R_alloc | apply Kd.R_drewN | apply Kd.R_drew)); exact HO_9.out) hb); have n2_ := Aside0.mk (Kd.R_lower (Kd.R_new' ho0 (Kd.R_lt (by (with_reducible repeat (first | apply Kd.R_alloc | apply Kd.R_drewN | apply Kd.R_drew)); exact HO_5.out))) (below_size (by repeat (first | (with_reducible first | exact HB.out | apply below_alloc | apply pw_below_drewN | apply below_drew1 | refine below_set ?_ GE228.out) | exact HB.out)))); have n3_ := Aside0.mk (blk_below (g := gb228) (o := .cells #[.string ((rd_T64 t224 x11_1).f0), .int .i32 ((rd_T64 t224 x11_1).f1), .int .i32 ((rd_T64 t224 x11_1).f2), .bool ((rd_T64 t224 x11_1).f3)] 64 (0, 0)) (by (with_reducible repeat (first | refine blk_drewN ?_ _ | refine blk_drew ?_ | refine blk_alloc ?_ _)); exact BK228.out) hb); have n4_ := Aside0.mk (below_step (by repeat (first | (with_reducible first | exact HB.out | apply below_alloc | apply pw_below_drewN | apply below_drew1 | refine below_set ?_ GE228.out) | exact HB.out)) hb); clear HO_5; clear HO_9; clear BK228; clear HB; have HO_5 := n0_; have HO_9 := n1_; have HO238 := n2_; have BK228 := n3_; have HB := n4_; clear n0_ n1_ n2_ n3_ n4_; (try clear hb); (try clear hb2); (try clear hk); (try clear hi); (try clear ho0)))
              go_roundg kj9
              case measure => have := HK1.out; have := HJ9.out; omega
              case rel => exact ⟨(wrap64 ((((rd_T64 t224 x11_1).f0).size : Int) + 1)), (t236), (wrap64 (x11_1 + 1)), (by first | rfl | (simp; done) | (simp [*]; done) | (unfold bt; split <;> first | rfl | (exfalso; simp_all; done) | (exfalso; simp_all; omega))), (by first | rfl | (simp; done) | (simp [*]; done) | (unfold bt; split <;> first | rfl | (exfalso; simp_all; done) | (exfalso; simp_all; omega))), H', ⟨by have := HK1.out; have := HJ9.out; omega⟩, ⟨by (with_reducible repeat (first | apply Kd.R_alloc | apply Kd.R_drewN | apply Kd.R_drew)); exact Kd.R_mono HO238.out (fun _ hk => trivial)⟩, ⟨by (with_reducible repeat (first | apply Kd.R_alloc | apply Kd.R_drewN | apply Kd.R_drew)); exact Kd.R_mono HO_9.out (fun _ hk => trivial)⟩, ⟨by repeat (first | (with_reducible first | exact HB.out | apply below_alloc | apply pw_below_drewN | apply below_drew1 | refine below_set ?_ GE228.out) | exact HB.out)⟩⟩
             ·rw [if_neg c39] at H
              have c39b0 : decide (x4_1 < (wrap64 ((((rd_T64 t224 x11_1).f0).size : Int) + 1))) = false := decide_eq_false c39
              clear c39
              have H' := Aside0.mk H
              clear H
              have p37 : 0 ≤ ((((rd_T64 t224 x11_1).f0).size : Int) : Int) := of_decide_eq_true (by first | (with_reducible assumption) | assumption)
              have q37 : (((rd_T64 t224 x11_1).f0).size : Int) < (a0.size : Int) := of_decide_eq_true (by first | (with_reducible assumption) | assumption)
              have hx37 := bt_at a0 (((rd_T64 t224 x11_1).f0).size : Int)
              have hx37z : ∀ h : ((rd_T64 t224 x11_1).f0).size < a0.size, ((a0[((rd_T64 t224 x11_1).f0).size]'h).toNat : Int) = bt a0 (((rd_T64 t224 x11_1).f0).size : Int) := bt_at a0 (((rd_T64 t224 x11_1).f0).size : Int)
              replace p37 := eq_true p37
              replace q37 := eq_true q37
              go_wp2
              go_roundg kj9
              case measure => have := HK1.out; have := HJ9.out; omega
              case rel => exact ⟨(x4_1), (x5_1), (wrap64 (x11_1 + 1)), (by first | rfl | (simp; done) | (simp [*]; done) | (unfold bt; split <;> first | rfl | (exfalso; simp_all; done) | (exfalso; simp_all; omega))), (by first | rfl | (simp; done) | (simp [*]; done) | (unfold bt; split <;> first | rfl | (exfalso; simp_all; done) | (exfalso; simp_all; omega))), H', ⟨by have := HK1.out; have := HJ9.out; omega⟩, ⟨by (with_reducible repeat (first | apply Kd.R_alloc | apply Kd.R_drewN | apply Kd.R_drew)); exact HO_5.out⟩, ⟨by (with_reducible repeat (first | apply Kd.R_alloc | apply Kd.R_drewN | apply Kd.R_drew)); exact Kd.R_mono HO_9.out (fun _ hk => trivial)⟩, ⟨by repeat (first | (with_reducible first | exact HB.out | apply below_alloc | apply pw_below_drewN | apply below_drew1 | refine below_set ?_ GE228.out) | exact HB.out)⟩⟩
            ·rw [if_neg c38] at H
             have c38b0 : ((bt a0 (((rd_T64 t224 x11_1).f0).size : Int)) == 59) = false := beq_eq_false_iff_ne.mpr c38
             have c38b1 : ((bt a0 (((rd_T64 t224 x11_1).f0).size : Int)) != 59) = true := bne_iff_ne.mpr c38
             have H' := Aside0.mk H
             clear H
             have p37 : 0 ≤ ((((rd_T64 t224 x11_1).f0).size : Int) : Int) := of_decide_eq_true (by first | (with_reducible assumption) | assumption)
             have q37 : (((rd_T64 t224 x11_1).f0).size : Int) < (a0.size : Int) := of_decide_eq_true (by first | (with_reducible assumption) | assumption)
             have hx37 := bt_at a0 (((rd_T64 t224 x11_1).f0).size : Int)
             have hx37z : ∀ h : ((rd_T64 t224 x11_1).f0).size < a0.size, ((a0[((rd_T64 t224 x11_1).f0).size]'h).toNat : Int) = bt a0 (((rd_T64 t224 x11_1).f0).size : Int) := bt_at a0 (((rd_T64 t224 x11_1).f0).size : Int)
             replace p37 := eq_true p37
             replace q37 := eq_true q37
             go_wp2
             go_roundg kj9
             case measure => have := HK1.out; have := HJ9.out; omega
             case rel => exact ⟨(x4_1), (x5_1), (wrap64 (x11_1 + 1)), (by first | rfl | (simp; done) | (simp [*]; done) | (unfold bt; split <;> first | rfl | (exfalso; simp_all; done) | (exfalso; simp_all; omega))), (by first | rfl | (simp; done) | (simp [*]; done) | (unfold bt; split <;> first | rfl | (exfalso; simp_all; done) | (exfalso; simp_all; omega))), H', ⟨by have := HK1.out; have := HJ9.out; omega⟩, ⟨by (with_reducible repeat (first | apply Kd.R_alloc | apply Kd.R_drewN | apply Kd.R_drew)); exact HO_5.out⟩, ⟨by (with_reducible repeat (first | apply Kd.R_alloc | apply Kd.R_drewN | apply Kd.R_drew)); exact Kd.R_mono HO_9.out (fun _ hk => trivial)⟩, ⟨by repeat (first | (with_reducible first | exact HB.out | apply below_alloc | apply pw_below_drewN | apply below_drew1 | refine below_set ?_ GE228.out) | exact HB.out)⟩⟩
           ·rw [if_neg c36] at H
            exact absurd H (by simp)
          ·rw [if_neg c35] at H
           have c35b0 : decide ((((rd_T64 t224 x11_1).f0).size : Int) < (a0.size : Int)) = false := decide_eq_false c35
           have c35b1 : decide (((rd_T64 t224 x11_1).f0).size < a0.size) = false := decide_eq_false (fun h => c35 (Int.ofNat_lt.mpr h))
           clear c35
           have H' := Aside0.mk H
           clear H
           go_wp2
           go_roundg kj9
           case measure => have := HK1.out; have := HJ9.out; omega
           case rel => exact ⟨(x4_1), (x5_1), (wrap64 (x11_1 + 1)), (by first | rfl | (simp; done) | (simp [*]; done) | (unfold bt; split <;> first | rfl | (exfalso; simp_all; done) | (exfalso; simp_all; omega))), (by first | rfl | (simp; done) | (simp [*]; done) | (unfold bt; split <;> first | rfl | (exfalso; simp_all; done) | (exfalso; simp_all; omega))), H', ⟨by have := HK1.out; have := HJ9.out; omega⟩, ⟨by (with_reducible repeat (first | apply Kd.R_alloc | apply Kd.R_drewN | apply Kd.R_drew)); exact HO_5.out⟩, ⟨by (with_reducible repeat (first | apply Kd.R_alloc | apply Kd.R_drewN | apply Kd.R_drew)); exact Kd.R_mono HO_9.out (fun _ hk => trivial)⟩, ⟨by repeat (first | (with_reducible first | exact HB.out | apply below_alloc | apply pw_below_drewN | apply below_drew1 | refine below_set ?_ GE228.out) | exact HB.out)⟩⟩
      ·replace c9 := Bool.eq_false_iff.mpr c9
       subst c9
       have H1 : (sieveref05_Longest.l0 k1 a0 x4_1 x5_1 t224 (t224.length : Int) (wrap64 (x11_1 + 1))) = some (r1, r2) := by rw [if_neg (show ¬ (false = true) by decide)] at H; exact H
       clear H
       have H := H1
       clear H1
       have H' := Aside0.mk H
       clear H
       have p227 : 0 ≤ (x11_1 : Int) := of_decide_eq_true (by first | (with_reducible assumption) | assumption)
       have q227 : x11_1 < (t224.length : Int) := of_decide_eq_true (by first | (with_reducible assumption) | assumption)
       obtain ⟨ad227, e227, hx227_0, hx227_1, hx227_2, hx227_3⟩ := at_T64 (Kd.R_reads' HO_9.out).2.2 x11_1 p227 q227
       cases e227
       replace p227 := eq_true p227
       replace q227 := eq_true q227
       go_wp2_with (first | ((with_reducible refine gate_dst (N := 7) rfl ?_); refine box_event ?hg (N := 7) ?hd (cs := #[.string (⟨#[]⟩ : ByteArray), .int .i32 0, .int .i32 0, .bool false]) (t := 64) ?hr ?_; (case hd => rfl); (case hg => rfl); (case hr => first | (go_simp; done) | (go_simp; rfl)); intro gb228 hg w43 hbox hb; have n0_ := Aside0.mk (Kd.R_below (by (with_reducible repeat (first | apply Kd.R_alloc | apply Kd.R_drewN | apply Kd.R_drew)); exact HO_5.out) hb); have n1_ := Aside0.mk (Kd.R_below (Kd.R_elderB (by (with_reducible repeat (first | apply Kd.R_alloc | apply Kd.R_drewN | apply Kd.R_drew)); exact HO_9.out) gb228 (Nat.le_of_eq hg.symm)) hb); have n2_ := Aside0.mk (below_step (by repeat (first | (with_reducible first | exact HB.out | apply below_alloc | apply pw_below_drewN | apply below_drew1) | exact HB.out)) hb); have n3_ := Aside0.mk (hbox); have n4_ := Aside0.mk ((by rw [hg]; exact (below_size (by repeat (first | (with_reducible first | exact HB.out | apply below_alloc | apply pw_below_drewN | apply below_drew1) | exact HB.out))) : w.heap.size ≤ gb228)); have n5_ := Aside0.mk ((by rw [hg]; exact (below_size (by repeat (first | (with_reducible first | exact HB.out | apply below_alloc | apply pw_below_drewN | apply below_drew1) | exact HB.out))) : w.heap.size ≤ gb228)); clear HO_5; clear HO_9; clear HB; have HO_5 := n0_; have HO_9 := n1_; have HB := n2_; have BK228 := n3_; have GW228 := n4_; have GE228 := n5_; clear n0_ n1_ n2_ n3_ n4_ n5_; clear hb hbox hg; have hcz44_0 : w43.cell? ⟨gb228, 0, none⟩ = some (.string (⟨#[]⟩ : ByteArray)) := (blk_cell BK228.out 0).trans rfl; have hcz44_1 : w43.cell? ⟨gb228, 1, none⟩ = some (.int .i32 0) := (blk_cell BK228.out 1).trans rfl; have hcz44_2 : w43.cell? ⟨gb228, 2, none⟩ = some (.int .i32 0) := (blk_cell BK228.out 2).trans rfl; have hcz44_3 : w43.cell? ⟨gb228, 3, none⟩ = some (.bool false) := (blk_cell BK228.out 3).trans rfl; have hfz44_0 := blk_frozen BK228.out 0; have hfz44_1 := blk_frozen BK228.out 1; have hfz44_2 := blk_frozen BK228.out 2; have hfz44_3 := blk_frozen BK228.out 3) | ((with_reducible refine gate_callee (f := 24) rfl ?_); refine goesL_ (some 21) rfl rfl Try.func24 (by kernel_rfl) rfl #[.string a0, .string ((rd_T64 t224 x11_1).f0)] rfl (by (try simp only [List.map_toArray, List.map_cons, List.map_nil]); first | done | rfl | (simp only [List.length_drop, List.length_take]; rfl) | (simp [*] <;> rfl)) ?_; (with_reducible refine (sieveref05_Prefix.calls a0 ((rd_T64 t224 x11_1).f0) false _ A8.out).mono ?_); rintro e w' ⟨rfl, ⟨nd, rfl⟩⟩; refine ⟨_, rfl, ?_⟩))
       go_roundg k1
       case measure => have := HK1.out; omega
       case rel => exact ⟨(x4_1), (x5_1), (wrap64 (x11_1 + 1)), (by first | rfl | (simp; done) | (simp [*]; done) | (unfold bt; split <;> first | rfl | (exfalso; simp_all; done) | (exfalso; simp_all; omega))), (by first | rfl | (simp; done) | (simp [*]; done) | (unfold bt; split <;> first | rfl | (exfalso; simp_all; done) | (exfalso; simp_all; omega))), H', ⟨by have := HK1.out; omega⟩, ⟨by (with_reducible repeat (first | apply Kd.R_alloc | apply Kd.R_drewN | apply Kd.R_drew)); exact Kd.R_mono (Kd.R_far (p := ⟨gb228, 3, none⟩) (Kd.R_far (p := ⟨gb228, 2, none⟩) (Kd.R_far (p := ⟨gb228, 1, none⟩) (Kd.R_far (p := ⟨gb228, 0, none⟩) (Kd.R_types HO_5.out BK228.out (by decide)) (fun _ hk => hk.2) (.string ((rd_T64 t224 x11_1).f0))) (fun _ hk => hk.2) (.int .i32 ((rd_T64 t224 x11_1).f1))) (fun _ hk => hk.2) (.int .i32 ((rd_T64 t224 x11_1).f2))) (fun _ hk => hk.2) (.bool ((rd_T64 t224 x11_1).f3))) (fun _ hk => trivial)⟩, ⟨by (with_reducible repeat (first | apply Kd.R_alloc | apply Kd.R_drewN | apply Kd.R_drew)); exact Kd.R_mono (Kd.R_far (p := ⟨gb228, 3, none⟩) (Kd.R_far (p := ⟨gb228, 2, none⟩) (Kd.R_far (p := ⟨gb228, 1, none⟩) (Kd.R_far (p := ⟨gb228, 0, none⟩) (Kd.R_mono HO_9.out (fun k_ hk => (⟨hk, hk.2⟩ : _ ∧ k_ ≠ gb228))) (fun _ hk => hk.2) (.string ((rd_T64 t224 x11_1).f0))) (fun _ hk => hk.2) (.int .i32 ((rd_T64 t224 x11_1).f1))) (fun _ hk => hk.2) (.int .i32 ((rd_T64 t224 x11_1).f2))) (fun _ hk => hk.2) (.bool ((rd_T64 t224 x11_1).f3))) (fun _ hk => trivial)⟩, ⟨by repeat (first | (with_reducible first | exact HB.out | apply below_alloc | apply pw_below_drewN | apply below_drew1 | refine below_set ?_ GE228.out) | exact HB.out)⟩⟩
     ·rw [if_neg c7] at H
      exact absurd H (by simp)
    ·rw [if_neg c6] at H
     exact absurd H (by simp)
   ·rw [if_neg c5] at H
    have c5b0 : decide (x11_1 < (t224.length : Int)) = false := decide_eq_false c5
    clear c5
    simp only [Option.some.injEq, Prod.mk.injEq] at H
    obtain ⟨rfl, rfl⟩ := H
    go_wp2
    go_ret2
    exact ⟨_, by first | rfl | (simp [errW_none, errW_some] <;> rfl) | (simp [*, errW_none, errW_some] <;> rfl), by (with_reducible repeat (first | apply Kd.R_alloc | apply Kd.R_drewN | apply Kd.R_drew)); exact HO_5.out, by repeat (first | (with_reducible first | exact HB.out | apply below_alloc | apply pw_below_drewN | apply below_drew1) | exact HB.out)⟩

/-! ### sieveref06_Whole: function 45 -/
mutual
def sieveref06_Whole.j0 : Nat → ByteArray → Bool → Bool → Option (ByteArray × Int)
 | 0, _, _, _ => none
 | k + 1, x0, x1, x19 => if x19 = true then (if (x0.size : Int) > 1 then (if 1 < (x0.size : Int) then (if (bt x0 1) = 120 then (sieveref06_Whole.j1 k x0 1 true) else (sieveref06_Whole.j1 k x0 1 ((bt x0 1) == 88))) else (none)) else (sieveref06_Whole.j1 k x0 1 false)) else ((sieveref05_Longest.f k x0).bind fun bt246 => (if bt246.1 = 0 then (some ((⟨#[]⟩ : ByteArray), 0)) else (if x1 = true then (if 0 ≤ (wrap64 (bt246.1 - 1)) then (if (wrap64 (bt246.1 - 1)) < (x0.size : Int) then (if (bt x0 (wrap64 (bt246.1 - 1))) = 59 then (some (Hc_text bt246.2, bt246.1)) else (if bt246.1 < (x0.size : Int) then (if 0 ≤ bt246.1 then (if (bt x0 bt246.1) = 61 then (some ((⟨#[]⟩ : ByteArray), 0)) else ((sieveref04_Letter.f (wrap32 (bt x0 bt246.1))).bind fun t250 => (if t250 = true then (some ((⟨#[]⟩ : ByteArray), 0)) else ((sieveref04_Digit.f (wrap32 (bt x0 bt246.1))).bind fun t251 => (if t251 = true then (some ((⟨#[]⟩ : ByteArray), 0)) else (some (Hc_text bt246.2, bt246.1))))))) else (none)) else (some (Hc_text bt246.2, bt246.1)))) else (none)) else (none)) else (some (Hc_text bt246.2, bt246.1)))))
def sieveref06_Whole.j1 : Nat → ByteArray → Int → Bool → Option (ByteArray × Int)
 | 0, _, _, _ => none
 | k + 1, x0, x6, x7 => if x7 = true then (sieveref06_Whole.j2 k x0 2 x7) else (sieveref06_Whole.j2 k x0 x6 x7)
def sieveref06_Whole.j2 : Nat → ByteArray → Int → Bool → Option (ByteArray × Int)
 | 0, _, _, _ => none
 | k + 1, x0, x6, x7 => if 0 ≤ x6 then (if x6 ≤ (x0.size : Int) then ((sieveref06_digitsOf.f k (x0.extract (x6 : Int).toNat x0.size) x7).bind fun t239 => (if t239.toList = ([] : List UInt8) then (some ((⟨#[]⟩ : ByteArray), 0)) else (if (wrap64 (x6 + (t239.size : Int))) < (x0.size : Int) then (if 0 ≤ (wrap64 (x6 + (t239.size : Int))) then (if (bt x0 (wrap64 (x6 + (t239.size : Int)))) = 59 then ((sieveref06_Number.f k t239 x7).bind fun bt240 => (some (Utf8.encode bt240.1, wrap64 ((wrap64 (x6 + (t239.size : Int))) + 1)))) else ((sieveref06_Number.f k t239 x7).bind fun bt242 => (some (Utf8.encode bt242.1, wrap64 (x6 + (t239.size : Int)))))) else (none)) else ((sieveref06_Number.f k t239 x7).bind fun bt244 => (some (Utf8.encode bt244.1, wrap64 (x6 + (t239.size : Int)))))))) else (none)) else (none)
end
def sieveref06_Whole.f (k : Nat) (a0 : ByteArray) (a1 : Bool) : Option (ByteArray × Int) := if a0.toList = ([] : List UInt8) then (sieveref06_Whole.j0 k a0 a1 false) else (if 0 < (a0.size : Int) then (sieveref06_Whole.j0 k a0 a1 ((bt a0 0) == 35)) else (none))
set_option maxHeartbeats 8000000 in
set_option maxRecDepth 100000 in
theorem sieveref06_Whole.calls (k : Nat) (a0 : ByteArray) (a1 : Bool) (r1 : ByteArray) (r2 : Int) (w : World) (h : sieveref06_Whole.f k a0 a1 = some (r1, r2)) :
  Calls Try.prog 45 #[.string a0, .bool a1] w fun e w' => e = .returned (.tuple #[.string r1, .int .i64 r2]) ∧ Below w.heap.size w w' := by
 have HB := Aside0.mk (Below.refl w.heap.size w)
 have H : (if a0.toList = ([] : List UInt8) then (sieveref06_Whole.j0 k a0 a1 false) else (if 0 < (a0.size : Int) then (sieveref06_Whole.j0 k a0 a1 ((bt a0 0) == 35)) else (none))) = some (r1, r2) := h
 clear h
 have HC3 := Aside0.mk H
 clear H
 go_enter Try.func45, Try.ntmps45
 go_upto_region 1 with (fail)
 go_cut [19] (fun v19 wc => ∃ (kq : Nat) (x19_2 : Bool), v19 = .bool x19_2 ∧ Aside0 (sieveref06_Whole.j0 kq a0 a1 x19_2 = some (r1, r2)) ∧ Aside0 (kq ≤ k) ∧ Aside0 (Below w.heap.size w wc))
 case first =>
  have H := HC3.out
  clear HC3
  by_cases c4 : a0.toList = ([] : List UInt8)
  ·rw [if_pos c4] at H
   have c4b0 : (a0.toList == ([] : List UInt8)) = true := beq_iff_eq.mpr c4
   have c4b1 : (a0.toList != ([] : List UInt8)) = false := bne_eq_false_iff_eq.mpr c4
   clear c4
   (first | rw [c4b0] | (simp only [i64_w, i32_w]; rw [c4b0]) | skip)
   have H' := Aside0.mk H
   clear H
   go_wp2
   go_meet
   case rel => exact ⟨_, (false), (by first | rfl | (simp; done) | (simp [*]; done) | (unfold bt; split <;> first | rfl | (exfalso; simp_all; done) | (exfalso; simp_all; omega))), H', ⟨by first | omega | exact Nat.le_refl _⟩, ⟨by repeat (first | (with_reducible first | exact HB.out | apply below_alloc | apply pw_below_drewN | apply below_drew1) | exact HB.out)⟩⟩
  ·rw [if_neg c4] at H
   have c4b0 : (a0.toList == ([] : List UInt8)) = false := beq_eq_false_iff_ne.mpr c4
   have c4b1 : (a0.toList != ([] : List UInt8)) = true := bne_iff_ne.mpr c4
   (first | rw [c4b0] | (simp only [i64_w, i32_w]; rw [c4b0]) | skip)
   by_cases c5 : 0 < (a0.size : Int)
   ·rw [if_pos c5] at H
    have c5b0 : decide (0 < (a0.size : Int)) = true := decide_eq_true c5
    have c5b1 : decide (0 < a0.size) = true := decide_eq_true (by omega)
    clear c5
    have H' := Aside0.mk H
    clear H
    have p6 : 0 ≤ (0 : Int) := (by omega)
    have q6 : 0 < a0.size := (by have : (0 : Int) < (a0.size : Int) := of_decide_eq_true (by first | (with_reducible assumption) | assumption); omega)
    have hx6 : ∀ h : 0 < a0.size, ((a0[0]'h).toNat : Int) = bt a0 0 := bt_at a0 0
    clear p6
    have qi6 : (0 < (a0.size : Int)) = True := eq_true (of_decide_eq_true (by first | (with_reducible assumption) | assumption))
    replace q6 := eq_true q6
    go_wp2
    go_meet
    case rel => exact ⟨_, (((bt a0 0) == 35)), (by first | rfl | (simp; done) | (simp [*]; done) | (unfold bt; split <;> first | rfl | (exfalso; simp_all; done) | (exfalso; simp_all; omega))), H', ⟨by first | omega | exact Nat.le_refl _⟩, ⟨by repeat (first | (with_reducible first | exact HB.out | apply below_alloc | apply pw_below_drewN | apply below_drew1) | exact HB.out)⟩⟩
   ·rw [if_neg c5] at H
    exact absurd H (by simp)
 case rest =>
  clear HC3
  try clear p2
  try clear c4
  try clear c4b0
  try clear c4b1
  try clear c5
  try clear c5b0
  try clear c5b1
  try clear p6
  try clear q6
  try clear hx6
  try clear qi6
  try clear p6
  try clear q6
  obtain ⟨kq, x19_2, rfl, HA, HJ2, HB⟩ := hcut
  cases kq with
  | zero => exact absurd HA.out (by simp [sieveref06_Whole.j0])
  | succ kj2 =>
   have H := HA.out
   clear HA
   simp only [sieveref06_Whole.j0] at H
   by_cases c7 : x19_2 = true
   ·subst c7
    have H1 : (if (a0.size : Int) > 1 then (if 1 < (a0.size : Int) then (if (bt a0 1) = 120 then (sieveref06_Whole.j1 kj2 a0 1 true) else (sieveref06_Whole.j1 kj2 a0 1 ((bt a0 1) == 88))) else (none)) else (sieveref06_Whole.j1 kj2 a0 1 false)) = some (r1, r2) := by rw [if_pos rfl] at H; exact H
    clear H
    have H := H1
    clear H1
    have HC8 := Aside0.mk H
    clear H
    go_upto_region 3 with (fail)
    go_cut [7] (fun v7 wc => ∃ (kq : Nat) (x7_7 : Bool), v7 = .bool x7_7 ∧ Aside0 (sieveref06_Whole.j1 kq a0 1 x7_7 = some (r1, r2)) ∧ Aside0 (kq ≤ kj2) ∧ Aside0 (Below w.heap.size w wc))
    case first =>
     have H := HC8.out
     clear HC8
     by_cases c9 : (a0.size : Int) > 1
     ·rw [if_pos c9] at H
      have c9b0 : decide (1 < (a0.size : Int)) = true := decide_eq_true c9
      have c9b1 : decide (1 < a0.size) = true := decide_eq_true (by omega)
      clear c9
      (first | rw [c9b0] | (simp only [i64_w, i32_w]; rw [c9b0]) | skip)
      by_cases c10 : 1 < (a0.size : Int)
      ·rw [if_pos c10] at H
       have c10b0 : decide (1 < (a0.size : Int)) = true := decide_eq_true c10
       have c10b1 : decide (1 < a0.size) = true := decide_eq_true (by omega)
       clear c10
       by_cases c12 : (bt a0 1) = 120
       ·rw [if_pos c12] at H
        have c12b0 : ((bt a0 1) == 120) = true := beq_iff_eq.mpr c12
        have c12b1 : ((bt a0 1) != 120) = false := bne_eq_false_iff_eq.mpr c12
        clear c12
        have H' := Aside0.mk H
        clear H
        have p11 : 0 ≤ (1 : Int) := (by omega)
        have q11 : 1 < a0.size := (by have : (1 : Int) < (a0.size : Int) := of_decide_eq_true (by first | (with_reducible assumption) | assumption); omega)
        have hx11 : ∀ h : 1 < a0.size, ((a0[1]'h).toNat : Int) = bt a0 1 := bt_at a0 1
        clear p11
        have qi11 : (1 < (a0.size : Int)) = True := eq_true (of_decide_eq_true (by first | (with_reducible assumption) | assumption))
        replace q11 := eq_true q11
        go_wp2
        go_meet
        case rel => exact ⟨_, (true), (by first | rfl | (simp; done) | (simp [*]; done) | (unfold bt; split <;> first | rfl | (exfalso; simp_all; done) | (exfalso; simp_all; omega))), H', ⟨by have := HJ2.out; first | omega | exact Nat.le_refl _⟩, ⟨by repeat (first | (with_reducible first | exact HB.out | apply below_alloc | apply pw_below_drewN | apply below_drew1) | exact HB.out)⟩⟩
       ·rw [if_neg c12] at H
        have c12b0 : ((bt a0 1) == 120) = false := beq_eq_false_iff_ne.mpr c12
        have c12b1 : ((bt a0 1) != 120) = true := bne_iff_ne.mpr c12
        have H' := Aside0.mk H
        clear H
        have p11 : 0 ≤ (1 : Int) := (by omega)
        have q11 : 1 < a0.size := (by have : (1 : Int) < (a0.size : Int) := of_decide_eq_true (by first | (with_reducible assumption) | assumption); omega)
        have hx11 : ∀ h : 1 < a0.size, ((a0[1]'h).toNat : Int) = bt a0 1 := bt_at a0 1
        clear p11
        have qi11 : (1 < (a0.size : Int)) = True := eq_true (of_decide_eq_true (by first | (with_reducible assumption) | assumption))
        replace q11 := eq_true q11
        have p13 : 0 ≤ (1 : Int) := (by omega)
        have q13 : 1 < a0.size := (by have : (1 : Int) < (a0.size : Int) := of_decide_eq_true (by first | (with_reducible assumption) | assumption); omega)
        have hx13 : ∀ h : 1 < a0.size, ((a0[1]'h).toNat : Int) = bt a0 1 := bt_at a0 1
        clear p13
        have qi13 : (1 < (a0.size : Int)) = True := eq_true (of_decide_eq_true (by first | (with_reducible assumption) | assumption))
        replace q13 := eq_true q13
        go_wp2
        go_meet
        case rel => exact ⟨_, (((bt a0 1) == 88)), (by first | rfl | (simp; done) | (simp [*]; done) | (unfold bt; split <;> first | rfl | (exfalso; simp_all; done) | (exfalso; simp_all; omega))), H', ⟨by have := HJ2.out; first | omega | exact Nat.le_refl _⟩, ⟨by repeat (first | (with_reducible first | exact HB.out | apply below_alloc | apply pw_below_drewN | apply below_drew1) | exact HB.out)⟩⟩
      ·rw [if_neg c10] at H
       exact absurd H (by simp)
     ·rw [if_neg c9] at H
      have c9b0 : decide (1 < (a0.size : Int)) = false := decide_eq_false c9
      have c9b1 : decide (1 < a0.size) = false := decide_eq_false (by omega)
      clear c9
      (first | rw [c9b0] | (simp only [i64_w, i32_w]; rw [c9b0]) | skip)
      have H' := Aside0.mk H
      clear H
      go_wp2
      go_meet
      case rel => exact ⟨_, (false), (by first | rfl | (simp; done) | (simp [*]; done) | (unfold bt; split <;> first | rfl | (exfalso; simp_all; done) | (exfalso; simp_all; omega))), H', ⟨by have := HJ2.out; first | omega | exact Nat.le_refl _⟩, ⟨by repeat (first | (with_reducible first | exact HB.out | apply below_alloc | apply pw_below_drewN | apply below_drew1) | exact HB.out)⟩⟩
    case rest =>
     clear HC8
     try clear c1
     try clear p1
     try clear q1
     try clear hx1
     try clear qi1
     try clear p2
     try clear c4
     try clear c4b0
     try clear c4b1
     try clear c5
     try clear c5b0
     try clear c5b1
     try clear p6
     try clear q6
     try clear hx6
     try clear qi6
     try clear c7
     try clear c9
     try clear c9b0
     try clear c9b1
     try clear c10
     try clear c10b0
     try clear c10b1
     try clear p11
     try clear q11
     try clear hx11
     try clear qi11
     try clear c12
     try clear c12b0
     try clear c12b1
     try clear p13
     try clear q13
     try clear hx13
     try clear qi13
     try clear p11
     try clear p13
     try clear p2
     try clear p6
     try clear q11
     try clear q13
     try clear q6
     obtain ⟨kq, x7_7, rfl, HA, HJ7, HB⟩ := hcut
     cases kq with
     | zero => exact absurd HA.out (by simp [sieveref06_Whole.j1])
     | succ kj7 =>
      have H := HA.out
      clear HA
      simp only [sieveref06_Whole.j1] at H
      have HC14 := Aside0.mk H
      clear H
      go_upto_if 33 with (fail)
      go_cut [6] (fun v6 wc => ∃ (kq : Nat) (x6_13 : Int), v6 = .int .i64 x6_13 ∧ Aside0 (sieveref06_Whole.j2 kq a0 x6_13 x7_7 = some (r1, r2)) ∧ Aside0 (kq ≤ kj7) ∧ Aside0 (Below w.heap.size w wc))
      case first =>
       have H := HC14.out
       clear HC14
       by_cases c15 : x7_7 = true
       ·subst c15
        have H1 : (sieveref06_Whole.j2 kj7 a0 2 true) = some (r1, r2) := by rw [if_pos rfl] at H; exact H
        clear H
        have H := H1
        clear H1
        have H' := Aside0.mk H
        clear H
        go_wp2
        go_meet
        case rel => exact ⟨_, (2), (by first | rfl | (simp; done) | (simp [*]; done) | (unfold bt; split <;> first | rfl | (exfalso; simp_all; done) | (exfalso; simp_all; omega))), H', ⟨by have := HJ2.out; have := HJ7.out; first | omega | exact Nat.le_refl _⟩, ⟨by repeat (first | (with_reducible first | exact HB.out | apply below_alloc | apply pw_below_drewN | apply below_drew1) | exact HB.out)⟩⟩
       ·replace c15 := Bool.eq_false_iff.mpr c15
        subst c15
        have H1 : (sieveref06_Whole.j2 kj7 a0 1 false) = some (r1, r2) := by rw [if_neg (show ¬ (false = true) by decide)] at H; exact H
        clear H
        have H := H1
        clear H1
        have H' := Aside0.mk H
        clear H
        go_wp2
        go_meet
        case rel => exact ⟨_, (1), (by first | rfl | (simp; done) | (simp [*]; done) | (unfold bt; split <;> first | rfl | (exfalso; simp_all; done) | (exfalso; simp_all; omega))), H', ⟨by have := HJ2.out; have := HJ7.out; first | omega | exact Nat.le_refl _⟩, ⟨by repeat (first | (with_reducible first | exact HB.out | apply below_alloc | apply pw_below_drewN | apply below_drew1) | exact HB.out)⟩⟩
      case rest =>
       clear HC14
       try clear c1
       try clear p1
       try clear q1
       try clear hx1
       try clear qi1
       try clear p2
       try clear c4
       try clear c4b0
       try clear c4b1
       try clear c5
       try clear c5b0
       try clear c5b1
       try clear p6
       try clear q6
       try clear hx6
       try clear qi6
       try clear c7
       try clear c9
       try clear c9b0
       try clear c9b1
       try clear c10
       try clear c10b0
       try clear c10b1
       try clear p11
       try clear q11
       try clear hx11
       try clear qi11
       try clear c12
       try clear c12b0
       try clear c12b1
       try clear p13
       try clear q13
       try clear hx13
       try clear qi13
       try clear c15
       try clear p1
       try clear p11
       try clear p13
       try clear p2
       try clear p6
       try clear q1
       try clear q11
       try clear q13
       try clear q6
       obtain ⟨kq, x6_13, rfl, HA, HJ13, HB⟩ := hcut
       cases kq with
       | zero => exact absurd HA.out (by simp [sieveref06_Whole.j2])
       | succ kj13 =>
        have H := HA.out
        clear HA
        simp only [sieveref06_Whole.j2] at H
        by_cases c16 : 0 ≤ x6_13
        ·rw [if_pos c16] at H
         have c16b0 := eq_true c16
         have c16b1 : decide (0 ≤ x6_13) = true := decide_eq_true c16
         clear c16
         by_cases c17 : x6_13 ≤ (a0.size : Int)
         ·rw [if_pos c17] at H
          have c17b0 := eq_true c17
          have c17b1 : decide (x6_13 ≤ (a0.size : Int)) = true := decide_eq_true c17
          clear c17
          replace H := Option.bind_eq_some_iff.mp H
          obtain ⟨t239, A180, H⟩ := H
          replace H : (if t239.toList = ([] : List UInt8) then (some ((⟨#[]⟩ : ByteArray), 0)) else (if (wrap64 (x6_13 + (t239.size : Int))) < (a0.size : Int) then (if 0 ≤ (wrap64 (x6_13 + (t239.size : Int))) then (if (bt a0 (wrap64 (x6_13 + (t239.size : Int)))) = 59 then ((sieveref06_Number.f kj13 t239 x7_7).bind fun bt240 => (some (Utf8.encode bt240.1, wrap64 ((wrap64 (x6_13 + (t239.size : Int))) + 1)))) else ((sieveref06_Number.f kj13 t239 x7_7).bind fun bt242 => (some (Utf8.encode bt242.1, wrap64 (x6_13 + (t239.size : Int)))))) else (none)) else ((sieveref06_Number.f kj13 t239 x7_7).bind fun bt244 => (some (Utf8.encode bt244.1, wrap64 (x6_13 + (t239.size : Int))))))) = some (r1, r2) := H
          have A18 := Aside0.mk A180
          clear A180
          by_cases c19 : t239.toList = ([] : List UInt8)
          ·rw [if_pos c19] at H
           have c19b0 : (t239.toList == ([] : List UInt8)) = true := beq_iff_eq.mpr c19
           have c19b1 : (t239.toList != ([] : List UInt8)) = false := bne_eq_false_iff_eq.mpr c19
           clear c19
           simp only [Option.some.injEq, Prod.mk.injEq] at H
           obtain ⟨rfl, rfl⟩ := H
           go_wp2_with (first | ((with_reducible refine gate_callee (f := 61) rfl ?_); refine goesL_ (some 38) rfl rfl Try.func61 (by kernel_rfl) rfl #[.string (a0.extract (x6_13 : Int).toNat a0.size), .bool x7_7] rfl (by (try simp only [List.map_toArray, List.map_cons, List.map_nil]); first | done | rfl | (simp only [List.length_drop, List.length_take]; rfl) | (simp [*] <;> rfl)) ?_; (with_reducible refine (sieveref06_digitsOf.calls kj13 (a0.extract (x6_13 : Int).toNat a0.size) x7_7 t239 _ A18.out).mono ?_); rintro e w' ⟨rfl, ⟨nd, rfl⟩⟩; refine ⟨_, rfl, ?_⟩))
           go_ret2
           exact ⟨by first | rfl | (simp [errW_none, errW_some] <;> rfl) | (simp [*, errW_none, errW_some] <;> rfl), by repeat (first | (with_reducible first | exact HB.out | apply below_alloc | apply pw_below_drewN | apply below_drew1) | exact HB.out)⟩
          ·rw [if_neg c19] at H
           have c19b0 : (t239.toList == ([] : List UInt8)) = false := beq_eq_false_iff_ne.mpr c19
           have c19b1 : (t239.toList != ([] : List UInt8)) = true := bne_iff_ne.mpr c19
           by_cases c20 : (wrap64 (x6_13 + (t239.size : Int))) < (a0.size : Int)
           ·rw [if_pos c20] at H
            have c20b0 : decide ((wrap64 (x6_13 + (t239.size : Int))) < (a0.size : Int)) = true := decide_eq_true c20
            clear c20
            obtain ⟨ji21, hji21⟩ : ∃ j_ : Int, (wrap64 (x6_13 + (t239.size : Int))) = j_ := ⟨_, rfl⟩
            replace H : (if 0 ≤ (ji21) then (if (bt a0 (ji21)) = 59 then ((sieveref06_Number.f kj13 t239 x7_7).bind fun bt240 => (some (Utf8.encode bt240.1, wrap64 ((ji21) + 1)))) else ((sieveref06_Number.f kj13 t239 x7_7).bind fun bt242 => (some (Utf8.encode bt242.1, ji21)))) else (none)) = some (r1, r2) := by first | (rw [hji21] at H; exact H) | (simp only [hji21] at H ⊢; exact H)
            (try rw [hji21] at c20b0)
            (try rw [hji21] at A18)
            have hji21w : (IntKind.i64.wrap (x6_13 + (t239.size : Int))) = ji21 := (i64_w _).trans hji21
            by_cases c22 : 0 ≤ (ji21)
            ·rw [if_pos c22] at H
             have c22b0 : decide (0 ≤ (ji21)) = true := decide_eq_true c22
             clear c22
             by_cases c24 : (bt a0 (ji21)) = 59
             ·rw [if_pos c24] at H
              have c24b0 : ((bt a0 (ji21)) == 59) = true := beq_iff_eq.mpr c24
              have c24b1 : ((bt a0 (ji21)) != 59) = false := bne_eq_false_iff_eq.mpr c24
              clear c24
              replace H := Option.bind_eq_some_iff.mp H
              obtain ⟨⟨t240, t241⟩, A250, H⟩ := H
              replace H : (some (Utf8.encode t240, wrap64 ((ji21) + 1))) = some (r1, r2) := H
              have A25 := Aside0.mk A250
              clear A250
              simp only [Option.some.injEq, Prod.mk.injEq] at H
              obtain ⟨rfl, rfl⟩ := H
              go_wp2_with (first | ((with_reducible refine gate_callee (f := 61) rfl ?_); refine goesL_ (some 38) rfl rfl Try.func61 (by kernel_rfl) rfl #[.string (a0.extract (x6_13 : Int).toNat a0.size), .bool x7_7] rfl (by (try simp only [List.map_toArray, List.map_cons, List.map_nil]); first | done | rfl | (simp only [List.length_drop, List.length_take]; rfl) | (simp [*] <;> rfl)) ?_; (with_reducible refine (sieveref06_digitsOf.calls kj13 (a0.extract (x6_13 : Int).toNat a0.size) x7_7 t239 _ A18.out).mono ?_); rintro e w' ⟨rfl, ⟨nd, rfl⟩⟩; refine ⟨_, rfl, ?_⟩; have p23 : 0 ≤ ((ji21) : Int) := of_decide_eq_true (by first | (with_reducible assumption) | assumption); have q23 : (ji21) < (a0.size : Int) := of_decide_eq_true (by first | (with_reducible assumption) | assumption); have hx23 := bt_at a0 (ji21); replace p23 := eq_true p23; replace q23 := eq_true q23) | ((with_reducible refine gate_callee (f := 62) rfl ?_); refine goesL_ (some 60) rfl rfl Try.func62 (by kernel_rfl) rfl #[.string t239, .bool x7_7] rfl (by (try simp only [List.map_toArray, List.map_cons, List.map_nil]); first | done | rfl | (simp only [List.length_drop, List.length_take]; rfl) | (simp [*] <;> rfl)) ?_; (with_reducible refine (sieveref06_Number.calls kj13 t239 x7_7 t240 t241 _ A25.out).mono ?_); rintro e w26 ⟨rfl, hb⟩; refine ⟨_, rfl, ?_⟩; have n0_ := Aside0.mk (below_step (by repeat (first | (with_reducible first | exact HB.out | apply below_alloc | apply pw_below_drewN | apply below_drew1) | exact HB.out)) hb); clear HB; have HB := n0_; clear n0_; (try clear hb); (try clear hb2); (try clear hk); (try clear hi)))
              go_ret2
              exact ⟨by first | rfl | (simp [errW_none, errW_some] <;> rfl) | (simp only [← hji21]; first | rfl | (simp [errW_none, errW_some] <;> rfl)) | (simp [*, errW_none, errW_some] <;> rfl), by repeat (first | (with_reducible first | exact HB.out | apply below_alloc | apply pw_below_drewN | apply below_drew1) | exact HB.out)⟩
             ·rw [if_neg c24] at H
              have c24b0 : ((bt a0 (ji21)) == 59) = false := beq_eq_false_iff_ne.mpr c24
              have c24b1 : ((bt a0 (ji21)) != 59) = true := bne_iff_ne.mpr c24
              replace H := Option.bind_eq_some_iff.mp H
              obtain ⟨⟨t242, t243⟩, A270, H⟩ := H
              replace H : (some (Utf8.encode t242, ji21)) = some (r1, r2) := H
              have A27 := Aside0.mk A270
              clear A270
              simp only [Option.some.injEq, Prod.mk.injEq] at H
              obtain ⟨rfl, rfl⟩ := H
              go_wp2_with (first | ((with_reducible refine gate_callee (f := 61) rfl ?_); refine goesL_ (some 38) rfl rfl Try.func61 (by kernel_rfl) rfl #[.string (a0.extract (x6_13 : Int).toNat a0.size), .bool x7_7] rfl (by (try simp only [List.map_toArray, List.map_cons, List.map_nil]); first | done | rfl | (simp only [List.length_drop, List.length_take]; rfl) | (simp [*] <;> rfl)) ?_; (with_reducible refine (sieveref06_digitsOf.calls kj13 (a0.extract (x6_13 : Int).toNat a0.size) x7_7 t239 _ A18.out).mono ?_); rintro e w' ⟨rfl, ⟨nd, rfl⟩⟩; refine ⟨_, rfl, ?_⟩; have p23 : 0 ≤ ((ji21) : Int) := of_decide_eq_true (by first | (with_reducible assumption) | assumption); have q23 : (ji21) < (a0.size : Int) := of_decide_eq_true (by first | (with_reducible assumption) | assumption); have hx23 := bt_at a0 (ji21); replace p23 := eq_true p23; replace q23 := eq_true q23) | ((with_reducible refine gate_callee (f := 62) rfl ?_); refine goesL_ (some 60) rfl rfl Try.func62 (by kernel_rfl) rfl #[.string t239, .bool x7_7] rfl (by (try simp only [List.map_toArray, List.map_cons, List.map_nil]); first | done | rfl | (simp only [List.length_drop, List.length_take]; rfl) | (simp [*] <;> rfl)) ?_; (with_reducible refine (sieveref06_Number.calls kj13 t239 x7_7 t242 t243 _ A27.out).mono ?_); rintro e w28 ⟨rfl, hb⟩; refine ⟨_, rfl, ?_⟩; have n0_ := Aside0.mk (below_step (by repeat (first | (with_reducible first | exact HB.out | apply below_alloc | apply pw_below_drewN | apply below_drew1) | exact HB.out)) hb); clear HB; have HB := n0_; clear n0_; (try clear hb); (try clear hb2); (try clear hk); (try clear hi)))
              go_ret2
              exact ⟨by first | rfl | (simp [errW_none, errW_some] <;> rfl) | (simp only [← hji21]; first | rfl | (simp [errW_none, errW_some] <;> rfl)) | (simp [*, errW_none, errW_some] <;> rfl), by repeat (first | (with_reducible first | exact HB.out | apply below_alloc | apply pw_below_drewN | apply below_drew1) | exact HB.out)⟩
            ·rw [if_neg c22] at H
             exact absurd H (by simp)
           ·rw [if_neg c20] at H
            have c20b0 : decide ((wrap64 (x6_13 + (t239.size : Int))) < (a0.size : Int)) = false := decide_eq_false c20
            clear c20
            replace H := Option.bind_eq_some_iff.mp H
            obtain ⟨⟨t244, t245⟩, A290, H⟩ := H
            replace H : (some (Utf8.encode t244, wrap64 (x6_13 + (t239.size : Int)))) = some (r1, r2) := H
            have A29 := Aside0.mk A290
            clear A290
            simp only [Option.some.injEq, Prod.mk.injEq] at H
            obtain ⟨rfl, rfl⟩ := H
            go_wp2_with (first | ((with_reducible refine gate_callee (f := 61) rfl ?_); refine goesL_ (some 38) rfl rfl Try.func61 (by kernel_rfl) rfl #[.string (a0.extract (x6_13 : Int).toNat a0.size), .bool x7_7] rfl (by (try simp only [List.map_toArray, List.map_cons, List.map_nil]); first | done | rfl | (simp only [List.length_drop, List.length_take]; rfl) | (simp [*] <;> rfl)) ?_; (with_reducible refine (sieveref06_digitsOf.calls kj13 (a0.extract (x6_13 : Int).toNat a0.size) x7_7 t239 _ A18.out).mono ?_); rintro e w' ⟨rfl, ⟨nd, rfl⟩⟩; refine ⟨_, rfl, ?_⟩) | ((with_reducible refine gate_callee (f := 62) rfl ?_); refine goesL_ (some 60) rfl rfl Try.func62 (by kernel_rfl) rfl #[.string t239, .bool x7_7] rfl (by (try simp only [List.map_toArray, List.map_cons, List.map_nil]); first | done | rfl | (simp only [List.length_drop, List.length_take]; rfl) | (simp [*] <;> rfl)) ?_; (with_reducible refine (sieveref06_Number.calls kj13 t239 x7_7 t244 t245 _ A29.out).mono ?_); rintro e w30 ⟨rfl, hb⟩; refine ⟨_, rfl, ?_⟩; have n0_ := Aside0.mk (below_step (by repeat (first | (with_reducible first | exact HB.out | apply below_alloc | apply pw_below_drewN | apply below_drew1) | exact HB.out)) hb); clear HB; have HB := n0_; clear n0_; (try clear hb); (try clear hb2); (try clear hk); (try clear hi)))
            go_ret2
            exact ⟨by first | rfl | (simp [errW_none, errW_some] <;> rfl) | (simp [*, errW_none, errW_some] <;> rfl), by repeat (first | (with_reducible first | exact HB.out | apply below_alloc | apply pw_below_drewN | apply below_drew1) | exact HB.out)⟩
         ·rw [if_neg c17] at H
          exact absurd H (by simp)
        ·rw [if_neg c16] at H
         exact absurd H (by simp)
   ·replace c7 := Bool.eq_false_iff.mpr c7
    subst c7
    have H1 : ((sieveref05_Longest.f kj2 a0).bind fun bt246 => (if bt246.1 = 0 then (some ((⟨#[]⟩ : ByteArray), 0)) else (if a1 = true then (if 0 ≤ (wrap64 (bt246.1 - 1)) then (if (wrap64 (bt246.1 - 1)) < (a0.size : Int) then (if (bt a0 (wrap64 (bt246.1 - 1))) = 59 then (some (Hc_text bt246.2, bt246.1)) else (if bt246.1 < (a0.size : Int) then (if 0 ≤ bt246.1 then (if (bt a0 bt246.1) = 61 then (some ((⟨#[]⟩ : ByteArray), 0)) else ((sieveref04_Letter.f (wrap32 (bt a0 bt246.1))).bind fun t250 => (if t250 = true then (some ((⟨#[]⟩ : ByteArray), 0)) else ((sieveref04_Digit.f (wrap32 (bt a0 bt246.1))).bind fun t251 => (if t251 = true then (some ((⟨#[]⟩ : ByteArray), 0)) else (some (Hc_text bt246.2, bt246.1))))))) else (none)) else (some (Hc_text bt246.2, bt246.1)))) else (none)) else (none)) else (some (Hc_text bt246.2, bt246.1))))) = some (r1, r2) := by rw [if_neg (show ¬ (false = true) by decide)] at H; exact H
    clear H
    have H := H1
    clear H1
    replace H := Option.bind_eq_some_iff.mp H
    obtain ⟨⟨t246, t247⟩, A310, H⟩ := H
    replace H : (if t246 = 0 then (some ((⟨#[]⟩ : ByteArray), 0)) else (if a1 = true then (if 0 ≤ (wrap64 (t246 - 1)) then (if (wrap64 (t246 - 1)) < (a0.size : Int) then (if (bt a0 (wrap64 (t246 - 1))) = 59 then (some (Hc_text t247, t246)) else (if t246 < (a0.size : Int) then (if 0 ≤ t246 then (if (bt a0 t246) = 61 then (some ((⟨#[]⟩ : ByteArray), 0)) else ((sieveref04_Letter.f (wrap32 (bt a0 t246))).bind fun t250 => (if t250 = true then (some ((⟨#[]⟩ : ByteArray), 0)) else ((sieveref04_Digit.f (wrap32 (bt a0 t246))).bind fun t251 => (if t251 = true then (some ((⟨#[]⟩ : ByteArray), 0)) else (some (Hc_text t247, t246))))))) else (none)) else (some (Hc_text t247, t246)))) else (none)) else (none)) else (some (Hc_text t247, t246)))) = some (r1, r2) := H
    have A31 := Aside0.mk A310
    clear A310
    by_cases c32 : t246 = 0
    ·rw [if_pos c32] at H
     have c32b0 : (t246 == 0) = true := beq_iff_eq.mpr c32
     have c32b1 : (t246 != 0) = false := bne_eq_false_iff_eq.mpr c32
     clear c32
     simp only [Option.some.injEq, Prod.mk.injEq] at H
     obtain ⟨rfl, rfl⟩ := H
     go_wp2_with (first | ((with_reducible refine gate_callee (f := 63) rfl ?_); refine goesL_ (some 68) rfl rfl Try.func63 (by kernel_rfl) rfl #[.string a0] rfl (by (try simp only [List.map_toArray, List.map_cons, List.map_nil]); first | done | rfl | (simp only [List.length_drop, List.length_take]; rfl) | (simp [*] <;> rfl)) ?_; (with_reducible refine (sieveref05_Longest.calls kj2 a0 t246 t247 _ A31.out).mono ?_); rintro e w33 ⟨v248, rfl, ho0, hb⟩; refine ⟨_, rfl, ?_⟩; have n0_ := Aside0.mk (Kd.R_lower ho0 (below_size (by repeat (first | (with_reducible first | exact HB.out | apply below_alloc | apply pw_below_drewN | apply below_drew1) | exact HB.out)))); have n1_ := Aside0.mk (below_step (by repeat (first | (with_reducible first | exact HB.out | apply below_alloc | apply pw_below_drewN | apply below_drew1) | exact HB.out)) hb); clear HB; have HO249 := n0_; have HB := n1_; clear n0_ n1_; (try clear hb); (try clear hb2); (try clear hk); (try clear hi); (try clear ho0)))
     go_ret2
     exact ⟨by first | rfl | (simp [errW_none, errW_some] <;> rfl) | (simp [*, errW_none, errW_some] <;> rfl), by repeat (first | (with_reducible first | exact HB.out | apply below_alloc | apply pw_below_drewN | apply below_drew1) | exact HB.out)⟩
    ·rw [if_neg c32] at H
     have c32b0 : (t246 == 0) = false := beq_eq_false_iff_ne.mpr c32
     have c32b1 : (t246 != 0) = true := bne_iff_ne.mpr c32
     by_cases c34 : a1 = true
     ·subst c34
      have H1 : (if 0 ≤ (wrap64 (t246 - 1)) then (if (wrap64 (t246 - 1)) < (a0.size : Int) then (if (bt a0 (wrap64 (t246 - 1))) = 59 then (some (Hc_text t247, t246)) else (if t246 < (a0.size : Int) then (if 0 ≤ t246 then (if (bt a0 t246) = 61 then (some ((⟨#[]⟩ : ByteArray), 0)) else ((sieveref04_Letter.f (wrap32 (bt a0 t246))).bind fun t250 => (if t250 = true then (some ((⟨#[]⟩ : ByteArray), 0)) else ((sieveref04_Digit.f (wrap32 (bt a0 t246))).bind fun t251 => (if t251 = true then (some ((⟨#[]⟩ : ByteArray), 0)) else (some (Hc_text t247, t246))))))) else (none)) else (some (Hc_text t247, t246)))) else (none)) else (none)) = some (r1, r2) := by rw [if_pos rfl] at H; exact H
      clear H
      have H := H1
      clear H1
      obtain ⟨ji35, hji35⟩ : ∃ j_ : Int, (wrap64 (t246 - 1)) = j_ := ⟨_, rfl⟩
      replace H : (if 0 ≤ (ji35) then (if (ji35) < (a0.size : Int) then (if (bt a0 (ji35)) = 59 then (some (Hc_text t247, t246)) else (if t246 < (a0.size : Int) then (if 0 ≤ t246 then (if (bt a0 t246) = 61 then (some ((⟨#[]⟩ : ByteArray), 0)) else ((sieveref04_Letter.f (wrap32 (bt a0 t246))).bind fun t250 => (if t250 = true then (some ((⟨#[]⟩ : ByteArray), 0)) else ((sieveref04_Digit.f (wrap32 (bt a0 t246))).bind fun t251 => (if t251 = true then (some ((⟨#[]⟩ : ByteArray), 0)) else (some (Hc_text t247, t246))))))) else (none)) else (some (Hc_text t247, t246)))) else (none)) else (none)) = some (r1, r2) := by first | (rw [hji35] at H; exact H) | (simp only [hji35] at H ⊢; exact H)
      (try rw [hji35] at A31)
      have hji35w : (IntKind.i64.wrap (t246 - 1)) = ji35 := (i64_w _).trans hji35
      by_cases c36 : 0 ≤ (ji35)
      ·rw [if_pos c36] at H
       have c36b0 : decide (0 ≤ (ji35)) = true := decide_eq_true c36
       clear c36
       by_cases c37 : (ji35) < (a0.size : Int)
       ·rw [if_pos c37] at H
        have c37b0 : decide ((ji35) < (a0.size : Int)) = true := decide_eq_true c37
        clear c37
        by_cases c39 : (bt a0 (ji35)) = 59
        ·rw [if_pos c39] at H
         have c39b0 : ((bt a0 (ji35)) == 59) = true := beq_iff_eq.mpr c39
         have c39b1 : ((bt a0 (ji35)) != 59) = false := bne_eq_false_iff_eq.mpr c39
         clear c39
         simp only [Option.some.injEq, Prod.mk.injEq] at H
         obtain ⟨rfl, rfl⟩ := H
         go_wp2_with (first | ((with_reducible refine gate_callee (f := 63) rfl ?_); refine goesL_ (some 68) rfl rfl Try.func63 (by kernel_rfl) rfl #[.string a0] rfl (by (try simp only [List.map_toArray, List.map_cons, List.map_nil]); first | done | rfl | (simp only [List.length_drop, List.length_take]; rfl) | (simp [*] <;> rfl)) ?_; (with_reducible refine (sieveref05_Longest.calls kj2 a0 t246 t247 _ A31.out).mono ?_); rintro e w40 ⟨v248, rfl, ho0, hb⟩; refine ⟨_, rfl, ?_⟩; have n0_ := Aside0.mk (Kd.R_lower ho0 (below_size (by repeat (first | (with_reducible first | exact HB.out | apply below_alloc | apply pw_below_drewN | apply below_drew1) | exact HB.out)))); have n1_ := Aside0.mk (below_step (by repeat (first | (with_reducible first | exact HB.out | apply below_alloc | apply pw_below_drewN | apply below_drew1) | exact HB.out)) hb); clear HB; have HO249 := n0_; have HB := n1_; clear n0_ n1_; (try clear hb); (try clear hb2); (try clear hk); (try clear hi); (try clear ho0); have p38 : 0 ≤ ((ji35) : Int) := of_decide_eq_true (by first | (with_reducible assumption) | assumption); have q38 : (ji35) < (a0.size : Int) := of_decide_eq_true (by first | (with_reducible assumption) | assumption); have hx38 := bt_at a0 (ji35); replace p38 := eq_true p38; replace q38 := eq_true q38; have hcv41 := Hc_own_runes (P := Try.prog) Try.underlying28 Try.underlying21 Try.underlying9 (Kd.own_of_R HO249.out)))
         go_ret2
         exact ⟨by first | rfl | (simp [errW_none, errW_some] <;> rfl) | (simp only [← hji35]; first | rfl | (simp [errW_none, errW_some] <;> rfl)) | (simp [*, errW_none, errW_some] <;> rfl), by repeat (first | (with_reducible first | exact HB.out | apply below_alloc | apply pw_below_drewN | apply below_drew1) | exact HB.out)⟩
        ·rw [if_neg c39] at H
         have c39b0 : ((bt a0 (ji35)) == 59) = false := beq_eq_false_iff_ne.mpr c39
         have c39b1 : ((bt a0 (ji35)) != 59) = true := bne_iff_ne.mpr c39
         by_cases c42 : t246 < (a0.size : Int)
         ·rw [if_pos c42] at H
          have c42b0 : decide (t246 < (a0.size : Int)) = true := decide_eq_true c42
          clear c42
          by_cases c43 : 0 ≤ t246
          ·rw [if_pos c43] at H
           have c43b0 : decide (0 ≤ t246) = true := decide_eq_true c43
           clear c43
           by_cases c45 : (bt a0 t246) = 61
           ·rw [if_pos c45] at H
            have c45b0 : ((bt a0 t246) == 61) = true := beq_iff_eq.mpr c45
            have c45b1 : ((bt a0 t246) != 61) = false := bne_eq_false_iff_eq.mpr c45
            clear c45
            simp only [Option.some.injEq, Prod.mk.injEq] at H
            obtain ⟨rfl, rfl⟩ := H
            go_wp2_with (first | ((with_reducible refine gate_callee (f := 63) rfl ?_); refine goesL_ (some 68) rfl rfl Try.func63 (by kernel_rfl) rfl #[.string a0] rfl (by (try simp only [List.map_toArray, List.map_cons, List.map_nil]); first | done | rfl | (simp only [List.length_drop, List.length_take]; rfl) | (simp [*] <;> rfl)) ?_; (with_reducible refine (sieveref05_Longest.calls kj2 a0 t246 t247 _ A31.out).mono ?_); rintro e w46 ⟨v248, rfl, ho0, hb⟩; refine ⟨_, rfl, ?_⟩; have n0_ := Aside0.mk (Kd.R_lower ho0 (below_size (by repeat (first | (with_reducible first | exact HB.out | apply below_alloc | apply pw_below_drewN | apply below_drew1) | exact HB.out)))); have n1_ := Aside0.mk (below_step (by repeat (first | (with_reducible first | exact HB.out | apply below_alloc | apply pw_below_drewN | apply below_drew1) | exact HB.out)) hb); clear HB; have HO249 := n0_; have HB := n1_; clear n0_ n1_; (try clear hb); (try clear hb2); (try clear hk); (try clear hi); (try clear ho0); have p38 : 0 ≤ ((ji35) : Int) := of_decide_eq_true (by first | (with_reducible assumption) | assumption); have q38 : (ji35) < (a0.size : Int) := of_decide_eq_true (by first | (with_reducible assumption) | assumption); have hx38 := bt_at a0 (ji35); replace p38 := eq_true p38; replace q38 := eq_true q38; have p44 : 0 ≤ (t246 : Int) := of_decide_eq_true (by first | (with_reducible assumption) | assumption); have q44 : t246 < (a0.size : Int) := of_decide_eq_true (by first | (with_reducible assumption) | assumption); have hx44 := bt_at a0 t246; replace p44 := eq_true p44; replace q44 := eq_true q44))
            go_ret2
            exact ⟨by first | rfl | (simp [errW_none, errW_some] <;> rfl) | (simp only [← hji35]; first | rfl | (simp [errW_none, errW_some] <;> rfl)) | (simp [*, errW_none, errW_some] <;> rfl), by repeat (first | (with_reducible first | exact HB.out | apply below_alloc | apply pw_below_drewN | apply below_drew1) | exact HB.out)⟩
           ·rw [if_neg c45] at H
            have c45b0 : ((bt a0 t246) == 61) = false := beq_eq_false_iff_ne.mpr c45
            have c45b1 : ((bt a0 t246) != 61) = true := bne_iff_ne.mpr c45
            replace H := Option.bind_eq_some_iff.mp H
            obtain ⟨t250, A480, H⟩ := H
            replace H : (if t250 = true then (some ((⟨#[]⟩ : ByteArray), 0)) else ((sieveref04_Digit.f (wrap32 (bt a0 t246))).bind fun t251 => (if t251 = true then (some ((⟨#[]⟩ : ByteArray), 0)) else (some (Hc_text t247, t246))))) = some (r1, r2) := H
            have A48 := Aside0.mk A480
            clear A480
            by_cases c49 : t250 = true
            ·subst c49
             have H1 : (some ((⟨#[]⟩ : ByteArray), 0)) = some (r1, r2) := by rw [if_pos rfl] at H; exact H
             clear H
             have H := H1
             clear H1
             simp only [Option.some.injEq, Prod.mk.injEq] at H
             obtain ⟨rfl, rfl⟩ := H
             go_wp2_with (first | ((with_reducible refine gate_callee (f := 63) rfl ?_); refine goesL_ (some 68) rfl rfl Try.func63 (by kernel_rfl) rfl #[.string a0] rfl (by (try simp only [List.map_toArray, List.map_cons, List.map_nil]); first | done | rfl | (simp only [List.length_drop, List.length_take]; rfl) | (simp [*] <;> rfl)) ?_; (with_reducible refine (sieveref05_Longest.calls kj2 a0 t246 t247 _ A31.out).mono ?_); rintro e w50 ⟨v248, rfl, ho0, hb⟩; refine ⟨_, rfl, ?_⟩; have n0_ := Aside0.mk (Kd.R_lower ho0 (below_size (by repeat (first | (with_reducible first | exact HB.out | apply below_alloc | apply pw_below_drewN | apply below_drew1) | exact HB.out)))); have n1_ := Aside0.mk (below_step (by repeat (first | (with_reducible first | exact HB.out | apply below_alloc | apply pw_below_drewN | apply below_drew1) | exact HB.out)) hb); clear HB; have HO249 := n0_; have HB := n1_; clear n0_ n1_; (try clear hb); (try clear hb2); (try clear hk); (try clear hi); (try clear ho0); have p38 : 0 ≤ ((ji35) : Int) := of_decide_eq_true (by first | (with_reducible assumption) | assumption); have q38 : (ji35) < (a0.size : Int) := of_decide_eq_true (by first | (with_reducible assumption) | assumption); have hx38 := bt_at a0 (ji35); replace p38 := eq_true p38; replace q38 := eq_true q38; have p44 : 0 ≤ (t246 : Int) := of_decide_eq_true (by first | (with_reducible assumption) | assumption); have q44 : t246 < (a0.size : Int) := of_decide_eq_true (by first | (with_reducible assumption) | assumption); have hx44 := bt_at a0 t246; replace p44 := eq_true p44; replace q44 := eq_true q44; have p47 : 0 ≤ (t246 : Int) := of_decide_eq_true (by first | (with_reducible assumption) | assumption); have q47 : t246 < (a0.size : Int) := of_decide_eq_true (by first | (with_reducible assumption) | assumption); have hx47 := bt_at a0 t246; replace p47 := eq_true p47; replace q47 := eq_true q47) | (go_at_call 64; (with_reducible refine (sieveref04_Letter.calls (wrap32 (bt a0 t246)) true _ A48.out).mono ?_); rintro e w' ⟨rfl, ⟨nd, rfl⟩⟩))
             go_ret2
             exact ⟨by first | rfl | (simp [errW_none, errW_some] <;> rfl) | (simp only [← hji35]; first | rfl | (simp [errW_none, errW_some] <;> rfl)) | (simp [*, errW_none, errW_some] <;> rfl), by repeat (first | (with_reducible first | exact HB.out | apply below_alloc | apply pw_below_drewN | apply below_drew1) | exact HB.out)⟩
            ·replace c49 := Bool.eq_false_iff.mpr c49
             subst c49
             have H1 : ((sieveref04_Digit.f (wrap32 (bt a0 t246))).bind fun t251 => (if t251 = true then (some ((⟨#[]⟩ : ByteArray), 0)) else (some (Hc_text t247, t246)))) = some (r1, r2) := by rw [if_neg (show ¬ (false = true) by decide)] at H; exact H
             clear H
             have H := H1
             clear H1
             replace H := Option.bind_eq_some_iff.mp H
             obtain ⟨t251, A520, H⟩ := H
             replace H : (if t251 = true then (some ((⟨#[]⟩ : ByteArray), 0)) else (some (Hc_text t247, t246))) = some (r1, r2) := H
             have A52 := Aside0.mk A520
             clear A520
             by_cases c53 : t251 = true
             ·subst c53
              have H1 : (some ((⟨#[]⟩ : ByteArray), 0)) = some (r1, r2) := by rw [if_pos rfl] at H; exact H
              clear H
              have H := H1
              clear H1
              simp only [Option.some.injEq, Prod.mk.injEq] at H
              obtain ⟨rfl, rfl⟩ := H
              go_wp2_with (first | ((with_reducible refine gate_callee (f := 63) rfl ?_); refine goesL_ (some 68) rfl rfl Try.func63 (by kernel_rfl) rfl #[.string a0] rfl (by (try simp only [List.map_toArray, List.map_cons, List.map_nil]); first | done | rfl | (simp only [List.length_drop, List.length_take]; rfl) | (simp [*] <;> rfl)) ?_; (with_reducible refine (sieveref05_Longest.calls kj2 a0 t246 t247 _ A31.out).mono ?_); rintro e w54 ⟨v248, rfl, ho0, hb⟩; refine ⟨_, rfl, ?_⟩; have n0_ := Aside0.mk (Kd.R_lower ho0 (below_size (by repeat (first | (with_reducible first | exact HB.out | apply below_alloc | apply pw_below_drewN | apply below_drew1) | exact HB.out)))); have n1_ := Aside0.mk (below_step (by repeat (first | (with_reducible first | exact HB.out | apply below_alloc | apply pw_below_drewN | apply below_drew1) | exact HB.out)) hb); clear HB; have HO249 := n0_; have HB := n1_; clear n0_ n1_; (try clear hb); (try clear hb2); (try clear hk); (try clear hi); (try clear ho0); have p38 : 0 ≤ ((ji35) : Int) := of_decide_eq_true (by first | (with_reducible assumption) | assumption); have q38 : (ji35) < (a0.size : Int) := of_decide_eq_true (by first | (with_reducible assumption) | assumption); have hx38 := bt_at a0 (ji35); replace p38 := eq_true p38; replace q38 := eq_true q38; have p44 : 0 ≤ (t246 : Int) := of_decide_eq_true (by first | (with_reducible assumption) | assumption); have q44 : t246 < (a0.size : Int) := of_decide_eq_true (by first | (with_reducible assumption) | assumption); have hx44 := bt_at a0 t246; replace p44 := eq_true p44; replace q44 := eq_true q44; have p47 : 0 ≤ (t246 : Int) := of_decide_eq_true (by first | (with_reducible assumption) | assumption); have q47 : t246 < (a0.size : Int) := of_decide_eq_true (by first | (with_reducible assumption) | assumption); have hx47 := bt_at a0 t246; replace p47 := eq_true p47; replace q47 := eq_true q47) | (go_at_call 64; (with_reducible refine (sieveref04_Letter.calls (wrap32 (bt a0 t246)) false _ A48.out).mono ?_); rintro e w' ⟨rfl, ⟨nd, rfl⟩⟩; have p51 : 0 ≤ (t246 : Int) := of_decide_eq_true (by first | (with_reducible assumption) | assumption); have q51 : t246 < (a0.size : Int) := of_decide_eq_true (by first | (with_reducible assumption) | assumption); have hx51 := bt_at a0 t246; replace p51 := eq_true p51; replace q51 := eq_true q51) | (go_at_call 65; (with_reducible refine (sieveref04_Digit.calls (wrap32 (bt a0 t246)) true _ A52.out).mono ?_); rintro e w' ⟨rfl, ⟨nd, rfl⟩⟩))
              go_ret2
              exact ⟨by first | rfl | (simp [errW_none, errW_some] <;> rfl) | (simp only [← hji35]; first | rfl | (simp [errW_none, errW_some] <;> rfl)) | (simp [*, errW_none, errW_some] <;> rfl), by repeat (first | (with_reducible first | exact HB.out | apply below_alloc | apply pw_below_drewN | apply below_drew1) | exact HB.out)⟩
             ·replace c53 := Bool.eq_false_iff.mpr c53
              subst c53
              have H1 : (some (Hc_text t247, t246)) = some (r1, r2) := by rw [if_neg (show ¬ (false = true) by decide)] at H; exact H
              clear H
              have H := H1
              clear H1
              simp only [Option.some.injEq, Prod.mk.injEq] at H
              obtain ⟨rfl, rfl⟩ := H
              go_wp2_with (first | ((with_reducible refine gate_callee (f := 63) rfl ?_); refine goesL_ (some 68) rfl rfl Try.func63 (by kernel_rfl) rfl #[.string a0] rfl (by (try simp only [List.map_toArray, List.map_cons, List.map_nil]); first | done | rfl | (simp only [List.length_drop, List.length_take]; rfl) | (simp [*] <;> rfl)) ?_; (with_reducible refine (sieveref05_Longest.calls kj2 a0 t246 t247 _ A31.out).mono ?_); rintro e w55 ⟨v248, rfl, ho0, hb⟩; refine ⟨_, rfl, ?_⟩; have n0_ := Aside0.mk (Kd.R_lower ho0 (below_size (by repeat (first | (with_reducible first | exact HB.out | apply below_alloc | apply pw_below_drewN | apply below_drew1) | exact HB.out)))); have n1_ := Aside0.mk (below_step (by repeat (first | (with_reducible first | exact HB.out | apply below_alloc | apply pw_below_drewN | apply below_drew1) | exact HB.out)) hb); clear HB; have HO249 := n0_; have HB := n1_; clear n0_ n1_; (try clear hb); (try clear hb2); (try clear hk); (try clear hi); (try clear ho0); have p38 : 0 ≤ ((ji35) : Int) := of_decide_eq_true (by first | (with_reducible assumption) | assumption); have q38 : (ji35) < (a0.size : Int) := of_decide_eq_true (by first | (with_reducible assumption) | assumption); have hx38 := bt_at a0 (ji35); replace p38 := eq_true p38; replace q38 := eq_true q38; have p44 : 0 ≤ (t246 : Int) := of_decide_eq_true (by first | (with_reducible assumption) | assumption); have q44 : t246 < (a0.size : Int) := of_decide_eq_true (by first | (with_reducible assumption) | assumption); have hx44 := bt_at a0 t246; replace p44 := eq_true p44; replace q44 := eq_true q44; have p47 : 0 ≤ (t246 : Int) := of_decide_eq_true (by first | (with_reducible assumption) | assumption); have q47 : t246 < (a0.size : Int) := of_decide_eq_true (by first | (with_reducible assumption) | assumption); have hx47 := bt_at a0 t246; replace p47 := eq_true p47; replace q47 := eq_true q47) | (go_at_call 64; (with_reducible refine (sieveref04_Letter.calls (wrap32 (bt a0 t246)) false _ A48.out).mono ?_); rintro e w' ⟨rfl, ⟨nd1, rfl⟩⟩; have p51 : 0 ≤ (t246 : Int) := of_decide_eq_true (by first | (with_reducible assumption) | assumption); have q51 : t246 < (a0.size : Int) := of_decide_eq_true (by first | (with_reducible assumption) | assumption); have hx51 := bt_at a0 t246; replace p51 := eq_true p51; replace q51 := eq_true q51) | (go_at_call 65; (with_reducible refine (sieveref04_Digit.calls (wrap32 (bt a0 t246)) false _ A52.out).mono ?_); rintro e w' ⟨rfl, ⟨nd2, rfl⟩⟩; have hcv56 := Hc_own_runes (P := Try.prog) Try.underlying28 Try.underlying21 Try.underlying9 (Kd.own_of_R (Kd.R_drewN HO249.out (nd1 + nd2)))))
              go_ret2
              exact ⟨by first | rfl | (simp [errW_none, errW_some] <;> rfl) | (simp only [← hji35]; first | rfl | (simp [errW_none, errW_some] <;> rfl)) | (simp [*, errW_none, errW_some] <;> rfl), by repeat (first | (with_reducible first | exact HB.out | apply below_alloc | apply pw_below_drewN | apply below_drew1) | exact HB.out)⟩
          ·rw [if_neg c43] at H
           exact absurd H (by simp)
         ·rw [if_neg c42] at H
          have c42b0 : decide (t246 < (a0.size : Int)) = false := decide_eq_false c42
          clear c42
          simp only [Option.some.injEq, Prod.mk.injEq] at H
          obtain ⟨rfl, rfl⟩ := H
          go_wp2_with (first | ((with_reducible refine gate_callee (f := 63) rfl ?_); refine goesL_ (some 68) rfl rfl Try.func63 (by kernel_rfl) rfl #[.string a0] rfl (by (try simp only [List.map_toArray, List.map_cons, List.map_nil]); first | done | rfl | (simp only [List.length_drop, List.length_take]; rfl) | (simp [*] <;> rfl)) ?_; (with_reducible refine (sieveref05_Longest.calls kj2 a0 t246 t247 _ A31.out).mono ?_); rintro e w57 ⟨v248, rfl, ho0, hb⟩; refine ⟨_, rfl, ?_⟩; have n0_ := Aside0.mk (Kd.R_lower ho0 (below_size (by repeat (first | (with_reducible first | exact HB.out | apply below_alloc | apply pw_below_drewN | apply below_drew1) | exact HB.out)))); have n1_ := Aside0.mk (below_step (by repeat (first | (with_reducible first | exact HB.out | apply below_alloc | apply pw_below_drewN | apply below_drew1) | exact HB.out)) hb); clear HB; have HO249 := n0_; have HB := n1_; clear n0_ n1_; (try clear hb); (try clear hb2); (try clear hk); (try clear hi); (try clear ho0); have p38 : 0 ≤ ((ji35) : Int) := of_decide_eq_true (by first | (with_reducible assumption) | assumption); have q38 : (ji35) < (a0.size : Int) := of_decide_eq_true (by first | (with_reducible assumption) | assumption); have hx38 := bt_at a0 (ji35); replace p38 := eq_true p38; replace q38 := eq_true q38; have hcv58 := Hc_own_runes (P := Try.prog) Try.underlying28 Try.underlying21 Try.underlying9 (Kd.own_of_R HO249.out)))
          go_ret2
          exact ⟨by first | rfl | (simp [errW_none, errW_some] <;> rfl) | (simp only [← hji35]; first | rfl | (simp [errW_none, errW_some] <;> rfl)) | (simp [*, errW_none, errW_some] <;> rfl), by repeat (first | (with_reducible first | exact HB.out | apply below_alloc | apply pw_below_drewN | apply below_drew1) | exact HB.out)⟩
       ·rw [if_neg c37] at H
        exact absurd H (by simp)
      ·rw [if_neg c36] at H
       exact absurd H (by simp)
     ·replace c34 := Bool.eq_false_iff.mpr c34
      subst c34
      have H1 : (some (Hc_text t247, t246)) = some (r1, r2) := by rw [if_neg (show ¬ (false = true) by decide)] at H; exact H
      clear H
      have H := H1
      clear H1
      simp only [Option.some.injEq, Prod.mk.injEq] at H
      obtain ⟨rfl, rfl⟩ := H
      go_wp2_with (first | ((with_reducible refine gate_callee (f := 63) rfl ?_); refine goesL_ (some 68) rfl rfl Try.func63 (by kernel_rfl) rfl #[.string a0] rfl (by (try simp only [List.map_toArray, List.map_cons, List.map_nil]); first | done | rfl | (simp only [List.length_drop, List.length_take]; rfl) | (simp [*] <;> rfl)) ?_; (with_reducible refine (sieveref05_Longest.calls kj2 a0 t246 t247 _ A31.out).mono ?_); rintro e w59 ⟨v248, rfl, ho0, hb⟩; refine ⟨_, rfl, ?_⟩; have n0_ := Aside0.mk (Kd.R_lower ho0 (below_size (by repeat (first | (with_reducible first | exact HB.out | apply below_alloc | apply pw_below_drewN | apply below_drew1) | exact HB.out)))); have n1_ := Aside0.mk (below_step (by repeat (first | (with_reducible first | exact HB.out | apply below_alloc | apply pw_below_drewN | apply below_drew1) | exact HB.out)) hb); clear HB; have HO249 := n0_; have HB := n1_; clear n0_ n1_; (try clear hb); (try clear hb2); (try clear hk); (try clear hi); (try clear ho0); have hcv60 := Hc_own_runes (P := Try.prog) Try.underlying28 Try.underlying21 Try.underlying9 (Kd.own_of_R HO249.out)))
      go_ret2
      exact ⟨by first | rfl | (simp [errW_none, errW_some] <;> rfl) | (simp [*, errW_none, errW_some] <;> rfl), by repeat (first | (with_reducible first | exact HB.out | apply below_alloc | apply pw_below_drewN | apply below_drew1) | exact HB.out)⟩

/-! ### sieveref06_Parts: function 19 -/
def sieveref06_Parts.l0 : Nat → ByteArray → Bool → List (S46) → Int → Int → Option ((List (S46)))
 | 0, _, _, _, _, _ => none
 | k + 1, x0, x1, x5, x6, x7 => if x7 < (x0.size : Int) then (if 0 ≤ x7 then (if (bt x0 x7) = 38 then (if 0 ≤ (wrap64 (x7 + 1)) then (if (wrap64 (x7 + 1)) ≤ (x0.size : Int) then ((sieveref06_Whole.f k (x0.extract ((wrap64 (x7 + 1)) : Int).toNat x0.size) x1).bind fun bt255 => (if bt255.2 > 0 then (if x7 > x6 then (if 0 ≤ x6 then (if x6 ≤ x7 then (if x7 ≤ (x0.size : Int) then (if x5.length < 2932031007402 then ((some (x5 ++ [(⟨x6, x0.extract (x6 : Int).toNat (x7 : Int).toNat, x0.extract (x6 : Int).toNat (x7 : Int).toNat, false⟩ : S46)] : List (S46))).bind fun y257 => (if x7 ≤ (wrap64 ((wrap64 (x7 + 1)) + bt255.2)) then (if (wrap64 ((wrap64 (x7 + 1)) + bt255.2)) ≤ (x0.size : Int) then (if y257.length < 2932031007402 then (sieveref06_Parts.l0 k x0 x1 (y257 ++ [(⟨x7, x0.extract (x7 : Int).toNat ((wrap64 ((wrap64 (x7 + 1)) + bt255.2)) : Int).toNat, bt255.1, true⟩ : S46)]) (wrap64 (x7 + (wrap64 (1 + bt255.2)))) (wrap64 (x7 + (wrap64 (1 + bt255.2))))) else (none)) else (none)) else (none))) else (none)) else (none)) else (none)) else (none)) else (if x7 ≤ (wrap64 ((wrap64 (x7 + 1)) + bt255.2)) then (if (wrap64 ((wrap64 (x7 + 1)) + bt255.2)) ≤ (x0.size : Int) then (if x5.length < 2932031007402 then (sieveref06_Parts.l0 k x0 x1 (x5 ++ [(⟨x7, x0.extract (x7 : Int).toNat ((wrap64 ((wrap64 (x7 + 1)) + bt255.2)) : Int).toNat, bt255.1, true⟩ : S46)]) (wrap64 (x7 + (wrap64 (1 + bt255.2)))) (wrap64 (x7 + (wrap64 (1 + bt255.2))))) else (none)) else (none)) else (none))) else (sieveref06_Parts.l0 k x0 x1 x5 x6 (wrap64 (x7 + 1))))) else (none)) else (none)) else (sieveref06_Parts.l0 k x0 x1 x5 x6 (wrap64 (x7 + 1)))) else (none)) else (if x6 < (x0.size : Int) then (if 0 ≤ x6 then (if x6 ≤ (x0.size : Int) then (if x5.length < 2932031007402 then (some (x5 ++ [(⟨x6, x0.extract (x6 : Int).toNat x0.size, x0.extract (x6 : Int).toNat x0.size, false⟩ : S46)])) else (none)) else (none)) else (none)) else (some x5))
def sieveref06_Parts.f (k : Nat) (a0 : ByteArray) (a1 : Bool) : Option ((List (S46))) := sieveref06_Parts.l0 k a0 a1 ([] : List (S46)) 0 0
def sieveref06_Parts.T9 : Bool × List (List Nat × List Nat) := (true, [([], []), ([], []), ([], []), ([], []), ([], []), ([2, 3, 4], [2, 3, 4]), ([], []), ([], []), ([], []), ([6, 7, 8], [6, 7, 8]), ([1, 5, 9], [1, 5, 9]), ([10], [10]), ([0, 11], [0, 11]), ([12, 12, 0, 1, 2, 3, 4, 5, 6, 7, 8, 9, 10, 11, 12], [0, 12])])
def sieveref06_Parts.B9 : List Nat := [0, 0, 0, 0, 0, 28, 0, 0, 0, 448, 1022, 2046, 4095, 8191]
theorem sieveref06_Parts.tab9 : rtab .any (opsOf Try.f19 9) = sieveref06_Parts.T9 := by kernel_rfl
theorem sieveref06_Parts.bits9 : waitsOk sieveref06_Parts.T9.2 sieveref06_Parts.B9 = true := by kernel_rfl
def sieveref06_Parts.T15 : Bool × List (List Nat × List Nat) := (true, [([], []), ([], []), ([], []), ([], []), ([2, 3], [2, 3]), ([], []), ([], []), ([5, 6], [5, 6]), ([1, 4, 7], [1, 4, 7]), ([8], [8]), ([0, 9], [0, 9]), ([10, 10, 0, 1, 2, 3, 4, 5, 6, 7, 8, 9, 10], [0, 10])])
def sieveref06_Parts.B15 : List Nat := [0, 0, 0, 0, 12, 0, 0, 96, 254, 510, 1023, 2047]
theorem sieveref06_Parts.tab15 : rtab .any (opsOf Try.f19 15) = sieveref06_Parts.T15 := by kernel_rfl
theorem sieveref06_Parts.bits15 : waitsOk sieveref06_Parts.T15.2 sieveref06_Parts.B15 = true := by kernel_rfl
set_option maxHeartbeats 8000000 in
set_option maxRecDepth 100000 in
theorem sieveref06_Parts.calls (k : Nat) (a0 : ByteArray) (a1 : Bool) (r : List (S46)) (w : World) (h : sieveref06_Parts.f k a0 a1 = some r) :
  Calls Try.prog 19 #[.string a0, .bool a1] w fun e w' => ∃ v0_ : Value, e = .returned (v0_) ∧ Kd.R k46 46 w' w.heap.size (fun _ => True) v0_ r ∧ Below w.heap.size w w' := by
 have hu46 := Try.underlying46
 have HB := Aside0.mk (Below.refl w.heap.size w)
 have H : (sieveref06_Parts.l0 k a0 a1 ([] : List (S46)) 0 0) = some r := h
 clear h
 have H' := Aside0.mk H
 clear H
 go_enter Try.func19, Try.ntmps19
 go_wp2
 go_loopg [5, 6, 7] k (fun kq v5 v6 v7 w' => ∃ (x5_1 : List (S46)) (x6_1 : Int) (x7_1 : Int), v6 = .int .i64 x6_1 ∧ v7 = .int .i64 x7_1 ∧ Aside0 (sieveref06_Parts.l0 kq a0 a1 x5_1 x6_1 x7_1 = some r) ∧ Aside0 (kq ≤ k) ∧ Aside0 (Kd.R k46 46 w' w.heap.size (fun _ => True) v5 x5_1) ∧ Aside0 (Below w.heap.size w w'))
 case atStart => exact ⟨(([] : List (S46))), (0), (0), (by first | rfl | (simp; done) | (simp [*]; done) | (unfold bt; split <;> first | rfl | (exfalso; simp_all; done) | (exfalso; simp_all; omega))), (by first | rfl | (simp; done) | (simp [*]; done) | (unfold bt; split <;> first | rfl | (exfalso; simp_all; done) | (exfalso; simp_all; omega))), H', ⟨Nat.le_refl _⟩, ⟨by first | exact Kd.R_nil _ _ _ _ _ | exact Kd.N_nil _ _ _ _ _ | exact Kd.V_nil _ _ _ _ _ | exact Kd.Q_nil _ _ _ _ _ | exact Kd.S_nil _ _ _ _ _⟩, ⟨by repeat (first | (with_reducible first | exact HB.out | apply below_alloc | apply pw_below_drewN | apply below_drew1) | exact HB.out)⟩⟩
 case round =>
  clear H'
  try clear c1
  try clear p2
  obtain ⟨x5_1, x6_1, x7_1, rfl, rfl, HA, HK1, HO_5, HB⟩ := hrel
  cases gk with
  | zero => exact absurd HA.out (by simp [sieveref06_Parts.l0])
  | succ k1 =>
   have H := HA.out
   clear HA
   simp only [sieveref06_Parts.l0] at H
   by_cases c3 : x7_1 < (a0.size : Int)
   ·rw [if_pos c3] at H
    have c3b0 : decide (x7_1 < (a0.size : Int)) = true := decide_eq_true c3
    clear c3
    by_cases c4 : 0 ≤ x7_1
    ·rw [if_pos c4] at H
     have c4b0 : decide (0 ≤ x7_1) = true := decide_eq_true c4
     clear c4
     by_cases c6 : (bt a0 x7_1) = 38
     ·rw [if_pos c6] at H
      have c6b0 : ((bt a0 x7_1) == 38) = true := beq_iff_eq.mpr c6
      have c6b1 : ((bt a0 x7_1) != 38) = false := bne_eq_false_iff_eq.mpr c6
      clear c6
      obtain ⟨ji7, hji7⟩ : ∃ j_ : Int, (wrap64 (x7_1 + 1)) = j_ := ⟨_, rfl⟩
      replace H : (if 0 ≤ (ji7) then (if (ji7) ≤ (a0.size : Int) then ((sieveref06_Whole.f k1 (a0.extract ((ji7) : Int).toNat a0.size) a1).bind fun bt255 => (if bt255.2 > 0 then (if x7_1 > x6_1 then (if 0 ≤ x6_1 then (if x6_1 ≤ x7_1 then (if x7_1 ≤ (a0.size : Int) then (if x5_1.length < 2932031007402 then ((some (x5_1 ++ [(⟨x6_1, a0.extract (x6_1 : Int).toNat (x7_1 : Int).toNat, a0.extract (x6_1 : Int).toNat (x7_1 : Int).toNat, false⟩ : S46)] : List (S46))).bind fun y257 => (if x7_1 ≤ (wrap64 ((ji7) + bt255.2)) then (if (wrap64 ((ji7) + bt255.2)) ≤ (a0.size : Int) then (if y257.length < 2932031007402 then (sieveref06_Parts.l0 k1 a0 a1 (y257 ++ [(⟨x7_1, a0.extract (x7_1 : Int).toNat ((wrap64 ((ji7) + bt255.2)) : Int).toNat, bt255.1, true⟩ : S46)]) (wrap64 (x7_1 + (wrap64 (1 + bt255.2)))) (wrap64 (x7_1 + (wrap64 (1 + bt255.2))))) else (none)) else (none)) else (none))) else (none)) else (none)) else (none)) else (none)) else (if x7_1 ≤ (wrap64 ((ji7) + bt255.2)) then (if (wrap64 ((ji7) + bt255.2)) ≤ (a0.size : Int) then (if x5_1.length < 2932031007402 then (sieveref06_Parts.l0 k1 a0 a1 (x5_1 ++ [(⟨x7_1, a0.extract (x7_1 : Int).toNat ((wrap64 ((ji7) + bt255.2)) : Int).toNat, bt255.1, true⟩ : S46)]) (wrap64 (x7_1 + (wrap64 (1 + bt255.2)))) (wrap64 (x7_1 + (wrap64 (1 + bt255.2))))) else (none)) else (none)) else (none))) else (sieveref06_Parts.l0 k1 a0 a1 x5_1 x6_1 ji7))) else (none)) else (none)) = some r := by first | (rw [hji7] at H; exact H) | (simp only [hji7] at H ⊢; exact H)
      have hji7w : (IntKind.i64.wrap (x7_1 + 1)) = ji7 := (i64_w _).trans hji7
      by_cases c8 : 0 ≤ (ji7)
      ·rw [if_pos c8] at H
       have c8b0 := eq_true c8
       have c8b1 : decide (0 ≤ (ji7)) = true := decide_eq_true c8
       clear c8
       by_cases c9 : (ji7) ≤ (a0.size : Int)
       ·rw [if_pos c9] at H
        have c9b0 := eq_true c9
        have c9b1 : decide ((ji7) ≤ (a0.size : Int)) = true := decide_eq_true c9
        clear c9
        replace H := Option.bind_eq_some_iff.mp H
        obtain ⟨⟨t255, t256⟩, A100, H⟩ := H
        replace H : (if t256 > 0 then (if x7_1 > x6_1 then (if 0 ≤ x6_1 then (if x6_1 ≤ x7_1 then (if x7_1 ≤ (a0.size : Int) then (if x5_1.length < 2932031007402 then ((some (x5_1 ++ [(⟨x6_1, a0.extract (x6_1 : Int).toNat (x7_1 : Int).toNat, a0.extract (x6_1 : Int).toNat (x7_1 : Int).toNat, false⟩ : S46)] : List (S46))).bind fun y257 => (if x7_1 ≤ (wrap64 ((ji7) + t256)) then (if (wrap64 ((ji7) + t256)) ≤ (a0.size : Int) then (if y257.length < 2932031007402 then (sieveref06_Parts.l0 k1 a0 a1 (y257 ++ [(⟨x7_1, a0.extract (x7_1 : Int).toNat ((wrap64 ((ji7) + t256)) : Int).toNat, t255, true⟩ : S46)]) (wrap64 (x7_1 + (wrap64 (1 + t256)))) (wrap64 (x7_1 + (wrap64 (1 + t256))))) else (none)) else (none)) else (none))) else (none)) else (none)) else (none)) else (none)) else (if x7_1 ≤ (wrap64 ((ji7) + t256)) then (if (wrap64 ((ji7) + t256)) ≤ (a0.size : Int) then (if x5_1.length < 2932031007402 then (sieveref06_Parts.l0 k1 a0 a1 (x5_1 ++ [(⟨x7_1, a0.extract (x7_1 : Int).toNat ((wrap64 ((ji7) + t256)) : Int).toNat, t255, true⟩ : S46)]) (wrap64 (x7_1 + (wrap64 (1 + t256)))) (wrap64 (x7_1 + (wrap64 (1 + t256))))) else (none)) else (none)) else (none))) else (sieveref06_Parts.l0 k1 a0 a1 x5_1 x6_1 ji7)) = some r := H
        have A10 := Aside0.mk A100
        clear A100
        by_cases c11 : t256 > 0
        ·rw [if_pos c11] at H
         have c11b0 : decide (0 < t256) = true := decide_eq_true c11
         clear c11
         by_cases c12 : x7_1 > x6_1
         ·rw [if_pos c12] at H
          have c12b0 : decide (x6_1 < x7_1) = true := decide_eq_true c12
          clear c12
          by_cases c13 : 0 ≤ x6_1
          ·rw [if_pos c13] at H
           have c13b0 := eq_true c13
           have c13b1 : decide (0 ≤ x6_1) = true := decide_eq_true c13
           clear c13
           by_cases c14 : x6_1 ≤ x7_1
           ·rw [if_pos c14] at H
            have c14b0 := eq_true c14
            have c14b1 : decide (x6_1 ≤ x7_1) = true := decide_eq_true c14
            clear c14
            by_cases c15 : x7_1 ≤ (a0.size : Int)
            ·rw [if_pos c15] at H
             have c15b0 := eq_true c15
             have c15b1 : decide (x7_1 ≤ (a0.size : Int)) = true := decide_eq_true c15
             clear c15
             have c16b0 := eq_true (of_decide_eq_true (by first | (with_reducible assumption) | assumption) : 0 ≤ x6_1)
             have c17b0 := eq_true (of_decide_eq_true (by first | (with_reducible assumption) | assumption) : x6_1 ≤ x7_1)
             have c18b0 := eq_true (of_decide_eq_true (by first | (with_reducible assumption) | assumption) : x7_1 ≤ (a0.size : Int))
             by_cases c19 : x5_1.length < 2932031007402
             ·rw [if_pos c19] at H
              have LMc19 := Aside0.mk c19
              clear c19
              obtain ⟨y257, hy257⟩ : ∃ y_ : List (S46), y_ = (x5_1 ++ [(⟨x6_1, a0.extract (x6_1 : Int).toNat (x7_1 : Int).toNat, a0.extract (x6_1 : Int).toNat (x7_1 : Int).toNat, false⟩ : S46)]) := ⟨_, rfl⟩
              replace H : (if x7_1 ≤ (wrap64 ((ji7) + t256)) then (if (wrap64 ((ji7) + t256)) ≤ (a0.size : Int) then (if y257.length < 2932031007402 then (sieveref06_Parts.l0 k1 a0 a1 (y257 ++ [(⟨x7_1, a0.extract (x7_1 : Int).toNat ((wrap64 ((ji7) + t256)) : Int).toNat, t255, true⟩ : S46)]) (wrap64 (x7_1 + (wrap64 (1 + t256)))) (wrap64 (x7_1 + (wrap64 (1 + t256))))) else (none)) else (none)) else (none)) = some r := by first | (rw [hy257]; with_reducible exact H) | (have H2_ := (Option.bind_some _ _).symm.trans H; rw [hy257]; with_reducible exact H2_) | (have H2_ := (Option.bind_some _ _).symm.trans H; with_reducible exact H2_) | with_reducible exact H | (rw [hy257]; exact H) | exact H
              have Ny257 := Aside0.mk hy257
              clear hy257
              have c20b0 := eq_true (of_decide_eq_true (by first | (with_reducible assumption) | assumption) : 0 ≤ x7_1)
              by_cases c21 : x7_1 ≤ (wrap64 ((ji7) + t256))
              ·rw [if_pos c21] at H
               have c21b0 := eq_true c21
               have c21b1 : decide (x7_1 ≤ (wrap64 ((ji7) + t256))) = true := decide_eq_true c21
               by_cases c22 : (wrap64 ((ji7) + t256)) ≤ (a0.size : Int)
               ·rw [if_pos c22] at H
                have c22b0 := eq_true c22
                have c22b1 : decide ((wrap64 ((ji7) + t256)) ≤ (a0.size : Int)) = true := decide_eq_true c22
                by_cases c23 : y257.length < 2932031007402
                ·rw [if_pos c23] at H
                 have LMc23 := Aside0.mk c23
                 clear c23
                 obtain ⟨y260, hy260⟩ : ∃ y_ : List (S46), y_ = (y257 ++ [(⟨x7_1, a0.extract (x7_1 : Int).toNat ((wrap64 ((ji7) + t256)) : Int).toNat, t255, true⟩ : S46)]) := ⟨_, rfl⟩
                 replace H : (sieveref06_Parts.l0 k1 a0 a1 y260 (wrap64 (x7_1 + (wrap64 (1 + t256)))) (wrap64 (x7_1 + (wrap64 (1 + t256))))) = some r := by first | (rw [hy260]; with_reducible exact H) | (have H2_ := (Option.bind_some _ _).symm.trans H; rw [hy260]; with_reducible exact H2_) | (have H2_ := (Option.bind_some _ _).symm.trans H; with_reducible exact H2_) | with_reducible exact H | (rw [hy260]; exact H) | exact H
                 have Ny260 := Aside0.mk hy260
                 clear hy260
                 have H' := Aside0.mk H
                 clear H
                 have p5 : 0 ≤ (x7_1 : Int) := of_decide_eq_true (by first | (with_reducible assumption) | assumption)
                 have q5 : x7_1 < (a0.size : Int) := of_decide_eq_true (by first | (with_reducible assumption) | assumption)
                 have hx5 := bt_at a0 x7_1
                 replace p5 := eq_true p5
                 replace q5 := eq_true q5
                 try go_wp2_with (first | ((with_reducible refine gate_callee (f := 45) rfl ?_); refine goesL_ (some 24) rfl rfl Try.func45 (by kernel_rfl) rfl #[.string (a0.extract ((ji7) : Int).toNat a0.size), .bool a1] rfl (by (try simp only [List.map_toArray, List.map_cons, List.map_nil]); first | done | (simp only [hji7]; rfl) | rfl | (simp only [List.length_drop, List.length_take]; rfl)) ?_; (with_reducible refine (sieveref06_Whole.calls k1 (a0.extract ((ji7) : Int).toNat a0.size) a1 t255 t256 _ A10.out).mono ?_); rintro e w24 ⟨rfl, hb⟩; refine ⟨_, rfl, ?_⟩; have n0_ := Aside0.mk (Kd.R_below (by (with_reducible repeat (first | apply Kd.R_alloc | apply Kd.R_drewN | apply Kd.R_drew)); exact HO_5.out) hb); have n1_ := Aside0.mk (below_step (by repeat (first | (with_reducible first | exact HB.out | apply below_alloc | apply pw_below_drewN | apply below_drew1) | exact HB.out)) hb); clear HO_5; clear HB; have HO_5 := n0_; have HB := n1_; clear n0_ n1_; (try clear hb); (try clear hb2); (try clear hk); (try clear hi)))
                 have n0_ := Aside0.mk (Kd.R_drew HO_5.out)
                 have n1_ := Aside0.mk (below_drew1 HB.out)
                 clear HO_5
                 clear HB
                 have HO_5 := n0_
                 have HB := n1_
                 clear n0_ n1_
                 refine start_ (n := 14) (S := fun w' => True) (ds := []) #[false, false, false, false, false, false, false, false, false, false, false, false, false, false] (by kernel_rfl) rfl rfl trivial (fun hHeld => ?_); refine with_tabW sieveref06_Parts.tab9 sieveref06_Parts.bits9 (fun HT_ HW_ => ?_)
                 generalize w24.drew = w25 at HO_5 HB hHeld ⊢
                 refine pure_ (i := 0) (N := some 32) (v := ?_) (a' := ?_) #[true, false, false, false, false, false, false, false, false, false, false, false, false, false] rfl rfl (any_of HT_.out (by kernel_rfl)) (fun _ _ _ h => h) (Or.inl ⟨by rfl, ?_⟩) ?_ ?_
                 rotate_left
                 ·intro w'
                  go_simp
                  with_reducible rfl
                 rotate_left
                 ·simp only [Act.put, List.setIfInBounds_toArray, List.set_cons_zero, List.set_cons_succ, i64_w, i32_w]
                  rfl
                 refine pure_ (i := 1) (N := some 33) (v := ?_) (a' := ?_) #[true, true, false, false, false, false, false, false, false, false, false, false, false, false] rfl rfl (any_of HT_.out (by kernel_rfl)) (fun _ _ _ h => h) (Or.inl ⟨by rfl, ?_⟩) ?_ ?_
                 rotate_left
                 ·intro w'
                  go_simp
                  with_reducible rfl
                 rotate_left
                 ·simp only [Act.put, List.setIfInBounds_toArray, List.set_cons_zero, List.set_cons_succ, i64_w, i32_w]
                  rfl
                 refine pure_ (i := 2) (N := some 34) (v := ?_) (a' := ?_) #[true, true, true, false, false, false, false, false, false, false, false, false, false, false] rfl rfl (any_of HT_.out (by kernel_rfl)) (fun _ _ _ h => h) (Or.inl ⟨by rfl, ?_⟩) ?_ ?_
                 rotate_left
                 ·intro w'
                  go_simp
                  with_reducible rfl
                 rotate_left
                 ·simp only [Act.put, List.setIfInBounds_toArray, List.set_cons_zero, List.set_cons_succ, i64_w, i32_w]
                  rfl
                 refine pure_ (i := 3) (N := some 35) (v := ?_) (a' := ?_) #[true, true, true, true, false, false, false, false, false, false, false, false, false, false] rfl rfl (any_of HT_.out (by kernel_rfl)) (fun _ _ _ h => h) (Or.inl ⟨by rfl, ?_⟩) ?_ ?_
                 rotate_left
                 ·intro w'
                  go_simp
                  with_reducible rfl
                 rotate_left
                 ·simp only [Act.put, List.setIfInBounds_toArray, List.set_cons_zero, List.set_cons_succ, i64_w, i32_w]
                  rfl
                 refine pure_ (i := 4) (N := some 36) (v := ?_) (a' := ?_) #[true, true, true, true, true, false, false, false, false, false, false, false, false, false] rfl rfl (any_of HT_.out (by kernel_rfl)) (fun _ _ _ h => h) (Or.inl ⟨by rfl, ?_⟩) ?_ ?_
                 rotate_left
                 ·intro w'
                  go_simp
                  with_reducible rfl
                 rotate_left
                 ·simp only [Act.put, List.setIfInBounds_toArray, List.set_cons_zero, List.set_cons_succ, i64_w, i32_w]
                  rfl
                 refine pure_ (i := 5) (N := some 37) (v := ?_) (a' := ?_) #[true, true, true, true, true, true, false, false, false, false, false, false, false, false] rfl rfl (any_of HT_.out (by kernel_rfl)) (fun _ _ _ h => h) (Or.inl ⟨by rfl, ?_⟩) ?_ ?_
                 rotate_left
                 ·intro w'
                  go_simp
                  with_reducible rfl
                 rotate_left
                 ·simp only [Act.put, List.setIfInBounds_toArray, List.set_cons_zero, List.set_cons_succ, i64_w, i32_w]
                  rfl
                 refine pure_ (i := 6) (N := some 38) (v := ?_) (a' := ?_) #[true, true, true, true, true, true, true, false, false, false, false, false, false, false] rfl rfl (any_of HT_.out (by kernel_rfl)) (fun _ _ _ h => h) (Or.inl ⟨by rfl, ?_⟩) ?_ ?_
                 rotate_left
                 ·intro w'
                  go_simp
                  with_reducible rfl
                 rotate_left
                 ·simp only [Act.put, List.setIfInBounds_toArray, List.set_cons_zero, List.set_cons_succ, i64_w, i32_w]
                  rfl
                 refine pure_ (i := 7) (N := some 39) (v := ?_) (a' := ?_) #[true, true, true, true, true, true, true, true, false, false, false, false, false, false] rfl rfl (any_of HT_.out (by kernel_rfl)) (fun _ _ _ h => h) (Or.inl ⟨by rfl, ?_⟩) ?_ ?_
                 rotate_left
                 ·intro w'
                  go_simp
                  with_reducible rfl
                 rotate_left
                 ·simp only [Act.put, List.setIfInBounds_toArray, List.set_cons_zero, List.set_cons_succ, i64_w, i32_w]
                  rfl
                 refine pure_ (i := 8) (N := some 40) (v := ?_) (a' := ?_) #[true, true, true, true, true, true, true, true, true, false, false, false, false, false] rfl rfl (any_of HT_.out (by kernel_rfl)) (fun _ _ _ h => h) (Or.inl ⟨by rfl, ?_⟩) ?_ ?_
                 rotate_left
                 ·intro w'
                  go_simp
                  with_reducible rfl
                 rotate_left
                 ·simp only [Act.put, List.setIfInBounds_toArray, List.set_cons_zero, List.set_cons_succ, i64_w, i32_w]
                  rfl
                 refine pure_ (i := 9) (N := some 41) (v := ?_) (a' := ?_) #[true, true, true, true, true, true, true, true, true, true, false, false, false, false] rfl rfl (any_of HT_.out (by kernel_rfl)) (fun _ _ _ h => h) (Or.inl ⟨by rfl, ?_⟩) ?_ ?_
                 rotate_left
                 ·intro w'
                  go_simp
                  with_reducible rfl
                 rotate_left
                 ·simp only [Act.put, List.setIfInBounds_toArray, List.set_cons_zero, List.set_cons_succ, i64_w, i32_w]
                  rfl
                 refine pure_ (i := 10) (N := some 42) (v := ?_) (a' := ?_) #[true, true, true, true, true, true, true, true, true, true, true, false, false, false] rfl rfl (any_of HT_.out (by kernel_rfl)) (fun _ _ _ h => h) (Or.inl ⟨by rfl, ?_⟩) ?_ ?_
                 rotate_left
                 ·intro w'
                  go_simp
                  with_reducible rfl
                 rotate_left
                 ·simp only [Act.put, List.setIfInBounds_toArray, List.set_cons_zero, List.set_cons_succ, i64_w, i32_w]
                  rfl
                 refine one_ (i := 11) (N := some 43) #[true, true, true, true, true, true, true, true, true, true, true, true, false, false] rfl rfl (one_of HT_.out (by kernel_rfl)) (by decide) (fun K hK => ?_)
                 refine value_ (w1 := ?_) (v := ?_) (by rfl) rfl ?_ ?_
                 rotate_left 2
                 ·go_simp
                  constructor
                  ·rfl
                  ·rfl
                 refine hK.out _ _ trivial (fun hHeld => ?_)
                 clear hK K
                 refine norm_ (a' := ?_) ?_ ?_
                 rotate_left
                 ·show Act.put _ (some 43) _ = _
                  simp only [Act.put, List.setIfInBounds_toArray, List.set_cons_zero, List.set_cons_succ, i64_w, i32_w]
                  rfl
                 refine one_ (i := 12) (N := some 44) #[true, true, true, true, true, true, true, true, true, true, true, true, true, false] rfl rfl (one_of HT_.out (by kernel_rfl)) (by decide) (fun K hK => ?_)
                 refine Kd.R_append_step k46 (w0 := w) w.heap.size (by rfl) (.tmp 32) (.tmp 43) 43 46 (.agg #[(.int .i64 0), (.string ⟨#[]⟩), (.string ⟨#[]⟩), (.bool false)]) 48 rfl Try.underlying43 info46 rfl (by decide) (by omega) u5 x5_1 (⟨x6_1, a0.extract (x6_1 : Int).toNat (x7_1 : Int).toNat, a0.extract (x6_1 : Int).toNat (x7_1 : Int).toNat, false⟩ : S46) [.int .i64 x6_1, .string (a0.extract (x6_1 : Int).toNat (x7_1 : Int).toNat), .string (a0.extract (x6_1 : Int).toNat (x7_1 : Int).toNat), .bool false] (fun _ => True) (fun _ => False) rfl rfl ?aP (fun _ hk => hk.elim) ?aF ?aO ?aB ?aS ?aL ?_
                 (case aP => exact k46_mkM _ _ _ (⟨x6_1, a0.extract (x6_1 : Int).toNat (x7_1 : Int).toNat, a0.extract (x6_1 : Int).toNat (x7_1 : Int).toNat, false⟩ : S46))
                 (case aB => exact (by repeat (first | (with_reducible first | exact HB.out | apply below_alloc | apply pw_below_drewN | apply below_drew1) | exact HB.out)))
                 (case aF => exact (fun _ _ => trivial))
                 (case aO => exact (by (with_reducible repeat (first | apply Kd.R_alloc | apply Kd.R_drewN | apply Kd.R_drew)); exact HO_5.out))
                 (case aS => exact (below_size (by repeat (first | (with_reducible first | exact HB.out | apply below_alloc | apply pw_below_drewN | apply below_drew1) | exact HB.out))))
                 (case aL => have := LMc19.out; omega)
                 intro v258 w26 ho hb hg hat
                 rw [← Ny257.out] at ho
                 have n0_ := Aside0.mk (hb)
                 have n1_ := Aside0.mk (ho)
                 clear HB
                 clear HO_5
                 have HB := n0_
                 have HO259 := n1_
                 clear n0_ n1_
                 clear ho hb hg hat
                 refine hK.out _ _ trivial (fun hHeld => ?_)
                 clear hK K
                 refine norm_ (a' := ?_) ?_ ?_
                 rotate_left
                 ·show Act.put _ (some 44) _ = _
                  simp only [Act.put, List.setIfInBounds_toArray, List.set_cons_zero, List.set_cons_succ, i64_w, i32_w]
                  rfl
                 refine pure_ (i := 13) (N := some 5) (v := ?_) (a' := ?_) #[true, true, true, true, true, true, true, true, true, true, true, true, true, true] rfl rfl (any_of HT_.out (by kernel_rfl)) (fun _ _ _ h => h) (Or.inl ⟨by rfl, ?_⟩) ?_ ?_
                 rotate_left
                 ·intro w'
                  go_simp
                  with_reducible rfl
                 rotate_left
                 ·simp only [Act.put, List.setIfInBounds_toArray, List.set_cons_zero, List.set_cons_succ, i64_w, i32_w]
                  rfl
                 refine done_ (done_of HT_.out (by kernel_rfl)) ?_
                 try go_wp2_with (first | ((with_reducible refine gate_builtin (b := .append) (xs := #[.tmp 45, .tmp 56]) rfl ?_); at_builtin; refine Kd.R_append k46 (w0 := w) w.heap.size rfl (.tmp 45) (.tmp 56) 43 46 (.agg #[(.int .i64 0), (.string ⟨#[]⟩), (.string ⟨#[]⟩), (.bool false)]) 48 rfl Try.underlying43 info46 rfl (by decide) (by omega) v258 y257 (⟨x7_1, a0.extract (x7_1 : Int).toNat ((wrap64 ((ji7) + t256)) : Int).toNat, t255, true⟩ : S46) [.int .i64 x7_1, .string (a0.extract (x7_1 : Int).toNat ((wrap64 ((ji7) + t256)) : Int).toNat), .string t255, .bool true] (fun _ => True) (fun _ => False) rfl rfl ?aP (fun _ hk => hk.elim) ?aF ?aO ?aB ?aS ?aL ?_; (case aP => exact k46_mkM _ _ _ (⟨x7_1, a0.extract (x7_1 : Int).toNat ((wrap64 ((ji7) + t256)) : Int).toNat, t255, true⟩ : S46)); (case aB => exact (by repeat (first | (with_reducible first | exact HB.out | apply below_alloc | apply pw_below_drewN | apply below_drew1) | exact HB.out))); (case aF => exact (fun _ _ => trivial)); (case aO => exact (by (with_reducible repeat (first | apply Kd.R_alloc | apply Kd.R_drewN | apply Kd.R_drew)); exact HO259.out)); (case aS => exact (below_size (by repeat (first | (with_reducible first | exact HB.out | apply below_alloc | apply pw_below_drewN | apply below_drew1) | exact HB.out)))); (case aL => have := LMc23.out; omega); intro v261 w27 ho hb hg hat; rw [← Ny260.out] at ho; have n0_ := Aside0.mk (hb); have n1_ := Aside0.mk (ho); clear HB; clear HO259; have HB := n0_; have HO262 := n1_; clear n0_ n1_; clear ho hb hg hat))
                 go_roundg k1
                 case measure => have := HK1.out; omega
                 case rel => exact ⟨(y260), (wrap64 (x7_1 + (wrap64 (1 + t256)))), (wrap64 (x7_1 + (wrap64 (1 + t256)))), (by first | rfl | (simp; done) | (simp [*]; done) | (unfold bt; split <;> first | rfl | (exfalso; simp_all; done) | (exfalso; simp_all; omega))), (by first | rfl | (simp; done) | (simp [*]; done) | (unfold bt; split <;> first | rfl | (exfalso; simp_all; done) | (exfalso; simp_all; omega))), H', ⟨by have := HK1.out; omega⟩, ⟨by (with_reducible repeat (first | apply Kd.R_alloc | apply Kd.R_drewN | apply Kd.R_drew)); exact HO262.out⟩, ⟨by repeat (first | (with_reducible first | exact HB.out | apply below_alloc | apply pw_below_drewN | apply below_drew1) | exact HB.out)⟩⟩
                ·rw [if_neg c23] at H
                 exact absurd H (by simp)
               ·rw [if_neg c22] at H
                exact absurd H (by simp)
              ·rw [if_neg c21] at H
               exact absurd H (by simp)
             ·rw [if_neg c19] at H
              exact absurd H (by simp)
            ·rw [if_neg c15] at H
             exact absurd H (by simp)
           ·rw [if_neg c14] at H
            exact absurd H (by simp)
          ·rw [if_neg c13] at H
           exact absurd H (by simp)
         ·rw [if_neg c12] at H
          have c12b0 : decide (x6_1 < x7_1) = false := decide_eq_false c12
          clear c12
          have c28b0 := eq_true (of_decide_eq_true (by first | (with_reducible assumption) | assumption) : 0 ≤ x7_1)
          by_cases c29 : x7_1 ≤ (wrap64 ((ji7) + t256))
          ·rw [if_pos c29] at H
           have c29b0 := eq_true c29
           have c29b1 : decide (x7_1 ≤ (wrap64 ((ji7) + t256))) = true := decide_eq_true c29
           by_cases c30 : (wrap64 ((ji7) + t256)) ≤ (a0.size : Int)
           ·rw [if_pos c30] at H
            have c30b0 := eq_true c30
            have c30b1 : decide ((wrap64 ((ji7) + t256)) ≤ (a0.size : Int)) = true := decide_eq_true c30
            by_cases c31 : x5_1.length < 2932031007402
            ·rw [if_pos c31] at H
             have LMc31 := Aside0.mk c31
             clear c31
             obtain ⟨y263, hy263⟩ : ∃ y_ : List (S46), y_ = (x5_1 ++ [(⟨x7_1, a0.extract (x7_1 : Int).toNat ((wrap64 ((ji7) + t256)) : Int).toNat, t255, true⟩ : S46)]) := ⟨_, rfl⟩
             replace H : (sieveref06_Parts.l0 k1 a0 a1 y263 (wrap64 (x7_1 + (wrap64 (1 + t256)))) (wrap64 (x7_1 + (wrap64 (1 + t256))))) = some r := by first | (rw [hy263]; with_reducible exact H) | (have H2_ := (Option.bind_some _ _).symm.trans H; rw [hy263]; with_reducible exact H2_) | (have H2_ := (Option.bind_some _ _).symm.trans H; with_reducible exact H2_) | with_reducible exact H | (rw [hy263]; exact H) | exact H
             have Ny263 := Aside0.mk hy263
             clear hy263
             have H' := Aside0.mk H
             clear H
             have p5 : 0 ≤ (x7_1 : Int) := of_decide_eq_true (by first | (with_reducible assumption) | assumption)
             have q5 : x7_1 < (a0.size : Int) := of_decide_eq_true (by first | (with_reducible assumption) | assumption)
             have hx5 := bt_at a0 x7_1
             replace p5 := eq_true p5
             replace q5 := eq_true q5
             go_wp2_with (first | ((with_reducible refine gate_callee (f := 45) rfl ?_); refine goesL_ (some 24) rfl rfl Try.func45 (by kernel_rfl) rfl #[.string (a0.extract ((ji7) : Int).toNat a0.size), .bool a1] rfl (by (try simp only [List.map_toArray, List.map_cons, List.map_nil]); first | done | (simp only [hji7]; rfl) | rfl | (simp only [List.length_drop, List.length_take]; rfl)) ?_; (with_reducible refine (sieveref06_Whole.calls k1 (a0.extract ((ji7) : Int).toNat a0.size) a1 t255 t256 _ A10.out).mono ?_); rintro e w32 ⟨rfl, hb⟩; refine ⟨_, rfl, ?_⟩; have n0_ := Aside0.mk (Kd.R_below (by (with_reducible repeat (first | apply Kd.R_alloc | apply Kd.R_drewN | apply Kd.R_drew)); exact HO_5.out) hb); have n1_ := Aside0.mk (below_step (by repeat (first | (with_reducible first | exact HB.out | apply below_alloc | apply pw_below_drewN | apply below_drew1) | exact HB.out)) hb); clear HO_5; clear HB; have HO_5 := n0_; have HB := n1_; clear n0_ n1_; (try clear hb); (try clear hb2); (try clear hk); (try clear hi)) | ((with_reducible refine gate_builtin (b := .append) (xs := #[.tmp 45, .tmp 56]) rfl ?_); at_builtin; refine Kd.R_append k46 (w0 := w) w.heap.size rfl (.tmp 45) (.tmp 56) 43 46 (.agg #[(.int .i64 0), (.string ⟨#[]⟩), (.string ⟨#[]⟩), (.bool false)]) 48 rfl Try.underlying43 info46 rfl (by decide) (by omega) u5 x5_1 (⟨x7_1, a0.extract (x7_1 : Int).toNat ((wrap64 ((ji7) + t256)) : Int).toNat, t255, true⟩ : S46) [.int .i64 x7_1, .string (a0.extract (x7_1 : Int).toNat ((wrap64 ((ji7) + t256)) : Int).toNat), .string t255, .bool true] (fun _ => True) (fun _ => False) rfl rfl ?aP (fun _ hk => hk.elim) ?aF ?aO ?aB ?aS ?aL ?_; (case aP => exact k46_mkM _ _ _ (⟨x7_1, a0.extract (x7_1 : Int).toNat ((wrap64 ((ji7) + t256)) : Int).toNat, t255, true⟩ : S46)); (case aB => exact (by repeat (first | (with_reducible first | exact HB.out | apply below_alloc | apply pw_below_drewN | apply below_drew1) | exact HB.out))); (case aF => exact (fun _ _ => trivial)); (case aO => exact (by (with_reducible repeat (first | apply Kd.R_alloc | apply Kd.R_drewN | apply Kd.R_drew)); exact HO_5.out)); (case aS => exact (below_size (by repeat (first | (with_reducible first | exact HB.out | apply below_alloc | apply pw_below_drewN | apply below_drew1) | exact HB.out)))); (case aL => have := LMc31.out; omega); intro v264 w33 ho hb hg hat; rw [← Ny263.out] at ho; have n0_ := Aside0.mk (hb); have n1_ := Aside0.mk (ho); clear HB; clear HO_5; have HB := n0_; have HO265 := n1_; clear n0_ n1_; clear ho hb hg hat))
             go_roundg k1
             case measure => have := HK1.out; omega
             case rel => exact ⟨(y263), (wrap64 (x7_1 + (wrap64 (1 + t256)))), (wrap64 (x7_1 + (wrap64 (1 + t256)))), (by first | rfl | (simp; done) | (simp [*]; done) | (unfold bt; split <;> first | rfl | (exfalso; simp_all; done) | (exfalso; simp_all; omega))), (by first | rfl | (simp; done) | (simp [*]; done) | (unfold bt; split <;> first | rfl | (exfalso; simp_all; done) | (exfalso; simp_all; omega))), H', ⟨by have := HK1.out; omega⟩, ⟨by (with_reducible repeat (first | apply Kd.R_alloc | apply Kd.R_drewN | apply Kd.R_drew)); exact HO265.out⟩, ⟨by repeat (first | (with_reducible first | exact HB.out | apply below_alloc | apply pw_below_drewN | apply below_drew1) | exact HB.out)⟩⟩
            ·rw [if_neg c31] at H
             exact absurd H (by simp)
           ·rw [if_neg c30] at H
            exact absurd H (by simp)
          ·rw [if_neg c29] at H
           exact absurd H (by simp)
        ·rw [if_neg c11] at H
         have c11b0 : decide (0 < t256) = false := decide_eq_false c11
         clear c11
         have H' := Aside0.mk H
         clear H
         have p5 : 0 ≤ (x7_1 : Int) := of_decide_eq_true (by first | (with_reducible assumption) | assumption)
         have q5 : x7_1 < (a0.size : Int) := of_decide_eq_true (by first | (with_reducible assumption) | assumption)
         have hx5 := bt_at a0 x7_1
         replace p5 := eq_true p5
         replace q5 := eq_true q5
         go_wp2_with (first | ((with_reducible refine gate_callee (f := 45) rfl ?_); refine goesL_ (some 24) rfl rfl Try.func45 (by kernel_rfl) rfl #[.string (a0.extract ((ji7) : Int).toNat a0.size), .bool a1] rfl (by (try simp only [List.map_toArray, List.map_cons, List.map_nil]); first | done | (simp only [hji7]; rfl) | rfl | (simp only [List.length_drop, List.length_take]; rfl)) ?_; (with_reducible refine (sieveref06_Whole.calls k1 (a0.extract ((ji7) : Int).toNat a0.size) a1 t255 t256 _ A10.out).mono ?_); rintro e w34 ⟨rfl, hb⟩; refine ⟨_, rfl, ?_⟩; have n0_ := Aside0.mk (Kd.R_below (by (with_reducible repeat (first | apply Kd.R_alloc | apply Kd.R_drewN | apply Kd.R_drew)); exact HO_5.out) hb); have n1_ := Aside0.mk (below_step (by repeat (first | (with_reducible first | exact HB.out | apply below_alloc | apply pw_below_drewN | apply below_drew1) | exact HB.out)) hb); clear HO_5; clear HB; have HO_5 := n0_; have HB := n1_; clear n0_ n1_; (try clear hb); (try clear hb2); (try clear hk); (try clear hi)))
         go_roundg k1
         case measure => have := HK1.out; omega
         case rel => exact ⟨(x5_1), (x6_1), (ji7), (by first | rfl | (simp; done) | (simp [*]; done) | (unfold bt; split <;> first | rfl | (exfalso; simp_all; done) | (exfalso; simp_all; omega))), (by first | rfl | (simp; done) | (simp only [← hji7] <;> (first | rfl | simp)) | (simp [*]; done)), H', ⟨by have := HK1.out; omega⟩, ⟨by (with_reducible repeat (first | apply Kd.R_alloc | apply Kd.R_drewN | apply Kd.R_drew)); exact HO_5.out⟩, ⟨by repeat (first | (with_reducible first | exact HB.out | apply below_alloc | apply pw_below_drewN | apply below_drew1) | exact HB.out)⟩⟩
       ·rw [if_neg c9] at H
        exact absurd H (by simp)
      ·rw [if_neg c8] at H
       exact absurd H (by simp)
     ·rw [if_neg c6] at H
      have c6b0 : ((bt a0 x7_1) == 38) = false := beq_eq_false_iff_ne.mpr c6
      have c6b1 : ((bt a0 x7_1) != 38) = true := bne_iff_ne.mpr c6
      have H' := Aside0.mk H
      clear H
      have p5 : 0 ≤ (x7_1 : Int) := of_decide_eq_true (by first | (with_reducible assumption) | assumption)
      have q5 : x7_1 < (a0.size : Int) := of_decide_eq_true (by first | (with_reducible assumption) | assumption)
      have hx5 := bt_at a0 x7_1
      replace p5 := eq_true p5
      replace q5 := eq_true q5
      go_wp2
      go_roundg k1
      case measure => have := HK1.out; omega
      case rel => exact ⟨(x5_1), (x6_1), (wrap64 (x7_1 + 1)), (by first | rfl | (simp; done) | (simp [*]; done) | (unfold bt; split <;> first | rfl | (exfalso; simp_all; done) | (exfalso; simp_all; omega))), (by first | rfl | (simp; done) | (simp [*]; done) | (unfold bt; split <;> first | rfl | (exfalso; simp_all; done) | (exfalso; simp_all; omega))), H', ⟨by have := HK1.out; omega⟩, ⟨by (with_reducible repeat (first | apply Kd.R_alloc | apply Kd.R_drewN | apply Kd.R_drew)); exact HO_5.out⟩, ⟨by repeat (first | (with_reducible first | exact HB.out | apply below_alloc | apply pw_below_drewN | apply below_drew1) | exact HB.out)⟩⟩
    ·rw [if_neg c4] at H
     exact absurd H (by simp)
   ·rw [if_neg c3] at H
    have c3b0 : decide (x7_1 < (a0.size : Int)) = false := decide_eq_false c3
    clear c3
    by_cases c35 : x6_1 < (a0.size : Int)
    ·rw [if_pos c35] at H
     have c35b0 : decide (x6_1 < (a0.size : Int)) = true := decide_eq_true c35
     clear c35
     by_cases c36 : 0 ≤ x6_1
     ·rw [if_pos c36] at H
      have c36b0 := eq_true c36
      have c36b1 : decide (0 ≤ x6_1) = true := decide_eq_true c36
      clear c36
      by_cases c37 : x6_1 ≤ (a0.size : Int)
      ·rw [if_pos c37] at H
       have c37b0 := eq_true c37
       have c37b1 : decide (x6_1 ≤ (a0.size : Int)) = true := decide_eq_true c37
       clear c37
       have c38b0 := eq_true (of_decide_eq_true (by first | (with_reducible assumption) | assumption) : 0 ≤ x6_1)
       have c39b0 := eq_true (of_decide_eq_true (by first | (with_reducible assumption) | assumption) : x6_1 ≤ (a0.size : Int))
       by_cases c40 : x5_1.length < 2932031007402
       ·rw [if_pos c40] at H
        have LMc40 := Aside0.mk c40
        clear c40
        obtain ⟨y252, hy252⟩ : ∃ y_ : List (S46), y_ = (x5_1 ++ [(⟨x6_1, a0.extract (x6_1 : Int).toNat a0.size, a0.extract (x6_1 : Int).toNat a0.size, false⟩ : S46)]) := ⟨_, rfl⟩
        replace H : (some y252) = some r := by first | (rw [hy252]; with_reducible exact H) | (have H2_ := (Option.bind_some _ _).symm.trans H; rw [hy252]; with_reducible exact H2_) | (have H2_ := (Option.bind_some _ _).symm.trans H; with_reducible exact H2_) | with_reducible exact H | (rw [hy252]; exact H) | exact H
        have Ny252 := Aside0.mk hy252
        clear hy252
        obtain rfl := Option.some.inj H
        try go_wp2
        have n0_ := Aside0.mk (Kd.R_drew HO_5.out)
        have n1_ := Aside0.mk (below_drew1 HB.out)
        clear HO_5
        clear HB
        have HO_5 := n0_
        have HB := n1_
        clear n0_ n1_
        refine start_ (n := 12) (S := fun w' => True) (ds := []) #[false, false, false, false, false, false, false, false, false, false, false, false] (by kernel_rfl) rfl rfl trivial (fun hHeld => ?_); refine with_tabW sieveref06_Parts.tab15 sieveref06_Parts.bits15 (fun HT_ HW_ => ?_)
        generalize wr.drew = w41 at HO_5 HB hHeld ⊢
        refine pure_ (i := 0) (N := some 69) (v := ?_) (a' := ?_) #[true, false, false, false, false, false, false, false, false, false, false, false] rfl rfl (any_of HT_.out (by kernel_rfl)) (fun _ _ _ h => h) (Or.inl ⟨by rfl, ?_⟩) ?_ ?_
        rotate_left
        ·intro w'
         go_simp
         with_reducible rfl
        rotate_left
        ·simp only [Act.put, List.setIfInBounds_toArray, List.set_cons_zero, List.set_cons_succ, i64_w, i32_w]
         rfl
        refine pure_ (i := 1) (N := some 70) (v := ?_) (a' := ?_) #[true, true, false, false, false, false, false, false, false, false, false, false] rfl rfl (any_of HT_.out (by kernel_rfl)) (fun _ _ _ h => h) (Or.inl ⟨by rfl, ?_⟩) ?_ ?_
        rotate_left
        ·intro w'
         go_simp
         with_reducible rfl
        rotate_left
        ·simp only [Act.put, List.setIfInBounds_toArray, List.set_cons_zero, List.set_cons_succ, i64_w, i32_w]
         rfl
        refine pure_ (i := 2) (N := some 71) (v := ?_) (a' := ?_) #[true, true, true, false, false, false, false, false, false, false, false, false] rfl rfl (any_of HT_.out (by kernel_rfl)) (fun _ _ _ h => h) (Or.inl ⟨by rfl, ?_⟩) ?_ ?_
        rotate_left
        ·intro w'
         go_simp
         with_reducible rfl
        rotate_left
        ·simp only [Act.put, List.setIfInBounds_toArray, List.set_cons_zero, List.set_cons_succ, i64_w, i32_w]
         rfl
        refine pure_ (i := 3) (N := some 72) (v := ?_) (a' := ?_) #[true, true, true, true, false, false, false, false, false, false, false, false] rfl rfl (any_of HT_.out (by kernel_rfl)) (fun _ _ _ h => h) (Or.inl ⟨by rfl, ?_⟩) ?_ ?_
        rotate_left
        ·intro w'
         go_simp
         with_reducible rfl
        rotate_left
        ·simp only [Act.put, List.setIfInBounds_toArray, List.set_cons_zero, List.set_cons_succ, i64_w, i32_w]
         rfl
        refine pure_ (i := 4) (N := some 73) (v := ?_) (a' := ?_) #[true, true, true, true, true, false, false, false, false, false, false, false] rfl rfl (any_of HT_.out (by kernel_rfl)) (fun _ _ _ h => h) (Or.inl ⟨by rfl, ?_⟩) ?_ ?_
        rotate_left
        ·intro w'
         go_simp
         with_reducible rfl
        rotate_left
        ·simp only [Act.put, List.setIfInBounds_toArray, List.set_cons_zero, List.set_cons_succ, i64_w, i32_w]
         rfl
        refine pure_ (i := 5) (N := some 74) (v := ?_) (a' := ?_) #[true, true, true, true, true, true, false, false, false, false, false, false] rfl rfl (any_of HT_.out (by kernel_rfl)) (fun _ _ _ h => h) (Or.inl ⟨by rfl, ?_⟩) ?_ ?_
        rotate_left
        ·intro w'
         go_simp
         with_reducible rfl
        rotate_left
        ·simp only [Act.put, List.setIfInBounds_toArray, List.set_cons_zero, List.set_cons_succ, i64_w, i32_w]
         rfl
        refine pure_ (i := 6) (N := some 75) (v := ?_) (a' := ?_) #[true, true, true, true, true, true, true, false, false, false, false, false] rfl rfl (any_of HT_.out (by kernel_rfl)) (fun _ _ _ h => h) (Or.inl ⟨by rfl, ?_⟩) ?_ ?_
        rotate_left
        ·intro w'
         go_simp
         with_reducible rfl
        rotate_left
        ·simp only [Act.put, List.setIfInBounds_toArray, List.set_cons_zero, List.set_cons_succ, i64_w, i32_w]
         rfl
        refine pure_ (i := 7) (N := some 76) (v := ?_) (a' := ?_) #[true, true, true, true, true, true, true, true, false, false, false, false] rfl rfl (any_of HT_.out (by kernel_rfl)) (fun _ _ _ h => h) (Or.inl ⟨by rfl, ?_⟩) ?_ ?_
        rotate_left
        ·intro w'
         go_simp
         with_reducible rfl
        rotate_left
        ·simp only [Act.put, List.setIfInBounds_toArray, List.set_cons_zero, List.set_cons_succ, i64_w, i32_w]
         rfl
        refine pure_ (i := 8) (N := some 77) (v := ?_) (a' := ?_) #[true, true, true, true, true, true, true, true, true, false, false, false] rfl rfl (any_of HT_.out (by kernel_rfl)) (fun _ _ _ h => h) (Or.inl ⟨by rfl, ?_⟩) ?_ ?_
        rotate_left
        ·intro w'
         go_simp
         with_reducible rfl
        rotate_left
        ·simp only [Act.put, List.setIfInBounds_toArray, List.set_cons_zero, List.set_cons_succ, i64_w, i32_w]
         rfl
        refine one_ (i := 9) (N := some 78) #[true, true, true, true, true, true, true, true, true, true, false, false] rfl rfl (one_of HT_.out (by kernel_rfl)) (by decide) (fun K hK => ?_)
        refine value_ (w1 := ?_) (v := ?_) (by rfl) rfl ?_ ?_
        rotate_left 2
        ·go_simp
         constructor
         ·rfl
         ·rfl
        refine hK.out _ _ trivial (fun hHeld => ?_)
        clear hK K
        refine norm_ (a' := ?_) ?_ ?_
        rotate_left
        ·show Act.put _ (some 78) _ = _
         simp only [Act.put, List.setIfInBounds_toArray, List.set_cons_zero, List.set_cons_succ, i64_w, i32_w]
         rfl
        refine one_ (i := 10) (N := some 79) #[true, true, true, true, true, true, true, true, true, true, true, false] rfl rfl (one_of HT_.out (by kernel_rfl)) (by decide) (fun K hK => ?_)
        refine Kd.R_append_step k46 (w0 := w) w.heap.size (by rfl) (.tmp 69) (.tmp 78) 43 46 (.agg #[(.int .i64 0), (.string ⟨#[]⟩), (.string ⟨#[]⟩), (.bool false)]) 48 rfl Try.underlying43 info46 rfl (by decide) (by omega) u5 x5_1 (⟨x6_1, a0.extract (x6_1 : Int).toNat a0.size, a0.extract (x6_1 : Int).toNat a0.size, false⟩ : S46) [.int .i64 x6_1, .string (a0.extract (x6_1 : Int).toNat a0.size), .string (a0.extract (x6_1 : Int).toNat a0.size), .bool false] (fun _ => True) (fun _ => False) rfl rfl ?aP (fun _ hk => hk.elim) ?aF ?aO ?aB ?aS ?aL ?_
        (case aP => exact k46_mkM _ _ _ (⟨x6_1, a0.extract (x6_1 : Int).toNat a0.size, a0.extract (x6_1 : Int).toNat a0.size, false⟩ : S46))
        (case aB => exact (by repeat (first | (with_reducible first | exact HB.out | apply below_alloc | apply pw_below_drewN | apply below_drew1) | exact HB.out)))
        (case aF => exact (fun _ _ => trivial))
        (case aO => exact (by (with_reducible repeat (first | apply Kd.R_alloc | apply Kd.R_drewN | apply Kd.R_drew)); exact HO_5.out))
        (case aS => exact (below_size (by repeat (first | (with_reducible first | exact HB.out | apply below_alloc | apply pw_below_drewN | apply below_drew1) | exact HB.out))))
        (case aL => have := LMc40.out; omega)
        intro v253 w42 ho hb hg hat
        rw [← Ny252.out] at ho
        have n0_ := Aside0.mk (hb)
        have n1_ := Aside0.mk (ho)
        clear HB
        clear HO_5
        have HB := n0_
        have HO254 := n1_
        clear n0_ n1_
        clear ho hb hg hat
        refine hK.out _ _ trivial (fun hHeld => ?_)
        clear hK K
        refine norm_ (a' := ?_) ?_ ?_
        rotate_left
        ·show Act.put _ (some 79) _ = _
         simp only [Act.put, List.setIfInBounds_toArray, List.set_cons_zero, List.set_cons_succ, i64_w, i32_w]
         rfl
        refine pure_ (i := 11) (N := some 5) (v := ?_) (a' := ?_) #[true, true, true, true, true, true, true, true, true, true, true, true] rfl rfl (any_of HT_.out (by kernel_rfl)) (fun _ _ _ h => h) (Or.inl ⟨by rfl, ?_⟩) ?_ ?_
        rotate_left
        ·intro w'
         go_simp
         with_reducible rfl
        rotate_left
        ·simp only [Act.put, List.setIfInBounds_toArray, List.set_cons_zero, List.set_cons_succ, i64_w, i32_w]
         rfl
        refine done_ (done_of HT_.out (by kernel_rfl)) ?_
        try go_wp2
        go_ret
        exact ⟨_, by first | rfl | (simp [errW_none, errW_some] <;> rfl) | (simp [*, errW_none, errW_some] <;> rfl), by (with_reducible repeat (first | apply Kd.R_alloc | apply Kd.R_drewN | apply Kd.R_drew)); exact HO254.out, by repeat (first | (with_reducible first | exact HB.out | apply below_alloc | apply pw_below_drewN | apply below_drew1) | exact HB.out)⟩
       ·rw [if_neg c40] at H
        exact absurd H (by simp)
      ·rw [if_neg c37] at H
       exact absurd H (by simp)
     ·rw [if_neg c36] at H
      exact absurd H (by simp)
    ·rw [if_neg c35] at H
     have c35b0 : decide (x6_1 < (a0.size : Int)) = false := decide_eq_false c35
     clear c35
     obtain rfl := Option.some.inj H
     go_wp2
     go_ret
     exact ⟨_, by first | rfl | (simp [errW_none, errW_some] <;> rfl) | (simp [*, errW_none, errW_some] <;> rfl), by (with_reducible repeat (first | apply Kd.R_alloc | apply Kd.R_drewN | apply Kd.R_drew)); exact HO_5.out, by repeat (first | (with_reducible first | exact HB.out | apply below_alloc | apply pw_below_drewN | apply below_drew1) | exact HB.out)⟩

/-! ### sieveref06_Decode: function 18 -/
def sieveref06_Decode.l0 : Nat → ByteArray → List (S46) → Int → Int → Option (ByteArray)
 | 0, _, _, _, _ => none
 | k + 1, x5, x11, x12, x13 => if x13 < x12 then (if 0 ≤ x13 then (if x13 < (x11.length : Int) then (if x5.size + ((rd_T46 x11 x13).f2).size ≤ 9223372036854775807 then (sieveref06_Decode.l0 k (x5 ++ ((rd_T46 x11 x13).f2)) x11 x12 (wrap64 (x13 + 1))) else (none)) else (none)) else (none)) else (some x5)
def sieveref06_Decode.f (k : Nat) (a0 : ByteArray) (a1 : Bool) : Option (ByteArray) := (sieveref01_Mend.f a0).bind fun t266 => ((sieveref06_Parts.f k t266 a1).bind fun t267 => (sieveref06_Decode.l0 k (⟨#[]⟩ : ByteArray) t267 (t267.length : Int) 0))
set_option maxHeartbeats 8000000 in
set_option maxRecDepth 100000 in
theorem sieveref06_Decode.calls (k : Nat) (a0 : ByteArray) (a1 : Bool) (r : ByteArray) (w : World) (h : sieveref06_Decode.f k a0 a1 = some r) :
  Calls Try.prog 18 #[.string a0, .bool a1] w fun e w' => e = .returned (.string r) ∧ Below w.heap.size w w' := by
 have hu46 := Try.underlying46
 have HB := Aside0.mk (Below.refl w.heap.size w)
 have H : ((sieveref01_Mend.f a0).bind fun t266 => ((sieveref06_Parts.f k t266 a1).bind fun t267 => (sieveref06_Decode.l0 k (⟨#[]⟩ : ByteArray) t267 (t267.length : Int) 0))) = some r := h
 clear h
 replace H := Option.bind_eq_some_iff.mp H
 obtain ⟨t266, A30, H⟩ := H
 replace H : ((sieveref06_Parts.f k t266 a1).bind fun t267 => (sieveref06_Decode.l0 k (⟨#[]⟩ : ByteArray) t267 (t267.length : Int) 0)) = some r := H
 have A3 := Aside0.mk A30
 clear A30
 replace H := Option.bind_eq_some_iff.mp H
 obtain ⟨t267, A40, H⟩ := H
 replace H : (sieveref06_Decode.l0 k (⟨#[]⟩ : ByteArray) t267 (t267.length : Int) 0) = some r := H
 have A4 := Aside0.mk A40
 clear A40
 have H' := Aside0.mk H
 clear H
 go_enter Try.func18, Try.ntmps18
 go_wp2_with (first | ((with_reducible refine gate_callee (f := 20) rfl ?_); refine goesL_ (some 9) rfl rfl Try.func20 (by kernel_rfl) rfl #[.string a0] rfl (by (try simp only [List.map_toArray, List.map_cons, List.map_nil]); first | done | rfl | (simp only [List.length_drop, List.length_take]; rfl) | (simp [*] <;> rfl)) ?_; (with_reducible refine (sieveref01_Mend.calls a0 t266 _ A3.out).mono ?_); rintro e w5 ⟨rfl, hb⟩; refine ⟨_, rfl, ?_⟩; have n0_ := Aside0.mk (below_step (by repeat (first | (with_reducible first | exact HB.out | apply below_alloc | apply pw_below_drewN | apply below_drew1) | exact HB.out)) hb); clear HB; have HB := n0_; clear n0_; (try clear hb); (try clear hb2); (try clear hk); (try clear hi)) | ((with_reducible refine gate_callee (f := 19) rfl ?_); refine goesL_ (some 11) rfl rfl Try.func19 (by kernel_rfl) rfl #[.string t266, .bool a1] rfl (by (try simp only [List.map_toArray, List.map_cons, List.map_nil]); first | done | rfl | (simp only [List.length_drop, List.length_take]; rfl) | (simp [*] <;> rfl)) ?_; (with_reducible refine (sieveref06_Parts.calls k t266 a1 t267 _ A4.out).mono ?_); rintro e w6 ⟨v268, rfl, ho0, hb⟩; refine ⟨_, rfl, ?_⟩; have n0_ := Aside0.mk (Kd.R_lower ho0 (below_size (by repeat (first | (with_reducible first | exact HB.out | apply below_alloc | apply pw_below_drewN | apply below_drew1) | exact HB.out)))); have n1_ := Aside0.mk (below_step (by repeat (first | (with_reducible first | exact HB.out | apply below_alloc | apply pw_below_drewN | apply below_drew1) | exact HB.out)) hb); clear HB; have HO269 := n0_; have HB := n1_; clear n0_ n1_; (try clear hb); (try clear hb2); (try clear hk); (try clear hi); (try clear ho0); obtain ⟨Ao7, co7, eo7⟩ := Kd.R_slice HO269.out; subst eo7))
 go_loopg [5, 13] k (fun kq v5 v13 w' => ∃ (x5_1 : ByteArray) (x13_1 : Int), v5 = .string x5_1 ∧ v13 = .int .i64 x13_1 ∧ Aside0 (sieveref06_Decode.l0 kq x5_1 t267 (t267.length : Int) x13_1 = some r) ∧ Aside0 (kq ≤ k) ∧ Aside0 (Kd.R k46 46 w' w.heap.size (fun _ => True) (.slice Ao7 t267.length co7) t267) ∧ Aside0 (Below w.heap.size w w'))
 case atStart => exact ⟨((⟨#[]⟩ : ByteArray)), (0), (by first | rfl | (simp; done) | (simp [*]; done) | (unfold bt; split <;> first | rfl | (exfalso; simp_all; done) | (exfalso; simp_all; omega))), (by first | rfl | (simp; done) | (simp [*]; done) | (unfold bt; split <;> first | rfl | (exfalso; simp_all; done) | (exfalso; simp_all; omega))), H', ⟨Nat.le_refl _⟩, ⟨by (with_reducible repeat (first | apply Kd.R_alloc | apply Kd.R_drewN | apply Kd.R_drew)); exact HO269.out⟩, ⟨by repeat (first | (with_reducible first | exact HB.out | apply below_alloc | apply pw_below_drewN | apply below_drew1) | exact HB.out)⟩⟩
 case round =>
  clear H'
  try clear c1
  try clear c2
  try clear p2
  obtain ⟨x5_1, x13_1, rfl, rfl, HA, HK1, HO_11, HB⟩ := hrel
  cases gk with
  | zero => exact absurd HA.out (by simp [sieveref06_Decode.l0])
  | succ k1 =>
   have H := HA.out
   clear HA
   simp only [sieveref06_Decode.l0] at H
   by_cases c8 : x13_1 < (t267.length : Int)
   ·rw [if_pos c8] at H
    have c8b0 : decide (x13_1 < (t267.length : Int)) = true := decide_eq_true c8
    clear c8
    by_cases c9 : 0 ≤ x13_1
    ·rw [if_pos c9] at H
     have c9b0 : decide (0 ≤ x13_1) = true := decide_eq_true c9
     clear c9
     by_cases c10 : x13_1 < (t267.length : Int)
     ·rw [if_pos c10] at H
      have c10b0 : decide (x13_1 < (t267.length : Int)) = true := decide_eq_true c10
      clear c10
      by_cases c11 : x5_1.size + ((rd_T46 t267 x13_1).f2).size ≤ 9223372036854775807
      ·rw [if_pos c11] at H
       have c11b0 := eq_true c11
       have c11b1 : decide (x5_1.size + ((rd_T46 t267 x13_1).f2).size ≤ 9223372036854775807) = true := decide_eq_true c11
       try have c11b2 : (9223372036854775807 < x5_1.size + ((rd_T46 t267 x13_1).f2).size) = False := eq_false (Nat.not_lt.2 c11)
       have H' := Aside0.mk H
       clear H
       have p270 : 0 ≤ (x13_1 : Int) := of_decide_eq_true (by first | (with_reducible assumption) | assumption)
       have q270 : x13_1 < (t267.length : Int) := of_decide_eq_true (by first | (with_reducible assumption) | assumption)
       obtain ⟨ad270, e270, hx270_0, hx270_1, hx270_2, hx270_3⟩ := at_T46 (Kd.R_reads' HO_11.out).2.2 x13_1 p270 q270
       cases e270
       replace p270 := eq_true p270
       replace q270 := eq_true q270
       go_wp2_with (first | ((with_reducible refine gate_dst (N := 7) rfl ?_); refine box_event ?hg (N := 7) ?hd (cs := #[.int .i64 0, .string (⟨#[]⟩ : ByteArray), .string (⟨#[]⟩ : ByteArray), .bool false]) (t := 46) ?hr ?_; (case hd => rfl); (case hg => rfl); (case hr => first | (go_simp; done) | (go_simp; rfl)); intro gb271 hg w12 hbox hb; have n0_ := Aside0.mk (Kd.R_below (Kd.R_elderB (by (with_reducible repeat (first | apply Kd.R_alloc | apply Kd.R_drewN | apply Kd.R_drew)); exact HO_11.out) gb271 (Nat.le_of_eq hg.symm)) hb); have n1_ := Aside0.mk (below_step (by repeat (first | (with_reducible first | exact HB.out | apply below_alloc | apply pw_below_drewN | apply below_drew1) | exact HB.out)) hb); have n2_ := Aside0.mk (hbox); have n3_ := Aside0.mk ((by rw [hg]; exact (below_size (by repeat (first | (with_reducible first | exact HB.out | apply below_alloc | apply pw_below_drewN | apply below_drew1) | exact HB.out))) : w.heap.size ≤ gb271)); have n4_ := Aside0.mk ((by rw [hg]; exact (below_size (by repeat (first | (with_reducible first | exact HB.out | apply below_alloc | apply pw_below_drewN | apply below_drew1) | exact HB.out))) : w.heap.size ≤ gb271)); clear HO_11; clear HB; have HO_11 := n0_; have HB := n1_; have BK271 := n2_; have GW271 := n3_; have GE271 := n4_; clear n0_ n1_ n2_ n3_ n4_; clear hb hbox hg; have hcz13_0 : w12.cell? ⟨gb271, 0, none⟩ = some (.int .i64 0) := (blk_cell BK271.out 0).trans rfl; have hcz13_1 : w12.cell? ⟨gb271, 1, none⟩ = some (.string (⟨#[]⟩ : ByteArray)) := (blk_cell BK271.out 1).trans rfl; have hcz13_2 : w12.cell? ⟨gb271, 2, none⟩ = some (.string (⟨#[]⟩ : ByteArray)) := (blk_cell BK271.out 2).trans rfl; have hcz13_3 : w12.cell? ⟨gb271, 3, none⟩ = some (.bool false) := (blk_cell BK271.out 3).trans rfl; have hfz13_0 := blk_frozen BK271.out 0; have hfz13_1 := blk_frozen BK271.out 1; have hfz13_2 := blk_frozen BK271.out 2; have hfz13_3 := blk_frozen BK271.out 3))
       go_roundg k1
       case measure => have := HK1.out; omega
       case rel => exact ⟨(x5_1 ++ ((rd_T46 t267 x13_1).f2)), (wrap64 (x13_1 + 1)), (by first | rfl | (simp; done) | (simp [*]; done) | (unfold bt; split <;> first | rfl | (exfalso; simp_all; done) | (exfalso; simp_all; omega))), (by first | rfl | (simp; done) | (simp [*]; done) | (unfold bt; split <;> first | rfl | (exfalso; simp_all; done) | (exfalso; simp_all; omega))), H', ⟨by have := HK1.out; omega⟩, ⟨by (with_reducible repeat (first | apply Kd.R_alloc | apply Kd.R_drewN | apply Kd.R_drew)); exact Kd.R_mono (Kd.R_far (p := ⟨gb271, 3, none⟩) (Kd.R_far (p := ⟨gb271, 2, none⟩) (Kd.R_far (p := ⟨gb271, 1, none⟩) (Kd.R_far (p := ⟨gb271, 0, none⟩) (Kd.R_mono HO_11.out (fun k_ hk => (⟨hk, hk.2⟩ : _ ∧ k_ ≠ gb271))) (fun _ hk => hk.2) (.int .i64 ((rd_T46 t267 x13_1).f0))) (fun _ hk => hk.2) (.string ((rd_T46 t267 x13_1).f1))) (fun _ hk => hk.2) (.string ((rd_T46 t267 x13_1).f2))) (fun _ hk => hk.2) (.bool ((rd_T46 t267 x13_1).f3))) (fun _ hk => trivial)⟩, ⟨by repeat (first | (with_reducible first | exact HB.out | apply below_alloc | apply pw_below_drewN | apply below_drew1 | refine below_set ?_ GE271.out) | exact HB.out)⟩⟩
      ·rw [if_neg c11] at H
       exact absurd H (by simp)
     ·rw [if_neg c10] at H
      exact absurd H (by simp)
    ·rw [if_neg c9] at H
     exact absurd H (by simp)
   ·rw [if_neg c8] at H
    have c8b0 : decide (x13_1 < (t267.length : Int)) = false := decide_eq_false c8
    clear c8
    obtain rfl := Option.some.inj H
    go_wp2
    go_ret
    exact ⟨by first | rfl | (simp [errW_none, errW_some] <;> rfl) | (simp [*, errW_none, errW_some] <;> rfl), by repeat (first | (with_reducible first | exact HB.out | apply below_alloc | apply pw_below_drewN | apply below_drew1) | exact HB.out)⟩

end Go.Proofs.Ythmbbkbmlnaghaa.P
end
section
/-
  Named references in plain Lean: what the program's loops over the table tell.
-/
namespace Go.Proofs.Ythmbbkbmlnaghaa.P
open Go.RowKit Go.Proofs.YthmbbkbmlnaghaaW.PrintWords Go.Proofs.YthmbbkbmlnaghaaW.PrintLast Go.Proofs.YthmbbkbmlnaghaaW.PrintMore
set_option linter.unusedVariables false
set_option linter.unusedSimpArgs false

abbrev Ent := S64
def nameL (x : Ent) : List UInt8 := x.f0.data.toList
def saysE (x : Ent) : List Int := if x.f2 = 0 then [x.f1] else [x.f1, x.f2]
def stepL (l : List UInt8) (acc : Nat × List Int) (x : Ent) : Nat × List Int :=
  if (nameL x).isPrefixOf l = true then
    (if (nameL x).length < l.length ∧ l.getD (nameL x).length 0 = 59 then (if acc.1 < (nameL x).length + 1 then ((nameL x).length + 1, saysE x) else acc)
     else if x.f3 = true then (if acc.1 < (nameL x).length then ((nameL x).length, saysE x) else acc) else acc)
  else acc
def longL (l : List UInt8) : Nat × List Int := ents.foldl (stepL l) (0, [])
def begL (l : List UInt8) : Bool := ents.any fun x => l.isPrefixOf (nameL x)

theorem ents_small : ∀ x ∈ ents, x.f0.size ≤ 100 := by decide +kernel
theorem ents_len : ents.length = 301 := by decide +kernel
theorem nameL_len (x : Ent) : (nameL x).length = x.f0.size := by simp [nameL]

theorem prefix_take (a p : List UInt8) : (p.isPrefixOf a = true) ↔ (p.length ≤ a.length ∧ a.take p.length = p) := by
  rw [List.isPrefixOf_iff_prefix, List.prefix_iff_eq_take]
  constructor
  · intro h
    refine ⟨?_, h.symm⟩
    have := congrArg List.length h
    rw [List.length_take] at this
    omega
  · exact fun h => h.2.symm
theorem hasPrefix_f (a b : ByteArray) : strings_HasPrefix.f a b = some (b.data.toList.isPrefixOf a.data.toList) := by
  unfold strings_HasPrefix.f stringslite_HasPrefix.f
  have ha : a.data.toList.length = a.size := by simp
  have hb : b.data.toList.length = b.size := by simp
  have e2 : b.toList = b.data.toList := ByteArray.toList_eq b
  by_cases h : b.size ≤ a.size
  · rw [if_pos (by omega), if_pos (by omega), if_pos (by omega)]
    show some _ = some _
    congr 1
    rw [Lib.extract_toList, e2, Bool.eq_iff_iff, beq_iff_eq, prefix_take, hb]
    simp only [Int.toNat_natCast, Nat.sub_zero, List.drop_zero]
    rw [ha]
    exact ⟨fun e => ⟨h, e⟩, fun e => e.2⟩
  · rw [if_neg (by omega)]
    show some false = some _
    congr 1
    symm
    rw [Bool.eq_false_iff, ne_eq, prefix_take, hb, ha]
    omega
theorem rdT_at (es : List Ent) (i : Nat) (h : i < es.length) : rd_T64 es (i : Int) = es[i] := by
  unfold rd_T64
  rw [Int.toNat_natCast, List.getD_eq_getElem?_getD, List.getElem?_eq_getElem h]
  rfl
theorem bt_l (s : ByteArray) (p : Nat) (h : p < s.size) : bt s (p : Int) = ((s.data.toList.getD p 0).toNat : Int) := by
  have hl : p < s.data.toList.length := by simpa using h
  have : s.data.toList.getD p 0 = s.data.toList[p] := by rw [List.getD_eq_getElem?_getD, List.getElem?_eq_getElem hl]; rfl
  rw [this]
  unfold bt
  simp only [Int.toNat_natCast]
  rw [dif_pos h]
  rfl
theorem u8_eq (b : UInt8) (n : Nat) (h : n < 256) : ((b.toNat : Int) = (n : Int)) ↔ b = UInt8.ofNat n := by
  constructor
  · intro e
    apply UInt8.toNat_inj.1
    rw [UInt8.toNat_ofNat_of_lt' h]
    omega
  · rintro rfl
    rw [UInt8.toNat_ofNat_of_lt' h]

theorem says_f (x : Ent) : entity_says.f x.f0 x.f1 x.f2 x.f3 = some (saysE x) := by
  unfold entity_says.f saysE
  split <;> rfl

set_option maxHeartbeats 4000000 in
theorem longest_l0 (s : ByteArray) (es : List Ent) (hes : es.length ≤ 100000) (hsm : ∀ x ∈ es, x.f0.size ≤ 100) : ∀ (d i k n : Nat) (out : List Int), es.length - i = d → i ≤ es.length → 2 * d + 1 ≤ k →
    entity_Longest.l0 k s (n : Int) out es (es.length : Int) (i : Int) = some ((((es.drop i).foldl (stepL s.data.toList) (n, out)).1 : Int), ((es.drop i).foldl (stepL s.data.toList) (n, out)).2)
  | 0, i, k, n, out, hd, hi, hk => by
    obtain ⟨k, rfl⟩ : ∃ j, k = j + 1 := ⟨k - 1, by omega⟩
    obtain rfl : i = es.length := by omega
    rw [entity_Longest.l0, if_neg (by omega), List.drop_length]
    rfl
  | d + 1, i, k, n, out, hd, hi, hk => by
    obtain ⟨k, rfl⟩ : ∃ j, k = j + 2 := ⟨k - 2, by omega⟩
    have hlt : i < es.length := by omega
    have HW := Aside0.mk (show wrap64 ((i : Int) + 1) = ((i + 1 : Nat) : Int) by unfold wrap64; omega)
    rw [List.drop_eq_getElem_cons hlt, List.foldl_cons]
    have hx := hsm es[i] (List.getElem_mem hlt)
    generalize hxe : es[i] = x at hx
    have hnl := nameL_len x
    have hsl : s.data.toList.length = s.size := by simp
    have ih1 := fun (n : Nat) (out : List Int) => longest_l0 s es hes hsm d (i + 1) (k + 1) n out (by omega) (by omega) (by omega)
    have ih2 := fun (n : Nat) (out : List Int) => longest_l0 s es hes hsm d (i + 1) k n out (by omega) (by omega) (by omega)
    rw [entity_Longest.l0, if_pos (by omega), if_pos (by omega), if_pos (by omega), rdT_at es i hlt, hxe, hasPrefix_f, HW.out]
    rw [Option.bind_some]
    by_cases hp : x.f0.data.toList.isPrefixOf s.data.toList = true
    · rw [if_pos hp]
      have hp' : (nameL x).isPrefixOf s.data.toList = true := hp
      have hle := ((prefix_take _ _).1 hp').1
      have HW2 := Aside0.mk (show wrap64 ((x.f0.size : Int) + 1) = ((x.f0.size + 1 : Nat) : Int) by unfold wrap64; omega)
      -- the test for a semicolon
      have hj : ∀ b : Bool, b = decide ((nameL x).length < s.data.toList.length ∧ s.data.toList.getD (nameL x).length 0 = 59) →
          entity_Longest.j1 (k + 1) s (n : Int) out (x.f0.size : Int) es (es.length : Int) (i : Int) b x.f0 x.f1 x.f2 x.f3 =
            some ((((es.drop (i + 1)).foldl (stepL s.data.toList) (stepL s.data.toList (n, out) x)).1 : Int), ((es.drop (i + 1)).foldl (stepL s.data.toList) (stepL s.data.toList (n, out) x)).2) := by
        rintro b hb
        rw [entity_Longest.j1, HW2.out, says_f, HW.out]
        have hs : stepL s.data.toList (n, out) x = (if (nameL x).length < s.data.toList.length ∧ s.data.toList.getD (nameL x).length 0 = 59 then (if n < (nameL x).length + 1 then ((nameL x).length + 1, saysE x) else (n, out))
            else if x.f3 = true then (if n < (nameL x).length then ((nameL x).length, saysE x) else (n, out)) else (n, out)) := by
          unfold stepL
          rw [if_pos hp']
        rw [hs]
        by_cases hc : (nameL x).length < s.data.toList.length ∧ s.data.toList.getD (nameL x).length 0 = 59
        · rw [hb, if_pos (decide_eq_true hc), if_pos hc]
          by_cases hm : n < (nameL x).length + 1
          · have hm1 : ((x.f0.size + 1 : Nat) : Int) > (n : Int) := by omega
            rw [if_pos hm1, if_pos hm]
            rw [Option.bind_some]
            rw [ih2, hnl]
          · rw [if_neg (by omega), if_neg hm, ih2]
        · rw [hb, if_neg (by simpa using hc), if_neg hc]
          by_cases h3 : x.f3 = true
          · rw [if_pos h3, if_pos h3]
            by_cases hm : n < (nameL x).length
            · rw [if_pos (by omega), if_pos hm]
              rw [Option.bind_some]
              rw [ih2, hnl]
            · rw [if_neg (by omega), if_neg hm, ih2]
          · rw [if_neg h3, if_neg h3, ih2]
      by_cases hc1 : x.f0.size < s.size
      · rw [if_pos (by omega), if_pos (by omega)]
        refine hj _ ?_
        rw [bt_l s _ hc1, Bool.eq_iff_iff, beq_iff_eq, decide_eq_true_iff, hnl, hsl]
        have := u8_eq (s.data.toList.getD x.f0.size 0) 59 (by decide)
        exact ⟨fun e => ⟨hc1, this.1 e⟩, fun e => this.2 e.2⟩
      · rw [if_neg (by omega)]
        refine hj _ ?_
        symm
        rw [decide_eq_false_iff_not, hnl, hsl]
        omega
    · rw [if_neg hp]
      have hp' : ¬ (nameL x).isPrefixOf s.data.toList = true := hp
      have hstep : stepL s.data.toList (n, out) x = (n, out) := by unfold stepL; rw [if_neg hp']
      rw [hstep, ih1]
theorem longest_f (s : ByteArray) (k : Nat) (hk : 603 ≤ k) : entity_Longest.f k s = some (((longL s.data.toList).1 : Int), (longL s.data.toList).2) := by
  unfold entity_Longest.f
  show entity_Longest.l0 k s ((0 : Nat) : Int) [] ents (ents.length : Int) ((0 : Nat) : Int) = _
  rw [longest_l0 s ents (by rw [ents_len]; omega) ents_small ents.length 0 k 0 [] (by omega) (by omega) (by rw [ents_len]; omega)]
  rfl

theorem begins_l0 (s : ByteArray) (es : List Ent) (hes : es.length ≤ 100000) : ∀ (d i k : Nat), es.length - i = d → i ≤ es.length → d + 1 ≤ k →
    entity_Begins.l0 k s es (es.length : Int) (i : Int) = some ((es.drop i).any fun x => s.data.toList.isPrefixOf (nameL x))
  | 0, i, k, hd, hi, hk => by
    obtain ⟨k, rfl⟩ : ∃ j, k = j + 1 := ⟨k - 1, by omega⟩
    obtain rfl : i = es.length := by omega
    rw [entity_Begins.l0, if_neg (by omega), List.drop_length]
    rfl
  | d + 1, i, k, hd, hi, hk => by
    obtain ⟨k, rfl⟩ : ∃ j, k = j + 1 := ⟨k - 1, by omega⟩
    have hlt : i < es.length := by omega
    have HW := Aside0.mk (show wrap64 ((i : Int) + 1) = ((i + 1 : Nat) : Int) by unfold wrap64; omega)
    have ih := begins_l0 s es hes d (i + 1) k (by omega) (by omega) (by omega)
    rw [List.drop_eq_getElem_cons hlt, List.any_cons]
    rw [entity_Begins.l0, if_pos (by omega), if_pos (by omega), if_pos (by omega), rdT_at es i hlt, HW.out]
    generalize es[i] = x
    have hnl := nameL_len x
    have hsl : s.data.toList.length = s.size := by simp
    by_cases hc : s.size ≤ x.f0.size
    · rw [if_pos (by omega), hasPrefix_f]
      rw [Option.bind_some]
      by_cases hp : s.data.toList.isPrefixOf x.f0.data.toList = true
      · rw [if_pos hp]
        have : s.data.toList.isPrefixOf (nameL x) = true := hp
        rw [this]
        rfl
      · rw [if_neg hp, ih]
        have : s.data.toList.isPrefixOf (nameL x) = false := Bool.eq_false_iff.2 hp
        rw [this]
        rfl
    · rw [if_neg (by omega), ih]
      have : s.data.toList.isPrefixOf (nameL x) = false := by
        rw [Bool.eq_false_iff, ne_eq, prefix_take]
        omega
      rw [this]
      rfl
theorem begins_f (s : ByteArray) (k : Nat) (hk : 302 ≤ k) : entity_Begins.f k s = some (begL s.data.toList) := by
  unfold entity_Begins.f
  show entity_Begins.l0 k s ents (ents.length : Int) ((0 : Nat) : Int) = _
  rw [begins_l0 s ents (by rw [ents_len]; omega) ents.length 0 k (by omega) (by omega) (by rw [ents_len]; omega)]
  rfl
end Go.Proofs.Ythmbbkbmlnaghaa.P
end
section
/-
  charref.named in plain Lean.
-/
namespace Go.Proofs.Ythmbbkbmlnaghaa.P
open Go.RowKit Go.Proofs.YthmbbkbmlnaghaaW.PrintWords Go.Proofs.YthmbbkbmlnaghaaW.PrintLast Go.Proofs.YthmbbkbmlnaghaaW.PrintMore
set_option linter.unusedVariables false
set_option linter.unusedSimpArgs false

def wordB (b : Nat) : Bool := decide ((65 ≤ b ∧ b ≤ 90) ∨ (97 ≤ b ∧ b ≤ 122) ∨ (48 ≤ b ∧ b ≤ 57))
theorem word_all : ∀ b : Fin 256, charref_word.f ((b.val : Nat) : Int) = some (wordB b.val) := by decide +kernel

theorem stepL_le (l : List UInt8) (acc : Nat × List Int) (x : Ent) (h : acc.1 ≤ l.length) : (stepL l acc x).1 ≤ l.length := by
  unfold stepL
  by_cases hp : (nameL x).isPrefixOf l = true
  · rw [if_pos hp]
    have := ((prefix_take _ _).1 hp).1
    by_cases hc : (nameL x).length < l.length ∧ l.getD (nameL x).length 0 = 59
    · rw [if_pos hc]
      split
      · exact hc.1
      · exact h
    · rw [if_neg hc]
      split
      · split
        · exact this
        · exact h
      · exact h
  · rw [if_neg hp]
    exact h
theorem foldL_le (l : List UInt8) : ∀ (es : List Ent) (acc : Nat × List Int), acc.1 ≤ l.length → (es.foldl (stepL l) acc).1 ≤ l.length
  | [], acc, h => h
  | x :: t, acc, h => foldL_le l t _ (stepL_le l acc x h)
theorem longL_le (l : List UInt8) : (longL l).1 ≤ l.length := foldL_le l ents (0, []) (Nat.zero_le _)

theorem foldL_small (l : List UInt8) : ∀ (es : List Ent) (acc : Nat × List Int), acc.1 ≤ 101 → (∀ x ∈ es, x.f0.size ≤ 100) → (es.foldl (stepL l) acc).1 ≤ 101
  | [], acc, h, _ => h
  | x :: t, acc, h, hs => by
    refine foldL_small l t _ ?_ (fun y hy => hs y (List.mem_cons_of_mem _ hy))
    have hx := hs x List.mem_cons_self
    have hn := nameL_len x
    unfold stepL
    split
    · split
      · split
        · show (nameL x).length + 1 ≤ 101
          omega
        · exact h
      · split
        · split
          · show (nameL x).length ≤ 101
            omega
          · exact h
        · exact h
    · exact h
theorem longL_small (l : List UInt8) : (longL l).1 ≤ 101 := foldL_small l ents (0, []) (Nat.zero_le _) ents_small

def emp : ByteArray := ⟨#[]⟩
def namedL (l : List UInt8) (attr e : Bool) : ByteArray × Int × Bool :=
  if e = false ∧ begL l = true then (emp, 0, false)
  else if (longL l).1 = 0 then (emp, 0, true)
  else if attr = true ∧ l.getD ((longL l).1 - 1) 0 ≠ 59 then
    (if (longL l).1 = l.length then (if e = true then (Hc_text (longL l).2, ((longL l).1 : Int), true) else (emp, 0, false))
     else if wordB (l.getD (longL l).1 0).toNat = true then (emp, 0, true)
     else if l.getD (longL l).1 0 = 61 then (emp, 0, true) else (Hc_text (longL l).2, ((longL l).1 : Int), true))
  else (Hc_text (longL l).2, ((longL l).1 : Int), true)

theorem named_j1 (k : Nat) (s : ByteArray) (e : Bool) (n : Nat) (o : List Int) (b : Bool) (hn : n ≤ s.size) :
    charref_named.j1 (k + 1) s e (n : Int) o b = some (if b = true then
      (if n = s.data.toList.length then (if e = true then (Hc_text o, (n : Int), true) else (emp, 0, false))
       else if wordB (s.data.toList.getD n 0).toNat = true then (emp, 0, true)
       else if s.data.toList.getD n 0 = 61 then (emp, 0, true) else (Hc_text o, (n : Int), true))
      else (Hc_text o, (n : Int), true)) := by
  have hsl : s.data.toList.length = s.size := by simp
  rw [charref_named.j1]
  by_cases hb : b = true
  · rw [if_pos hb, if_pos hb, hsl]
    by_cases h1 : n = s.size
    · rw [if_pos (by omega), if_pos h1]
      split <;> rfl
    · rw [if_neg (by omega), if_neg h1, if_pos (by omega), if_pos (by omega), bt_l s n (by omega)]
      have hw := word_all ⟨_, UInt8.toNat_lt (s.data.toList.getD n 0)⟩
      simp only at hw
      rw [hw, Option.bind_some]
      have hq : ((s.data.toList.getD n 0).toNat : Int) = 61 ↔ s.data.toList.getD n 0 = 61 := u8_eq (s.data.toList.getD n 0) 61 (by decide)
      by_cases h2 : wordB (s.data.toList.getD n 0).toNat = true
      · rw [if_pos h2, if_pos h2]
        rfl
      · rw [if_neg h2, if_neg h2]
        by_cases h3 : s.data.toList.getD n 0 = 61
        · rw [if_pos h3, if_pos (hq.2 h3)]
          rfl
        · rw [if_neg h3, if_neg (fun e => h3 (hq.1 e))]
  · rw [if_neg hb, if_neg hb]
theorem named_j0 (k : Nat) (hk : 603 ≤ k) (s : ByteArray) (attr e b : Bool) :
    charref_named.j0 (k + 2) s attr e b = some (if b = true then (emp, 0, false) else if (longL s.data.toList).1 = 0 then (emp, 0, true)
      else if attr = true ∧ s.data.toList.getD ((longL s.data.toList).1 - 1) 0 ≠ 59 then
        (if (longL s.data.toList).1 = s.data.toList.length then (if e = true then (Hc_text (longL s.data.toList).2, ((longL s.data.toList).1 : Int), true) else (emp, 0, false))
         else if wordB (s.data.toList.getD (longL s.data.toList).1 0).toNat = true then (emp, 0, true)
         else if s.data.toList.getD (longL s.data.toList).1 0 = 61 then (emp, 0, true) else (Hc_text (longL s.data.toList).2, ((longL s.data.toList).1 : Int), true))
      else (Hc_text (longL s.data.toList).2, ((longL s.data.toList).1 : Int), true)) := by
  have hle := longL_le s.data.toList
  have hsm := longL_small s.data.toList
  have hsl : s.data.toList.length = s.size := by simp
  rw [charref_named.j0]
  by_cases hb : b = true
  · rw [if_pos hb, if_pos hb]
    rfl
  rw [if_neg hb, if_neg hb, longest_f s (k + 1) (by omega), Option.bind_some]
  generalize longL s.data.toList = q at hle hsm
  obtain ⟨n, o⟩ := q
  simp only at hle hsm ⊢
  by_cases h0 : n = 0
  · rw [if_pos (by omega), if_pos h0]
    rfl
  rw [if_neg (by omega), if_neg h0]
  by_cases ha : attr = true
  · have HW := Aside0.mk (show wrap64 ((n : Int) - 1) = ((n - 1 : Nat) : Int) by unfold wrap64; omega)
    rw [if_pos ha, HW.out, if_pos (by omega), if_pos (by omega), named_j1 k s e n o _ (by omega), bt_l s (n - 1) (by omega)]
    have hq : ((s.data.toList.getD (n - 1) 0).toNat : Int) = 59 ↔ s.data.toList.getD (n - 1) 0 = 59 := u8_eq (s.data.toList.getD (n - 1) 0) 59 (by decide)
    by_cases h59 : s.data.toList.getD (n - 1) 0 = 59
    · rw [if_neg (by rw [bne_iff_ne]; exact fun h => h (hq.2 h59)), if_neg (fun h => h.2 h59)]
    · rw [if_pos (by rw [bne_iff_ne]; exact fun h => h59 (hq.1 h)), if_pos (show attr = true ∧ s.data.toList.getD (n - 1) 0 ≠ 59 from ⟨ha, h59⟩)]
  · rw [if_neg ha, named_j1 k s e n o _ (by omega), if_neg (by decide), if_neg (fun h => ha h.1)]
theorem named_f (k : Nat) (hk : 605 ≤ k) (s : ByteArray) (attr e : Bool) : charref_named.f k s attr e = some (namedL s.data.toList attr e) := by
  obtain ⟨j, rfl⟩ : ∃ j, k = j + 2 := ⟨k - 2, by omega⟩
  unfold charref_named.f namedL
  cases e with
  | true =>
    rw [if_pos rfl, named_j0 j (by omega), if_neg (show ¬ (false = true) by decide), if_neg (show ¬ (true = false ∧ begL s.data.toList = true) from fun h => by cases h.1)]
  | false =>
    rw [if_neg (by decide), begins_f s _ (by omega), Option.bind_some, named_j0 j (by omega)]
    by_cases hb : begL s.data.toList = true
    · rw [if_pos hb, if_pos (show false = false ∧ begL s.data.toList = true from ⟨rfl, hb⟩)]
    · rw [if_neg hb, if_neg (show ¬ (false = false ∧ begL s.data.toList = true) from fun h => hb h.2)]
end Go.Proofs.Ythmbbkbmlnaghaa.P
end
section
/-
 charref.Number in plain Lean.
-/
namespace Go.Proofs.Ythmbbkbmlnaghaa.P
open Go.RowKit Go.Proofs.YthmbbkbmlnaghaaW.PrintWords Go.Proofs.YthmbbkbmlnaghaaW.PrintLast Go.Proofs.YthmbbkbmlnaghaaW.PrintMore
set_option linter.unusedVariables false
set_option linter.unusedSimpArgs false

theorem digV_range : ∀ b : Fin 256, -1 ≤ digV b.val ∧ digV b.val ≤ 15 := by decide +kernel
theorem value_f (k : Nat) (b : UInt8) : names_Value.f (k + 1) (wrap32 (b.toNat : Int)) = some (digV b.toNat) := by
 have h := digV_all ⟨b.toNat, UInt8.toNat_lt b⟩
 exact (show names_Value.f (k + 1) (wrap32 (b.toNat : Int)) = names_Value.f 9 (wrap32 (b.toNat : Int)) from rfl).trans h
/-- what digits say so far -/
def numStep (base : Nat) (n : Nat) (b : UInt8) : Nat := min (n * base + (digV b.toNat).toNat) 1114112
def numL (hex : Bool) (l : List UInt8) : Int × Bool :=
 if l.all (isDig hex) = true then (if l = [] then (65533, false) else saysF ((l.foldl (numStep (if hex = true then 16 else 10)) 0 : Nat) : Int)) else (65533, false)

theorem num_step10 (n v : Nat) (hn : n ≤ 1114112) (hv : v ≤ 15) : mn (wrap64 ((wrap64 ((n : Int) * 10)) + (v : Int))) 1114112 = ((min (n * 10 + v) 1114112 : Nat) : Int) := by
 have e1 : wrap64 ((n : Int) * 10) = (n : Int) * 10 := by unfold wrap64; omega
 rw [e1]
 have e2 : wrap64 ((n : Int) * 10 + (v : Int)) = (n : Int) * 10 + (v : Int) := by clear e1; unfold wrap64; omega
 rw [e2]
 clear e1 e2
 unfold mn
 split <;> omega
theorem num_step16 (n v : Nat) (hn : n ≤ 1114112) (hv : v ≤ 15) : mn (wrap64 ((wrap64 ((n : Int) * 16)) + (v : Int))) 1114112 = ((min (n * 16 + v) 1114112 : Nat) : Int) := by
 have e1 : wrap64 ((n : Int) * 16) = (n : Int) * 16 := by unfold wrap64; omega
 rw [e1]
 have e2 : wrap64 ((n : Int) * 16 + (v : Int)) = (n : Int) * 16 + (v : Int) := by clear e1; unfold wrap64; omega
 rw [e2]
 clear e1 e2
 unfold mn
 split <;> omega

theorem number_l0 (s : ByteArray) (hs : s.size ≤ 35184372088831) (hex : Bool) (base : Nat) (hb : base = if hex = true then 16 else 10) (ok : Bool) : ∀ (d i k n : Nat), s.size - i = d → i ≤ s.size → n ≤ 1114112 → d + 2 ≤ k →
  charref_Number.l0 k s (base : Int) (n : Int) ok (s.size : Int) (i : Int) =
   some (if (s.data.toList.drop i).all (isDig hex) = true then (if ok = true then saysF (((s.data.toList.drop i).foldl (numStep base) n : Nat) : Int) else (65533, false)) else (65533, false))
 | 0, i, k, n, hd, hi, hn, hk => by
  obtain ⟨k, rfl⟩ : ∃ j, k = j + 1 := ⟨k - 1, by omega⟩
  obtain rfl : i = s.size := by omega
  have he : s.data.toList.drop s.size = [] := List.drop_eq_nil_of_le (by simp)
  rw [charref_Number.l0, if_neg (by omega), he]
  simp only [List.all_nil, List.foldl_nil, if_true]
  by_cases ho : ok = true
  ·rw [if_pos ho, if_pos ho]
   have : charref_says.f (n : Int) = some (saysF (n : Int)) := by unfold charref_says.f; rw [if_pos (by omega)]
   rw [this]
   rfl
  ·rw [if_neg ho, if_neg ho]
 | d + 1, i, k, n, hd, hi, hn, hk => by
  obtain ⟨k, rfl⟩ : ∃ j, k = j + 2 := ⟨k - 2, by omega⟩
  have hlt : i < s.size := by omega
  have hl : i < s.data.toList.length := by simpa using hlt
  have hdr := List.drop_eq_getElem_cons hl
  have hg : s.data.toList.getD i 0 = s.data.toList[i] := by rw [List.getD_eq_getElem?_getD, List.getElem?_eq_getElem hl]; rfl
  have ih := fun (n : Nat) (hn : n ≤ 1114112) => number_l0 s hs hex base hb ok d (i + 1) (k + 1) n (by omega) (by omega) hn (by omega)
  rw [hdr, List.all_cons, List.foldl_cons]
  rw [charref_Number.l0, if_pos (by omega), if_pos (by omega), if_pos (by omega), bt_l s i hlt, hg, value_f, Option.bind_some]
  generalize s.data.toList[i] = b
  have hr := digV_range ⟨b.toNat, UInt8.toNat_lt b⟩
  simp only at hr
  have hbase : base = 10 ∨ base = 16 := by subst hb; split <;> simp
  by_cases h0 : digV b.toNat < 0
  ·have hd0 : isDig hex b = false := by unfold isDig; rw [decide_eq_false (by omega), Bool.false_and]
   rw [if_pos h0, hd0, Bool.false_and, if_neg (by decide)]
  rw [if_neg h0]
  by_cases h1 : digV b.toNat ≥ (base : Int)
  ·have hd0 : isDig hex b = false := by
    unfold isDig
    cases hex with
    | true => simp at hb; omega
    | false => simp at hb; rw [Bool.false_or, decide_eq_false (by omega : ¬ digV b.toNat < 10), Bool.and_false]
   rw [if_pos h1, hd0, Bool.false_and, if_neg (by decide)]
  rw [if_neg h1]
  have hd1 : isDig hex b = true := by
   unfold isDig
   rw [decide_eq_true (by omega), Bool.true_and]
   cases hex with
   | true => rfl
   | false => simp at hb; rw [Bool.false_or, decide_eq_true (by omega)]
  have HM := Aside0.mk (show mn (wrap64 ((wrap64 ((n : Int) * (base : Int))) + digV b.toNat)) 1114112 = ((numStep base n b : Nat) : Int) by
   obtain ⟨v, hv⟩ : ∃ v : Nat, digV b.toNat = v := ⟨(digV b.toNat).toNat, by omega⟩
   unfold numStep
   rw [hv, Int.toNat_natCast]
   rcases hbase with hb2 | hb2
   ·rw [hb2]; exact num_step10 n v hn (by omega)
   ·rw [hb2]; exact num_step16 n v hn (by omega))
  have HW := Aside0.mk (show wrap64 ((i : Int) + 1) = ((i + 1 : Nat) : Int) by unfold wrap64; omega)
  rw [HM.out, HW.out, ih _ (by unfold numStep; omega), hd1, Bool.true_and]
theorem number_f (k : Nat) (s : ByteArray) (hs : s.size ≤ 35184372088831) (hk : s.size + 4 ≤ k) (hex : Bool) : charref_Number.f k s hex = some (numL hex s.data.toList) := by
 obtain ⟨j, rfl⟩ : ∃ j, k = j + 1 := ⟨k - 1, by omega⟩
 have hne : (s.toList != ([] : List UInt8)) = decide (s.data.toList ≠ []) := by rw [ByteArray.toList_eq, Bool.eq_iff_iff, bne_iff_ne, decide_eq_true_iff]
 have key : ∀ base : Nat, base = (if hex = true then 16 else 10) → charref_Number.j0 (j + 1) s (base : Int) = some (numL hex s.data.toList) := by
  intro base hb
  rw [charref_Number.j0]
  have := number_l0 s hs hex base hb (s.toList != ([] : List UInt8)) s.size 0 j 0 (by omega) (by omega) (by omega) (by omega)
  rw [List.drop_zero] at this
  refine Eq.trans this ?_
  unfold numL
  rw [hne, hb]
  by_cases h : s.data.toList = []
  ·simp [h]
  ·simp [h]
 unfold charref_Number.f
 cases hex with
 | true => rw [if_pos rfl]; exact key 16 rfl
 | false => rw [if_neg (by decide)]; exact key 10 rfl
end Go.Proofs.Ythmbbkbmlnaghaa.P
end
section
/-
 Part of Lr06.
-/
namespace Go.Proofs.Ythmbbkbmlnaghaa.P
open Go.RowKit Go.Proofs.YthmbbkbmlnaghaaW.PrintWords Go.Proofs.YthmbbkbmlnaghaaW.PrintLast Go.Proofs.YthmbbkbmlnaghaaW.PrintMore
set_option linter.unusedVariables false
set_option linter.unusedSimpArgs false

theorem rvalue_all : ∀ b : Fin 256, sieveref04_Value.f 9 (wrap32 ((b.val : Nat) : Int)) = some (digV b.val) := by decide +kernel
theorem rvalue_f (k : Nat) (b : UInt8) : sieveref04_Value.f (k + 1) (wrap32 (b.toNat : Int)) = some (digV b.toNat) :=
 (show sieveref04_Value.f (k + 1) (wrap32 (b.toNat : Int)) = sieveref04_Value.f 9 (wrap32 (b.toNat : Int)) from rfl).trans (rvalue_all ⟨b.toNat, UInt8.toNat_lt b⟩)
theorem rdigit_all : ∀ b : Fin 256, sieveref04_Digit.f (wrap32 ((b.val : Nat) : Int)) = some (isDig false (UInt8.ofNat b.val)) := by decide +kernel
theorem rdigit_f (b : UInt8) : sieveref04_Digit.f (wrap32 (b.toNat : Int)) = some (isDig false b) := by
 have := rdigit_all ⟨b.toNat, UInt8.toNat_lt b⟩
 simp only [UInt8.ofNat_toNat] at this
 exact this
theorem rhex_f (k : Nat) (b : UInt8) : sieveref04_Hex.f (k + 1) (wrap32 (b.toNat : Int)) = some (isDig true b) := by
 unfold sieveref04_Hex.f
 rw [rvalue_f, Option.bind_some]
 unfold isDig
 rw [Bool.true_or, Bool.and_true]
def winR (n : Nat) : Int := ([8364, 0, 8218, 402, 8222, 8230, 8224, 8225, 710, 8240, 352, 8249, 338, 0, 381, 0, 0, 8216, 8217, 8220, 8221, 8226, 8211, 8212, 732, 8482, 353, 8250, 339, 0, 382, 376] : List Int).getD n 0
theorem win_all : ∀ i : Fin 32, sieveref06_Windows.f ((i.val + 128 : Nat) : Int) = some (winR i.val) ∧ (if winR i.val = 0 then (((i.val + 128 : Nat) : Int), true) else (winR i.val, false)) = (winL.getD i.val 0, winL.getD i.val 0 == ((i.val + 128 : Nat) : Int)) := by decide +kernel
theorem number_j3 (k n : Nat) (hn : n ≤ 1114112) (b : Bool) (hb : b = decide (n = 0 ∨ n > 1114111 ∨ (n ≥ 55296 ∧ n ≤ 57343))) : sieveref06_Number.j3 (k + 1) (n : Int) b = some (saysF (n : Int)) := by
 have hc : (n = 0 ∨ n > 1114111 ∨ (n ≥ 55296 ∧ n ≤ 57343)) ↔ ((n : Int) = 0 ∨ (n : Int) > 1114111 ∨ ((n : Int) ≥ 55296 ∧ (n : Int) ≤ 57343)) := by omega
 rw [sieveref06_Number.j3]
 unfold saysF
 by_cases c : n = 0 ∨ n > 1114111 ∨ (n ≥ 55296 ∧ n ≤ 57343)
 ·rw [hb, decide_eq_true c, if_pos rfl, if_pos (hc.1 c)]
 ·rw [hb, decide_eq_false c, if_neg (by decide), if_neg (fun d => c (hc.2 d)), wrap32_nat _ (by omega)]
  by_cases c1 : n ≥ 128
  ·rw [if_pos (by omega)]
   by_cases c2 : n ≤ 159
   ·obtain ⟨h1, h2⟩ := win_all ⟨n - 128, by omega⟩
    have e : n - 128 + 128 = n := by omega
    simp only [e] at h1 h2
    rw [if_pos (by omega), h1, Option.bind_some, Option.bind_some, if_pos (show (n : Int) ≥ 128 ∧ (n : Int) ≤ 159 by omega)]
    have e2 : ((n : Int) - 128).toNat = n - 128 := by omega
    rw [e2, ← h2]
    split <;> rfl
   ·rw [if_neg (by omega), if_neg (by omega)]
  ·rw [if_neg (by omega), if_neg (by omega)]
theorem rstep10 (n v : Nat) (hn : n ≤ 1114112) (hv : v ≤ 15) : (if wrap64 ((wrap64 ((n : Int) * 10)) + (v : Int)) > 1114111 then (1114112 : Int) else wrap64 ((wrap64 ((n : Int) * 10)) + (v : Int))) = ((min (n * 10 + v) 1114112 : Nat) : Int) := by
 have e1 : wrap64 ((n : Int) * 10) = (n : Int) * 10 := by unfold wrap64; omega
 rw [e1]
 have e2 : wrap64 ((n : Int) * 10 + (v : Int)) = (n : Int) * 10 + (v : Int) := by clear e1; unfold wrap64; omega
 rw [e2]
 clear e1 e2
 split <;> omega
theorem rstep16 (n v : Nat) (hn : n ≤ 1114112) (hv : v ≤ 15) : (if wrap64 ((wrap64 ((n : Int) * 16)) + (v : Int)) > 1114111 then (1114112 : Int) else wrap64 ((wrap64 ((n : Int) * 16)) + (v : Int))) = ((min (n * 16 + v) 1114112 : Nat) : Int) := by
 have e1 : wrap64 ((n : Int) * 16) = (n : Int) * 16 := by unfold wrap64; omega
 rw [e1]
 have e2 : wrap64 ((n : Int) * 16 + (v : Int)) = (n : Int) * 16 + (v : Int) := by clear e1; unfold wrap64; omega
 rw [e2]
 clear e1 e2
 split <;> omega
theorem rnumber_l0 (s : ByteArray) (hs : s.size ≤ 35184372088831) (hex : Bool) (base : Nat) (hb : base = if hex = true then 16 else 10) : ∀ (d i k n : Nat), s.size - i = d → i ≤ s.size → n ≤ 1114112 → 2 * d + 3 ≤ k →
  sieveref06_Number.l0 k s (base : Int) (n : Int) (i : Int) =
   some (if (s.data.toList.drop i).all (isDig hex) = true then (if s.data.toList = [] then (65533, false) else saysF (((s.data.toList.drop i).foldl (numStep base) n : Nat) : Int)) else (65533, false))
 | 0, i, k, n, hd, hi, hn, hk => by
  obtain ⟨k, rfl⟩ : ∃ j, k = j + 2 := ⟨k - 2, by omega⟩
  obtain rfl : i = s.size := by omega
  have he : s.data.toList.drop s.size = [] := List.drop_eq_nil_of_le (by simp)
  rw [sieveref06_Number.l0, if_neg (by omega), he, ByteArray.toList_eq]
  simp only [List.all_nil, List.foldl_nil, if_true]
  by_cases h0 : s.data.toList = []
  ·rw [if_pos h0, if_pos h0, sieveref06_Number.j3, if_pos rfl]
  rw [if_neg h0, if_neg h0]
  by_cases c1 : n = 0
  ·rw [if_pos (by omega)]
   exact number_j3 k n hn _ (by symm; rw [decide_eq_true_iff]; omega)
  rw [if_neg (by omega)]
  by_cases c2 : n > 1114111
  ·rw [if_pos (by omega)]
   exact number_j3 k n hn _ (by symm; rw [decide_eq_true_iff]; omega)
  rw [if_neg (by omega)]
  by_cases c3 : n ≥ 55296
  ·rw [if_pos (by omega)]
   exact number_j3 k n hn _ (by rw [decide_eq_decide]; omega)
  ·rw [if_neg (by omega)]
   exact number_j3 k n hn _ (by symm; rw [decide_eq_false_iff_not]; omega)
 | d + 1, i, k, n, hd, hi, hn, hk => by
  obtain ⟨k, rfl⟩ : ∃ j, k = j + 2 := ⟨k - 2, by omega⟩
  have hlt : i < s.size := by omega
  have hl : i < s.data.toList.length := by simpa using hlt
  have hdr := List.drop_eq_getElem_cons hl
  have hg : s.data.toList.getD i 0 = s.data.toList[i] := by rw [List.getD_eq_getElem?_getD, List.getElem?_eq_getElem hl]; rfl
  have ih := fun (n : Nat) (hn : n ≤ 1114112) => rnumber_l0 s hs hex base hb d (i + 1) k n (by omega) (by omega) hn (by omega)
  rw [hdr, List.all_cons, List.foldl_cons]
  rw [sieveref06_Number.l0, if_pos (by omega), if_pos (by omega), bt_l s i hlt, hg, rvalue_f, Option.bind_some]
  generalize s.data.toList[i] = b
  have hr := digV_range ⟨b.toNat, UInt8.toNat_lt b⟩
  simp only at hr
  have hbase : base = 10 ∨ base = 16 := by subst hb; split <;> simp
  rw [sieveref06_Number.j2, sieveref06_Number.j2]
  by_cases h0 : digV b.toNat < 0
  ·have hd0 : isDig hex b = false := by unfold isDig; rw [decide_eq_false (by omega), Bool.false_and]
   rw [if_pos h0, if_pos rfl, hd0, Bool.false_and, if_neg (by decide)]
  rw [if_neg h0]
  by_cases h1 : digV b.toNat ≥ (base : Int)
  ·have hd0 : isDig hex b = false := by
    unfold isDig
    cases hex with
    | true => simp at hb; omega
    | false => simp at hb; rw [Bool.false_or, decide_eq_false (by omega : ¬ digV b.toNat < 10), Bool.and_false]
   rw [if_pos (decide_eq_true h1), hd0, Bool.false_and, if_neg (by decide)]
  rw [if_neg (by rw [decide_eq_true_iff]; exact h1)]
  have hd1 : isDig hex b = true := by
   unfold isDig
   rw [decide_eq_true (by omega), Bool.true_and]
   cases hex with
   | true => rfl
   | false => simp at hb; rw [Bool.false_or, decide_eq_true (by omega)]
  have HM := Aside0.mk (show (if wrap64 ((wrap64 ((n : Int) * (base : Int))) + digV b.toNat) > 1114111 then (1114112 : Int) else wrap64 ((wrap64 ((n : Int) * (base : Int))) + digV b.toNat)) = ((numStep base n b : Nat) : Int) by
   obtain ⟨v, hv⟩ : ∃ v : Nat, digV b.toNat = v := ⟨(digV b.toNat).toNat, by omega⟩
   unfold numStep
   rw [hv, Int.toNat_natCast]
   rcases hbase with hb2 | hb2
   ·rw [hb2]; exact rstep10 n v hn (by omega)
   ·rw [hb2]; exact rstep16 n v hn (by omega))
  have HW := Aside0.mk (show wrap64 ((i : Int) + 1) = ((i + 1 : Nat) : Int) by unfold wrap64; omega)
  rw [HW.out, hd1, Bool.true_and, ← ih (numStep base n b) (by unfold numStep; omega), ← HM.out]
  split <;> rfl
theorem rnumber_f (k : Nat) (s : ByteArray) (hs : s.size ≤ 35184372088831) (hk : 2 * s.size + 4 ≤ k) (hex : Bool) : sieveref06_Number.f k s hex = some (numL hex s.data.toList) := by
 obtain ⟨j, rfl⟩ : ∃ j, k = j + 1 := ⟨k - 1, by omega⟩
 have key : ∀ base : Nat, base = (if hex = true then 16 else 10) → sieveref06_Number.j0 (j + 1) s (base : Int) = some (numL hex s.data.toList) := by
  intro base hb
  rw [sieveref06_Number.j0]
  have := rnumber_l0 s hs hex base hb s.size 0 j 0 (by omega) (by omega) (by omega) (by omega)
  rw [List.drop_zero] at this
  refine Eq.trans this ?_
  unfold numL
  rw [hb]
 unfold sieveref06_Number.f
 cases hex with
 | true => rw [if_pos rfl]; exact key 16 rfl
 | false => rw [if_neg (by decide)]; exact key 10 rfl
end Go.Proofs.Ythmbbkbmlnaghaa.P
end
section
/-
 charref.next in plain Lean: total on every text that is not too long.
-/
namespace Go.Proofs.Ythmbbkbmlnaghaa.P
open Go.RowKit Go.Proofs.YthmbbkbmlnaghaaW.PrintWords Go.Proofs.YthmbbkbmlnaghaaW.PrintLast Go.Proofs.YthmbbkbmlnaghaaW.PrintMore
set_option linter.unusedVariables false
set_option linter.unusedSimpArgs false

/-- what a numeric reference says -/
def numericP (s : ByteArray) (e : Bool) : ByteArray × Int × Bool :=
 if s.size = 1 then (emp, 0, e)
 else if numAt s = s.size ∧ e = false then (emp, 0, false)
 else if numAt s = numFrom s then (emp, 0, true)
 else (Utf8.encode (numL (numHex s) (s.extract (numFrom s) (numAt s)).data.toList).1, ((if numAt s < s.size ∧ bt s (numAt s : Nat) = 59 then numAt s + 1 else numAt s : Nat) : Int), true)
theorem numeric_f (k : Nat) (s : ByteArray) (e : Bool) (hs : s.size ≤ 35184372088831) (h1 : 1 ≤ s.size) (hk : s.size + 4 ≤ k) : charref_numeric.f k s e = some (numericP s e) := by
 unfold charref_numeric.f numericP
 rw [if_pos ⟨hs, h1⟩]
 by_cases c1 : s.size = 1
 ·rw [if_pos c1, if_pos c1]
  rfl
 rw [if_neg c1, if_neg c1]
 by_cases c2 : numAt s = s.size ∧ e = false
 ·rw [if_pos c2, if_pos c2]
  rfl
 rw [if_neg c2, if_neg c2]
 by_cases c3 : numAt s = numFrom s
 ·rw [if_pos c3, if_pos c3]
  rfl
 rw [if_neg c3, if_neg c3, number_f k _ (by simp; omega) (by simp; omega), Option.bind_some]
def nextP (s : ByteArray) (attr e : Bool) : ByteArray × Int × Bool :=
 if s.data.toList ≠ [] ∧ s.data.toList.getD 0 0 = 35 then numericP s e else namedL s.data.toList attr e
theorem next_f (k : Nat) (s : ByteArray) (attr e : Bool) (hs : s.size ≤ 35184372088831) (hk : s.size + 610 ≤ k) : charref_next.f k s attr e = some (nextP s attr e) := by
 obtain ⟨j, rfl⟩ : ∃ j, k = j + 1 := ⟨k - 1, by omega⟩
 unfold charref_next.f nextP
 have hsl : s.data.toList.length = s.size := by simp
 rw [ByteArray.toList_eq]
 by_cases h0 : s.data.toList = []
 ·rw [if_pos h0, if_neg (show ¬ (s.data.toList ≠ [] ∧ _) from fun h => h.1 h0), charref_next.j0, if_neg (by decide), named_f j (by omega), Option.bind_some]
 ·have hpos : 0 < s.size := by rw [← hsl]; exact List.length_pos_iff.2 h0
  have hb : bt s 0 = ((s.data.toList.getD 0 0).toNat : Int) := bt_l s 0 hpos
  have hq : ((s.data.toList.getD 0 0).toNat : Int) = 35 ↔ s.data.toList.getD 0 0 = 35 := u8_eq _ 35 (by decide)
  rw [if_neg h0, if_pos (by omega), hb, charref_next.j0]
  by_cases c : s.data.toList.getD 0 0 = 35
  ·rw [if_pos (beq_iff_eq.2 (hq.2 c)), if_pos (show s.data.toList ≠ [] ∧ s.data.toList.getD 0 0 = 35 from ⟨h0, c⟩), numeric_f j s e hs (by omega) (by omega), Option.bind_some]
  ·rw [if_neg (by rw [beq_iff_eq]; exact fun h => c (hq.1 h)), if_neg (show ¬ (s.data.toList ≠ [] ∧ s.data.toList.getD 0 0 = 35) from fun h => c h.2), named_f j (by omega), Option.bind_some]
end Go.Proofs.Ythmbbkbmlnaghaa.P
end
section
/-
 charref.next over lists of bytes, and that it is the same of a text and of the mended text.
-/
namespace Go.Proofs.Ythmbbkbmlnaghaa.P
open Go.RowKit Go.Proofs.YthmbbkbmlnaghaaW.PrintWords Go.Proofs.YthmbbkbmlnaghaaW.PrintLast Go.Proofs.YthmbbkbmlnaghaaW.PrintMore
set_option linter.unusedVariables false
set_option linter.unusedSimpArgs false

/-! ### numbers -/
def hexL (l : List UInt8) : Bool := decide (l.getD 1 0 = 120) || decide (l.getD 1 0 = 88)
def fromL (l : List UInt8) : Nat := if hexL l = true then 2 else 1
def atL (l : List UInt8) : Nat := fromL l + nDig (hexL l) (l.drop (fromL l))
def numericL (l : List UInt8) (e : Bool) : ByteArray × Int × Bool :=
 if l.length = 1 then (emp, 0, e)
 else if atL l = l.length ∧ e = false then (emp, 0, false)
 else if atL l = fromL l then (emp, 0, true)
 else (Utf8.encode (numL (hexL l) ((l.take (atL l)).drop (fromL l))).1, ((if atL l < l.length ∧ l.getD (atL l) 0 = 59 then atL l + 1 else atL l : Nat) : Int), true)
theorem hexL_eq (s : ByteArray) : numHex s = hexL s.data.toList := by
 unfold numHex hexL
 have hl : s.data.toList.length = s.size := by simp
 by_cases h : 1 < s.size
 ·have hb : bt s 1 = ((s.data.toList.getD 1 0).toNat : Int) := bt_l s 1 h
  rw [hb]
  have q1 : ((s.data.toList.getD 1 0).toNat : Int) = 120 ↔ s.data.toList.getD 1 0 = 120 := u8_eq _ 120 (by decide)
  have q2 : ((s.data.toList.getD 1 0).toNat : Int) = 88 ↔ s.data.toList.getD 1 0 = 88 := u8_eq _ 88 (by decide)
  rw [Bool.eq_iff_iff, Bool.or_eq_true, Bool.or_eq_true, beq_iff_eq, beq_iff_eq, decide_eq_true_iff, decide_eq_true_iff, q1, q2]
 ·have e0 : bt s 1 = 0 := by
   unfold bt
   rw [dif_neg (by simpa using h)]
  have e1 : s.data.toList.getD 1 0 = 0 := by
   rw [List.getD_eq_getElem?_getD, List.getElem?_eq_none (by omega)]
   rfl
  rw [e0, e1]
  rfl
theorem fromL_eq (s : ByteArray) : numFrom s = fromL s.data.toList := by
 unfold numFrom fromL
 rw [hexL_eq]
theorem atL_eq (s : ByteArray) : numAt s = atL s.data.toList := by
 unfold numAt atL
 rw [hexL_eq, fromL_eq]
theorem numericP_eq (s : ByteArray) (e : Bool) : numericP s e = numericL s.data.toList e := by
 unfold numericP numericL
 have hl : s.data.toList.length = s.size := by simp
 rw [hexL_eq, fromL_eq, atL_eq, hl]
 have hx : (s.extract (fromL s.data.toList) (atL s.data.toList)).data.toList = (s.data.toList.take (atL s.data.toList)).drop (fromL s.data.toList) := by
  rw [← ByteArray.toList_eq, Lib.extract_toList, List.drop_take]
 rw [hx]
 have hs : (atL s.data.toList < s.size ∧ bt s (atL s.data.toList : Nat) = 59) ↔ (atL s.data.toList < s.size ∧ s.data.toList.getD (atL s.data.toList) 0 = 59) := by
  constructor
  ·rintro ⟨h, hb⟩
   rw [bt_l s _ h] at hb
   exact ⟨h, (u8_eq _ 59 (by decide)).1 hb⟩
  ·rintro ⟨h, hb⟩
   refine ⟨h, ?_⟩
   rw [bt_l s _ h]
   exact (u8_eq _ 59 (by decide)).2 hb
 by_cases c : atL s.data.toList < s.size ∧ s.data.toList.getD (atL s.data.toList) 0 = 59
 ·rw [if_pos c, if_pos (hs.2 c)]
 ·rw [if_neg c, if_neg (fun d => c (hs.1 d))]
def nextL (l : List UInt8) (attr e : Bool) : ByteArray × Int × Bool :=
 if l ≠ [] ∧ l.getD 0 0 = 35 then numericL l e else namedL l attr e
theorem nextP_eq (s : ByteArray) (attr e : Bool) : nextP s attr e = nextL s.data.toList attr e := by
 unfold nextP nextL
 rw [numericP_eq]

end Go.Proofs.Ythmbbkbmlnaghaa.P
end
section
/-
 The document's answer for character references, in plain Lean: on one text it is the program's.
-/
namespace Go.Proofs.Ythmbbkbmlnaghaa.P
open Go.RowKit Go.Proofs.YthmbbkbmlnaghaaW.PrintWords Go.Proofs.YthmbbkbmlnaghaaW.PrintLast Go.Proofs.YthmbbkbmlnaghaaW.PrintMore
set_option linter.unusedVariables false
set_option linter.unusedSimpArgs false

theorem rprefix_f (a b : ByteArray) : sieveref05_Prefix.f a b = some (b.data.toList.isPrefixOf a.data.toList) := by
 unfold sieveref05_Prefix.f
 have ha : a.data.toList.length = a.size := by simp
 have hb : b.data.toList.length = b.size := by simp
 have e2 : b.toList = b.data.toList := ByteArray.toList_eq b
 by_cases h : b.size ≤ a.size
 ·rw [if_pos (by omega), if_pos (by omega), if_pos (by omega)]
  congr 1
  rw [Lib.extract_toList, e2, Bool.eq_iff_iff, beq_iff_eq, prefix_take, hb]
  simp only [Int.toNat_natCast, Nat.sub_zero, List.drop_zero]
  rw [ha]
  exact ⟨fun e => ⟨h, e⟩, fun e => e.2⟩
 ·rw [if_neg (by omega)]
  congr 1
  symm
  rw [Bool.eq_false_iff, ne_eq, prefix_take, hb, ha]
  omega
theorem rsays_f (x : Ent) : sieveref05_says.f x.f0 x.f1 x.f2 x.f3 = some (saysE x) := by
 unfold sieveref05_says.f saysE
 split <;> rfl

set_option maxHeartbeats 4000000 in
theorem rlongest_l0 (s : ByteArray) (es : List Ent) (hes : es.length ≤ 100000) (hsm : ∀ x ∈ es, x.f0.size ≤ 100) : ∀ (d i k n : Nat) (out : List Int), es.length - i = d → i ≤ es.length → 2 * d + 1 ≤ k →
  sieveref05_Longest.l0 k s (n : Int) out es (es.length : Int) (i : Int) = some ((((es.drop i).foldl (stepL s.data.toList) (n, out)).1 : Int), ((es.drop i).foldl (stepL s.data.toList) (n, out)).2)
 | 0, i, k, n, out, hd, hi, hk => by
  obtain ⟨k, rfl⟩ : ∃ j, k = j + 1 := ⟨k - 1, by omega⟩
  obtain rfl : i = es.length := by omega
  rw [sieveref05_Longest.l0, if_neg (by omega), List.drop_length]
  rfl
 | d + 1, i, k, n, out, hd, hi, hk => by
  obtain ⟨k, rfl⟩ : ∃ j, k = j + 2 := ⟨k - 2, by omega⟩
  have hlt : i < es.length := by omega
  have HW := Aside0.mk (show wrap64 ((i : Int) + 1) = ((i + 1 : Nat) : Int) by unfold wrap64; omega)
  rw [List.drop_eq_getElem_cons hlt, List.foldl_cons]
  have hx := hsm es[i] (List.getElem_mem hlt)
  generalize hxe : es[i] = x at hx
  have hnl := nameL_len x
  have hsl : s.data.toList.length = s.size := by simp
  have ih1 := fun (n : Nat) (out : List Int) => rlongest_l0 s es hes hsm d (i + 1) (k + 1) n out (by omega) (by omega) (by omega)
  have ih2 := fun (n : Nat) (out : List Int) => rlongest_l0 s es hes hsm d (i + 1) k n out (by omega) (by omega) (by omega)
  rw [sieveref05_Longest.l0, if_pos (by omega), if_pos (by omega), if_pos (by omega), rdT_at es i hlt, hxe, rprefix_f, HW.out]
  rw [Option.bind_some]
  by_cases hp : x.f0.data.toList.isPrefixOf s.data.toList = true
  ·rw [if_pos hp]
   have hp' : (nameL x).isPrefixOf s.data.toList = true := hp
   have hle := ((prefix_take _ _).1 hp').1
   have HW2 := Aside0.mk (show wrap64 ((x.f0.size : Int) + 1) = ((x.f0.size + 1 : Nat) : Int) by unfold wrap64; omega)
   have hs : stepL s.data.toList (n, out) x = (if (nameL x).length < s.data.toList.length ∧ s.data.toList.getD (nameL x).length 0 = 59 then (if n < (nameL x).length + 1 then ((nameL x).length + 1, saysE x) else (n, out))
      else if x.f3 = true then (if n < (nameL x).length then ((nameL x).length, saysE x) else (n, out)) else (n, out)) := by
    unfold stepL
    rw [if_pos hp']
   have hj : ∀ b : Bool, b = (x.f3 && decide (n < x.f0.size)) →
     sieveref05_Longest.j1 (k + 1) s (n : Int) out (x.f0.size : Int) es (es.length : Int) (i : Int) b x.f0 x.f1 x.f2 x.f3 =
      some ((((es.drop (i + 1)).foldl (stepL s.data.toList) (stepL s.data.toList (n, out) x)).1 : Int), ((es.drop (i + 1)).foldl (stepL s.data.toList) (stepL s.data.toList (n, out) x)).2) := by
    rintro b hb
    rw [sieveref05_Longest.j1, HW2.out, rsays_f, HW.out, hs]
    by_cases hc1 : x.f0.size < s.size
    ·have hc1' : (x.f0.size : Int) < (s.size : Int) := by omega
     have hbt := bt_l s _ hc1
     have hq : ((s.data.toList.getD x.f0.size 0).toNat : Int) = 59 ↔ s.data.toList.getD x.f0.size 0 = 59 := u8_eq (s.data.toList.getD x.f0.size 0) 59 (by decide)
     rw [hbt]
     by_cases hc2 : s.data.toList.getD x.f0.size 0 = 59
     ·have hc : (nameL x).length < s.data.toList.length ∧ s.data.toList.getD (nameL x).length 0 = 59 := by rw [hnl, hsl]; exact ⟨hc1, hc2⟩
      rw [if_pos hc]
      cases b with
      | true =>
       have hb2 := (Bool.and_eq_true _ _).mp hb.symm
       have hlt2 : n < x.f0.size := of_decide_eq_true hb2.2
       rw [if_pos rfl, Option.bind_some, if_pos hc1', if_pos (by omega), if_pos (hq.2 hc2), if_pos (by omega), Option.bind_some, ih2, if_pos (by omega), hnl]
      | false =>
       rw [if_neg (by decide), if_pos hc1', if_pos (by omega), if_pos (hq.2 hc2)]
       by_cases hm : n < (nameL x).length + 1
       ·rw [if_pos (by omega), Option.bind_some, ih2, if_pos hm, hnl]
       ·rw [if_neg (by omega), ih2, if_neg hm]
     ·have hc : ¬ ((nameL x).length < s.data.toList.length ∧ s.data.toList.getD (nameL x).length 0 = 59) := by rw [hnl, hsl]; exact fun h => hc2 h.2
      rw [if_neg hc]
      cases b with
      | true =>
       have hb2 := (Bool.and_eq_true _ _).mp hb.symm
       have hlt2 : n < x.f0.size := of_decide_eq_true hb2.2
       rw [if_pos rfl, Option.bind_some, if_pos hc1', if_pos (by omega), if_neg (fun h => hc2 (hq.1 h)), ih2, if_pos hb2.1, if_pos (by omega), hnl]
      | false =>
       rw [if_neg (by decide), if_pos hc1', if_pos (by omega), if_neg (fun h => hc2 (hq.1 h)), ih2]
       by_cases h3 : x.f3 = true
       ·rw [if_pos h3]
        have : ¬ n < x.f0.size := fun hl => by rw [h3, decide_eq_true hl] at hb; cases hb
        rw [if_neg (by omega)]
       ·rw [if_neg h3]
    ·have hc1' : ¬ ((x.f0.size : Int) < (s.size : Int)) := by omega
     have hc : ¬ ((nameL x).length < s.data.toList.length ∧ s.data.toList.getD (nameL x).length 0 = 59) := by rw [hnl, hsl]; exact fun h => hc1 h.1
     rw [if_neg hc]
     cases b with
     | true =>
      have hb2 := (Bool.and_eq_true _ _).mp hb.symm
      have hlt2 : n < x.f0.size := of_decide_eq_true hb2.2
      rw [if_pos rfl, Option.bind_some, if_neg hc1', ih2, if_pos hb2.1, if_pos (by omega), hnl]
     | false =>
      rw [if_neg (by decide), if_neg hc1', ih2]
      by_cases h3 : x.f3 = true
      ·rw [if_pos h3]
       have : ¬ n < x.f0.size := fun hl => by rw [h3, decide_eq_true hl] at hb; cases hb
       rw [if_neg (by omega)]
      ·rw [if_neg h3]
   by_cases h3 : x.f3 = true
   ·rw [if_pos h3]
    exact hj _ (by
     rw [h3, Bool.true_and, decide_eq_decide]
     omega)
   ·rw [if_neg h3]
    exact hj _ (by rw [Bool.eq_false_iff.2 h3]; rfl)
  ·rw [if_neg hp]
   have hp' : ¬ (nameL x).isPrefixOf s.data.toList = true := hp
   have hstep : stepL s.data.toList (n, out) x = (n, out) := by unfold stepL; rw [if_neg hp']
   rw [hstep, ih1]
theorem rlongest_f (s : ByteArray) (k : Nat) (hk : 603 ≤ k) : sieveref05_Longest.f k s = some (((longL s.data.toList).1 : Int), (longL s.data.toList).2) := by
 unfold sieveref05_Longest.f
 show sieveref05_Longest.l0 k s ((0 : Nat) : Int) [] ents (ents.length : Int) ((0 : Nat) : Int) = _
 rw [rlongest_l0 s ents (by rw [ents_len]; omega) ents_small ents.length 0 k 0 [] (by omega) (by omega) (by rw [ents_len]; omega)]
 rfl

/-! ### numbers -/
theorem rletter_all : ∀ b : Fin 256, ((sieveref04_Letter.f (wrap32 ((b.val : Nat) : Int))).bind fun t => if t = true then some true else sieveref04_Digit.f (wrap32 ((b.val : Nat) : Int))) = some (wordB b.val) := by decide +kernel
theorem digits_l0 (s : ByteArray) (hs : s.size ≤ 35184372088831) (hex : Bool) : ∀ (d i k : Nat), s.size - i = d → i ≤ s.size → d + 2 ≤ k →
  sieveref06_digitsOf.l0 k s hex (i : Int) = some (s.extract 0 (i + nDig hex (s.data.toList.drop i)))
 | 0, i, k, hd, hi, hk => by
  obtain ⟨k, rfl⟩ : ∃ j, k = j + 1 := ⟨k - 1, by omega⟩
  obtain rfl : i = s.size := by omega
  have he : s.data.toList.drop s.size = [] := List.drop_eq_nil_of_le (by simp)
  rw [sieveref06_digitsOf.l0, if_neg (by omega), if_pos (by omega), if_pos (by omega), he, Int.toNat_natCast]
  rfl
 | d + 1, i, k, hd, hi, hk => by
  obtain ⟨k, rfl⟩ : ∃ j, k = j + 2 := ⟨k - 2, by omega⟩
  have hlt : i < s.size := by omega
  have hl : i < s.data.toList.length := by simpa using hlt
  have HW := Aside0.mk (show wrap64 ((i : Int) + 1) = ((i + 1 : Nat) : Int) by unfold wrap64; omega)
  have ih := digits_l0 s hs hex d (i + 1) (k + 1) (by omega) (by omega) (by omega)
  rw [sieveref06_digitsOf.l0, if_pos (by omega), if_pos (by omega), bt_l s i hlt, rdigit_f, Option.bind_some, rhex_f, HW.out, ih, nDig_at s hex i hlt]
  by_cases h10 : isDig false (s.data.toList.getD i 0) = true
  ·have : isDig hex (s.data.toList.getD i 0) = true := by
    unfold isDig at h10 ⊢
    rw [Bool.false_or, Bool.and_eq_true] at h10
    rw [h10.1, h10.2, Bool.or_true]
    rfl
   rw [if_pos h10, if_pos this]
  ·rw [if_neg h10]
   cases hex with
   | true =>
    rw [if_pos rfl, Option.bind_some]
    by_cases h16 : isDig true (s.data.toList.getD i 0) = true
    ·rw [if_pos h16, if_pos h16]
    ·rw [if_neg h16, if_neg h16, if_pos (by omega), Int.toNat_natCast]
   | false => rw [if_neg (by decide), if_pos (by omega), if_neg h10, Int.toNat_natCast]
theorem digits_f (k : Nat) (s : ByteArray) (hs : s.size ≤ 35184372088831) (hex : Bool) (hk : s.size + 2 ≤ k) : sieveref06_digitsOf.f k s hex = some (s.extract 0 (nDig hex s.data.toList)) := by
 unfold sieveref06_digitsOf.f
 refine (digits_l0 s hs hex s.size 0 k (by omega) (by omega) (by omega)).trans ?_
 rw [List.drop_zero, Nat.zero_add]

end Go.Proofs.Ythmbbkbmlnaghaa.P
end
section
/-
 The document's Next, in plain Lean: on one text it is the program's next.
-/
namespace Go.Proofs.Ythmbbkbmlnaghaa.P
open Go.RowKit Go.Proofs.YthmbbkbmlnaghaaW.PrintWords Go.Proofs.YthmbbkbmlnaghaaW.PrintLast Go.Proofs.YthmbbkbmlnaghaaW.PrintMore
set_option linter.unusedVariables false
set_option linter.unusedSimpArgs false

theorem atL_le (l : List UInt8) (h : fromL l ≤ l.length) : atL l ≤ l.length := by
 unfold atL
 have := nDig_le (hexL l) (l.drop (fromL l))
 rw [List.length_drop] at this
 omega
theorem hexL_len (l : List UInt8) (h : hexL l = true) : 1 < l.length := by
 refine Nat.lt_of_not_le fun hle => ?_
 have : l.getD 1 0 = 0 := by
  rw [List.getD_eq_getElem?_getD, List.getElem?_eq_none hle]
  rfl
 unfold hexL at h
 rw [this] at h
 exact absurd h (by decide)
theorem fromL_le (l : List UInt8) (h : 1 ≤ l.length) : fromL l ≤ l.length := by
 unfold fromL
 by_cases c : hexL l = true
 ·rw [if_pos c]
  have := hexL_len l c
  omega
 ·rw [if_neg c]
  exact h
theorem fromL_pos (l : List UInt8) : 1 ≤ fromL l ∧ fromL l ≤ 2 := by
 unfold fromL
 split <;> omega
/-- the digits behind the head -/
theorem digs_f (k : Nat) (s : ByteArray) (hs : s.size ≤ 35184372088831) (hk : s.size + 2 ≤ k) :
  sieveref06_digitsOf.f k (s.extract (fromL s.data.toList) s.size) (hexL s.data.toList) = some ((s.extract (fromL s.data.toList) s.size).extract 0 (nDig (hexL s.data.toList) (s.data.toList.drop (fromL s.data.toList)))) := by
 have hz : (s.extract (fromL s.data.toList) s.size).size ≤ s.size := by simp
 rw [digits_f k _ (by omega) _ (by omega)]
 have hx : (s.extract (fromL s.data.toList) s.size).data.toList = s.data.toList.drop (fromL s.data.toList) := by
  rw [← ByteArray.toList_eq, Lib.extract_toList]
  refine List.take_of_length_le ?_
  rw [List.length_drop]
  have : s.data.toList.length = s.size := by simp
  omega
 rw [hx]
def digsL (l : List UInt8) : List UInt8 := (l.take (atL l)).drop (fromL l)
theorem extract_list (s : ByteArray) (a b : Nat) : (s.extract a b).data.toList = (s.data.toList.drop a).take (b - a) := by
 rw [← ByteArray.toList_eq, Lib.extract_toList]
theorem digs_list (s : ByteArray) : ((s.extract (fromL s.data.toList) s.size).extract 0 (nDig (hexL s.data.toList) (s.data.toList.drop (fromL s.data.toList)))).data.toList = digsL s.data.toList := by
 have hl : s.data.toList.length = s.size := by simp
 rw [extract_list, extract_list, List.drop_zero, Nat.sub_zero]
 unfold digsL atL
 rw [List.drop_take, Nat.add_sub_cancel_left, List.take_take]
 congr 1
 have := nDig_le (hexL s.data.toList) (s.data.toList.drop (fromL s.data.toList))
 rw [List.length_drop, hl] at this
 omega
theorem digs_size (s : ByteArray) : (((s.extract (fromL s.data.toList) s.size).extract 0 (nDig (hexL s.data.toList) (s.data.toList.drop (fromL s.data.toList)))).size : Nat) = nDig (hexL s.data.toList) (s.data.toList.drop (fromL s.data.toList)) := by
 have hl : s.data.toList.length = s.size := by simp
 have := nDig_le (hexL s.data.toList) (s.data.toList.drop (fromL s.data.toList))
 rw [List.length_drop, hl] at this
 simp only [ByteArray.size_extract]
 omega
theorem hex88 (s : ByteArray) (h : 1 < s.size) : (if bt s 1 = 120 then true else (bt s 1 == 88)) = hexL s.data.toList := by
 rw [← hexL_eq]
 unfold numHex
 by_cases c : bt s 1 = 120
 ·rw [if_pos c, beq_iff_eq.2 c]
  rfl
 ·rw [if_neg c, beq_eq_false_iff_ne.2 c]
  rfl
theorem hex_short (s : ByteArray) (h : ¬ 1 < s.size) : hexL s.data.toList = false := by
 refine Bool.eq_false_iff.2 fun c => ?_
 have := hexL_len _ c
 simp at this
 exact h this

theorem rwhole_j2 (k : Nat) (s : ByteArray) (hs : s.size ≤ 35184372088831) (h1 : 1 ≤ s.size) (hk : 2 * s.size + 6 ≤ k) :
  sieveref06_Whole.j2 (k + 1) s (fromL s.data.toList : Nat) (hexL s.data.toList) = some ((numericL s.data.toList true).1, (numericL s.data.toList true).2.1) := by
 have hl : s.data.toList.length = s.size := by simp
 have hf := fromL_le s.data.toList (by omega)
 have hfp := fromL_pos s.data.toList
 have ha := atL_le s.data.toList hf
 rw [hl] at hf ha
 have hD := digs_list s
 have hZ := digs_size s
 rw [sieveref06_Whole.j2, if_pos (by omega), if_pos (by omega), Int.toNat_natCast, digs_f k s hs (by omega), Option.bind_some, ByteArray.toList_eq]
 have hat : fromL s.data.toList + nDig (hexL s.data.toList) (s.data.toList.drop (fromL s.data.toList)) = atL s.data.toList := rfl
 generalize hd : (s.extract (fromL s.data.toList) s.size).extract 0 (nDig (hexL s.data.toList) (s.data.toList.drop (fromL s.data.toList))) = d at *
 have hdz : d.data.toList.length = d.size := by simp
 have hsum : (fromL s.data.toList : Int) + (d.size : Int) = (atL s.data.toList : Int) := by rw [hZ]; omega
 have HW := Aside0.mk (show wrap64 ((fromL s.data.toList : Int) + (d.size : Int)) = (atL s.data.toList : Int) by rw [hsum]; clear hsum; unfold wrap64; omega)
 have HW1 := Aside0.mk (show wrap64 ((atL s.data.toList : Int) + 1) = ((atL s.data.toList + 1 : Nat) : Int) by clear hsum; unfold wrap64; omega)
 unfold numericL
 rw [hl]
 by_cases c0 : s.size = 1
 ·have hd0 : d.data.toList = [] := by
   refine List.eq_nil_of_length_eq_zero ?_
   omega
  rw [if_pos c0, if_pos hd0]
  rfl
 rw [if_neg c0, if_neg (show ¬ (atL s.data.toList = s.size ∧ true = false) from fun h => absurd h.2 (by decide))]
 by_cases c1 : atL s.data.toList = fromL s.data.toList
 ·have hd0 : d.data.toList = [] := by
   refine List.eq_nil_of_length_eq_zero ?_
   omega
  rw [if_pos c1, if_pos hd0]
  rfl
 have hd0 : ¬ d.data.toList = [] := by
  intro e
  have := congrArg List.length e
  rw [hdz, List.length_nil] at this
  omega
 rw [if_neg c1, if_neg hd0, HW.out, HW1.out]
 have hnum : sieveref06_Number.f k d (hexL s.data.toList) = some (numL (hexL s.data.toList) (digsL s.data.toList)) := by
  rw [rnumber_f k d (by omega) (by omega), hD]
 by_cases c2 : atL s.data.toList < s.size
 ·have hb := bt_l s _ c2
  have hq : ((s.data.toList.getD (atL s.data.toList) 0).toNat : Int) = 59 ↔ s.data.toList.getD (atL s.data.toList) 0 = 59 := u8_eq _ 59 (by decide)
  rw [if_pos (show (atL s.data.toList : Int) < (s.size : Int) by omega), if_pos (show (0 : Int) ≤ (atL s.data.toList : Int) by omega), hb]
  by_cases c3 : s.data.toList.getD (atL s.data.toList) 0 = 59
  ·rw [if_pos (hq.2 c3), hnum, Option.bind_some, if_pos (show atL s.data.toList < s.size ∧ s.data.toList.getD (atL s.data.toList) 0 = 59 from ⟨c2, c3⟩)]
   rfl
  ·rw [if_neg (fun h => c3 (hq.1 h)), hnum, Option.bind_some, if_neg (show ¬ (atL s.data.toList < s.size ∧ s.data.toList.getD (atL s.data.toList) 0 = 59) from fun h => c3 h.2)]
   rfl
 ·rw [if_neg (show ¬ (atL s.data.toList : Int) < (s.size : Int) by omega), hnum, Option.bind_some, if_neg (show ¬ (atL s.data.toList < s.size ∧ s.data.toList.getD (atL s.data.toList) 0 = 59) from fun h => c2 h.1)]
  rfl
theorem rwhole_f (k : Nat) (s : ByteArray) (attr : Bool) (hs : s.size ≤ 35184372088831) (hk : 2 * s.size + 620 ≤ k) :
  sieveref06_Whole.f k s attr = some ((nextL s.data.toList attr true).1, (nextL s.data.toList attr true).2.1) := by
 obtain ⟨j, rfl⟩ : ∃ j, k = j + 3 := ⟨k - 3, by omega⟩
 have hl : s.data.toList.length = s.size := by simp
 have num : ∀ x : Bool, 1 ≤ s.size → x = true → sieveref06_Whole.j0 (j + 3) s attr x = some ((numericL s.data.toList true).1, (numericL s.data.toList true).2.1) := by
  intro x h1 hx
  have key := rwhole_j2 j s hs h1 (by omega)
  have j1 : ∀ b : Bool, b = hexL s.data.toList → sieveref06_Whole.j1 (j + 2) s 1 b = some ((numericL s.data.toList true).1, (numericL s.data.toList true).2.1) := by
   intro b hb
   rw [sieveref06_Whole.j1, ← key, hb]
   unfold fromL
   by_cases c : hexL s.data.toList = true
   ·rw [if_pos c, if_pos c]
    rfl
   ·rw [if_neg c, if_neg c]
    rfl
  rw [sieveref06_Whole.j0, if_pos hx]
  by_cases c : 1 < s.size
  ·have h88 := hex88 s c
   rw [if_pos (show (s.size : Int) > 1 by omega), if_pos (show (1 : Int) < (s.size : Int) by omega)]
   by_cases c2 : bt s 1 = 120
   ·rw [if_pos c2] at h88 ⊢
    exact j1 _ h88
   ·rw [if_neg c2] at h88 ⊢
    exact j1 _ h88
  ·rw [if_neg (show ¬ (s.size : Int) > 1 by omega)]
   exact j1 _ (hex_short s c).symm
 have nam : ∀ x : Bool, x = false → sieveref06_Whole.j0 (j + 3) s attr x = some ((namedL s.data.toList attr true).1, (namedL s.data.toList attr true).2.1) := by
  intro x hx
  have hle := longL_le s.data.toList
  have hsm := longL_small s.data.toList
  rw [hl] at hle
  rw [sieveref06_Whole.j0, hx, if_neg (by decide), rlongest_f s (j + 2) (by omega), Option.bind_some]
  unfold namedL
  rw [if_neg (show ¬ (true = false ∧ begL s.data.toList = true) from fun h => absurd h.1 (by decide)), hl]
  generalize longL s.data.toList = q at hle hsm
  obtain ⟨n, o⟩ := q
  simp only at hle hsm ⊢
  by_cases c0 : n = 0
  ·rw [if_pos (show (n : Int) = 0 by omega), if_pos c0]
   rfl
  rw [if_neg (show ¬ (n : Int) = 0 by omega), if_neg c0]
  by_cases ha : attr = true
  ·have HW := Aside0.mk (show wrap64 ((n : Int) - 1) = ((n - 1 : Nat) : Int) by unfold wrap64; omega)
   have hq : ((s.data.toList.getD (n - 1) 0).toNat : Int) = 59 ↔ s.data.toList.getD (n - 1) 0 = 59 := u8_eq (s.data.toList.getD (n - 1) 0) 59 (by decide)
   rw [if_pos ha, HW.out, if_pos (by omega), if_pos (by omega), bt_l s (n - 1) (by omega)]
   by_cases h59 : s.data.toList.getD (n - 1) 0 = 59
   ·rw [if_pos (hq.2 h59), if_neg (show ¬ (attr = true ∧ s.data.toList.getD (n - 1) 0 ≠ 59) from fun h => h.2 h59)]
   rw [if_neg (fun h => h59 (hq.1 h)), if_pos (show attr = true ∧ s.data.toList.getD (n - 1) 0 ≠ 59 from ⟨ha, h59⟩)]
   by_cases c1 : n = s.size
   ·rw [if_neg (show ¬ (n : Int) < (s.size : Int) by omega), if_pos c1, if_pos trivial]
   rw [if_pos (show (n : Int) < (s.size : Int) by omega), if_pos (show (0 : Int) ≤ (n : Int) by omega), if_neg c1, bt_l s n (by omega)]
   have hq2 : ((s.data.toList.getD n 0).toNat : Int) = 61 ↔ s.data.toList.getD n 0 = 61 := u8_eq (s.data.toList.getD n 0) 61 (by decide)
   have hw := rletter_all ⟨_, UInt8.toNat_lt (s.data.toList.getD n 0)⟩
   simp only at hw
   obtain ⟨t, ht, hw⟩ := Option.bind_eq_some_iff.1 hw
   by_cases c2 : s.data.toList.getD n 0 = 61
   ·rw [if_pos (hq2.2 c2)]
    have : wordB (s.data.toList.getD n 0).toNat = false := by rw [c2]; decide
    rw [this, if_neg (by decide), if_pos c2]
    rfl
   rw [if_neg (fun h => c2 (hq2.1 h)), ht, Option.bind_some]
   by_cases c3 : t = true
   ·rw [if_pos c3] at hw ⊢
    rw [← Option.some.inj hw, if_pos rfl]
    rfl
   ·rw [if_neg c3] at hw ⊢
    rw [hw, Option.bind_some]
    by_cases c4 : wordB (s.data.toList.getD n 0).toNat = true
    ·rw [if_pos c4, if_pos c4]
     rfl
    ·rw [if_neg c4, if_neg c4, if_neg c2]
  ·rw [if_neg ha, if_neg (show ¬ (attr = true ∧ s.data.toList.getD (n - 1) 0 ≠ 59) from fun h => ha h.1)]
 unfold sieveref06_Whole.f nextL
 rw [ByteArray.toList_eq]
 by_cases h0 : s.data.toList = []
 ·rw [if_pos h0, if_neg (show ¬ (s.data.toList ≠ [] ∧ _) from fun h => h.1 h0)]
  exact nam false rfl
 ·have hpos : 0 < s.size := by rw [← hl]; exact List.length_pos_iff.2 h0
  have hb : bt s 0 = ((s.data.toList.getD 0 0).toNat : Int) := bt_l s 0 hpos
  have hq : ((s.data.toList.getD 0 0).toNat : Int) = 35 ↔ s.data.toList.getD 0 0 = 35 := u8_eq _ 35 (by decide)
  rw [if_neg h0, if_pos (by omega), hb]
  by_cases c : s.data.toList.getD 0 0 = 35
  ·rw [if_pos (show s.data.toList ≠ [] ∧ s.data.toList.getD 0 0 = 35 from ⟨h0, c⟩)]
   exact num _ hpos (beq_iff_eq.2 (hq.2 c))
  ·rw [if_neg (show ¬ (s.data.toList ≠ [] ∧ s.data.toList.getD 0 0 = 35) from fun h => c h.2)]
   exact nam _ (beq_eq_false_iff_ne.2 fun h => c (hq.1 h))

end Go.Proofs.Ythmbbkbmlnaghaa.P
end
section
/-
 What is sure stays, whatever follows: charref.next in plain Lean.
-/
namespace Go.Proofs.Ythmbbkbmlnaghaa.P
open Go.RowKit Go.Proofs.YthmbbkbmlnaghaaW.PrintWords Go.Proofs.YthmbbkbmlnaghaaW.PrintLast Go.Proofs.YthmbbkbmlnaghaaW.PrintMore
set_option linter.unusedVariables false
set_option linter.unusedSimpArgs false

/-! ### sizes -/
theorem nextL_size (l : List UInt8) (attr e : Bool) : 0 ≤ (nextL l attr e).2.1 ∧ (nextL l attr e).2.1 ≤ (l.length : Int) := by
 have hn : 0 ≤ (namedL l attr e).2.1 ∧ (namedL l attr e).2.1 ≤ (l.length : Int) := by
  have hle := longL_le l
  unfold namedL
  generalize longL l = q at hle
  obtain ⟨n, o⟩ := q
  simp only at hle ⊢
  split
  ·exact ⟨Int.le_refl _, by simp only; omega⟩
  ·split
   ·exact ⟨Int.le_refl _, by simp only; omega⟩
   ·split
    ·split
     ·split
      ·exact ⟨by simp only; omega, by simp only; omega⟩
      ·exact ⟨Int.le_refl _, by simp only; omega⟩
     ·split
      ·exact ⟨Int.le_refl _, by simp only; omega⟩
      ·split
       ·exact ⟨Int.le_refl _, by simp only; omega⟩
       ·exact ⟨by simp only; omega, by simp only; omega⟩
    ·exact ⟨by simp only; omega, by simp only; omega⟩
 unfold nextL
 by_cases c : l ≠ [] ∧ l.getD 0 0 = 35
 ·rw [if_pos c]
  have hl0 : 0 < l.length := List.length_pos_iff.2 c.1
  have ha := atL_le l (fromL_le l (by omega))
  unfold numericL
  split
  ·exact ⟨Int.le_refl _, by simp only; omega⟩
  ·split
   ·exact ⟨Int.le_refl _, by simp only; omega⟩
   ·split
    ·exact ⟨Int.le_refl _, by simp only; omega⟩
    ·by_cases d : atL l < l.length ∧ l.getD (atL l) 0 = 59
     ·rw [if_pos d]
      exact ⟨by simp only; omega, by simp only; omega⟩
     ·rw [if_neg d]
      exact ⟨by simp only; omega, by simp only; omega⟩
 ·rw [if_neg c]
  exact hn
end Go.Proofs.Ythmbbkbmlnaghaa.P
end
section
/-
 charref.replaced over Decode's literal: the function's own literal, which writes a reference's text, and the whole.
-/
namespace Go.Proofs.Ythmbbkbmlnaghaa.P
open Go.RowKit Go.Shelf Go.Proofs.YthmbbkbmlnaghaaW.PrintWords Go.Proofs.YthmbbkbmlnaghaaW.PrintLast Go.Proofs.YthmbbkbmlnaghaaW.PrintMore
set_option linter.unusedVariables false
set_option linter.unusedSimpArgs false

set_option maxRecDepth 100000 in
set_option maxHeartbeats 8000000 in
theorem D_rep1_calls (b0 : Nat) (m : ByteArray) (g : ByteArray → ByteArray) (W0 : World) (pre : List (Nat × ByteArray × Nat)) (x : Nat × ByteArray × Nat) (W : World) (b : Bool)
  (h : RepI 44 b0 m g W0 pre W) (hle : (repSt g m.data.toList pre).1 ≤ x.1) (hx : x.1 + 1 + x.2.2 ≤ m.size) (hm : m.size ≤ 35184372088831) (hp : pre.length ≤ m.size)
  (hlen : (repSt g m.data.toList (pre ++ [x])).2.length ≤ 140737488355328)
  (hby : ∀ (n : Int) (b : Bool) (W : World), Calls Try.prog 44 #[.agg #[.string x.2.1, .int .i64 n, .bool b]] W fun e W' => e = .returned (.string (g x.2.1)) ∧ Below W.heap.size W W') :
  Calls Try.prog 58 (#[.int .i64 (x.1 : Nat), .agg #[.string x.2.1, .int .i64 (x.2.2 : Nat), .bool b]] ++
    #[.pointer (some ⟨b0 + 2, 0, none⟩), .pointer (some ⟨b0, 0, none⟩), .pointer (some ⟨b0 + 3, 0, none⟩), .pointer (some ⟨b0 + 1, 0, none⟩), .pointer (some ⟨b0 + 4, 0, none⟩)]) W fun e W' =>
   e = .returned (.bool true) ∧ RepI 44 b0 m g W0 (pre ++ [x]) W' ∧ ∀ (j : Nat) (cs : Array Value), W.heap[j]? = some (Obj.cells cs 88 (0, 0)) → W'.heap[j]? = some (Obj.cells cs 88 (0, 0)) := by
 obtain ⟨hI, hS, hBy, hF, hN, hB⟩ := h
 have HI := Aside0.mk hI
 have HS := Aside0.mk hS
 have HBy := Aside0.mk hBy
 have HF := Aside0.mk hF
 have HN := Aside0.mk hN
 have HB := Aside0.mk hB
 have HBY := Aside0.mk hby
 have HLEN := Aside0.mk hlen
 have HN4 := Aside0.mk (show b0 + 4 < W.heap.size from (Array.getElem?_eq_some_iff.1 hN).1)
 clear hI hS hBy hF hN hB hby hlen
 obtain ⟨at_, says, size⟩ := x
 simp only at hle hx HBY
 have hstep := repSt_snoc g m.data.toList pre (at_, says, size)
 generalize hst : repSt g m.data.toList pre = st at hle HI HF hstep
 obtain ⟨fr, acc⟩ := st
 simp only at hle HI HF hstep
 have HST := Aside0.mk hst
 have HSTEP := Aside0.mk hstep
 clear hst hstep
 have hl1 : acc.length + (m.extract fr at_).size ≤ 140737488355328 := by
  have := HLEN.out
  rw [HSTEP.out] at this
  simp [repStep] at this
  have e : (m.extract fr at_).size = at_ - fr := by simp; omega
  omega
 have hl2 : (acc ++ (m.extract fr at_).data.toList).length + (g says).size ≤ 140737488355328 := by
  have := HLEN.out
  rw [HSTEP.out] at this
  simp [repStep] at this
  have e : (m.extract fr at_).size = at_ - fr := by simp; omega
  have e2 : (g says).data.size = (g says).size := rfl
  simp
  omega
 have HL1 := Aside0.mk hl1
 have HL2 := Aside0.mk hl2
 clear hl1 hl2
 have s1 : ((0 : Int) ≤ (fr : Int)) = True := eq_true (by omega)
 have s2 : ((fr : Int) ≤ (at_ : Int)) = True := eq_true (by omega)
 have s3 : ((at_ : Int) ≤ (m.size : Int)) = True := eq_true (by omega)
 have w1 : IntKind.i64.wrap ((at_ : Int) + 1) = (at_ : Int) + 1 := IntWalk.i64_in _ (by omega)
 have w2 : IntKind.i64.wrap ((at_ : Int) + 1 + (size : Int)) = ((at_ + 1 + size : Nat) : Int) := by rw [IntWalk.i64_in _ (by omega)]; omega
 have w3 : IntKind.i64.wrap ((pre.length : Int) + 1) = ((pre.length + 1 : Nat) : Int) := by rw [IntWalk.i64_in _ (by omega)]; omega
 have hu60 := Try.underlying88
 have HB0 := Aside0.mk (Below.refl W.heap.size W)
 go_enter Try.func58, Try.ntmps58
 go_wp2_with (first | ((with_reducible refine gate_dst (N := 8) rfl ?_); refine box_event ?hg (N := 8) ?hd (cs := #[.string says, .int .i64 (size : Nat), .bool b]) (t := 88) ?hr ?_; (case hd => rfl); (case hg => rfl); (case hr => first | (go_simp; done) | (go_simp; rfl)); intro gb hg w5 hbox hb; have HB5 := Aside0.mk (below_step HB0.out hb); have BK5 := Aside0.mk hbox; have NE5 : some gb ≠ some (b0 + 2) := (by intro e; have e := Option.some.inj e; have := HN4.out; rw [hg] at e; omega); clear hb hbox hg; have hcS5 : w5.cell? ⟨b0, 0, none⟩ = some (.string m) := (blk_cell (blk_kept HB5.out HS.out) 0).trans rfl; have hcF5 : w5.cell? ⟨b0 + 3, 0, none⟩ = some (.int .i64 (fr : Nat)) := (blk_cell (blk_kept HB5.out HF.out) 0).trans rfl) | (go_at_call 35; refine (bld_WriteString_k b0 (b0 + 2) (Lib.byteCells (acc ++ (m.extract fr at_).data.toList)) (g says) w7 (by rw [Lib.byteCells_append]; exact bld_below (.inr HI6.out) HBEL7.out) (by rw [Lib.byteCells_length]; exact HL2.out) (by have := HN4.out; have := HB5.out.size; have := HBEL6.out.size; have := HBEL7.out.size; omega)).mono ?_; rintro e w8 ⟨rfl, hb8, hbel8, hok8⟩; have HOK8 := Aside0.mk hok8; have HI8 := Aside0.mk hb8; have HBEL8 := Aside0.mk hbel8; clear hok8 hb8 hbel8; have KP := Aside0.mk (fun (k : Nat) (o : Obj) (h5 : w5.heap[k]? = some o) (hne : some k ≠ some (b0 + 2)) (ho : ∀ c fz, o ≠ Obj.cells c 5 fz) => HOK8.out k o (blk_kept HBEL7.out (HOK6.out k o h5 hne ho)) hne ho); have BK8 := Aside0.mk (KP.out gb _ BK5.out NE5 (fun c fz e => by cases e)); have BF8 := Aside0.mk (KP.out (b0 + 3) _ (blk_kept HB5.out HF.out) (by simp) (fun c fz e => by cases e)); have BN8 := Aside0.mk (KP.out (b0 + 4) _ (blk_kept HB5.out HN.out) (by simp) (fun c fz e => by cases e)); have hch8 : w8.cell? ⟨gb, 1, none⟩ = some (.int .i64 (size : Nat)) := (blk_cell BK8.out 1).trans rfl; have hcF8 : w8.cell? ⟨b0 + 3, 0, none⟩ = some (.int .i64 (fr : Nat)) := (blk_cell BF8.out 0).trans rfl; have hcN8 : w8.cell? ⟨b0 + 4, 0, none⟩ = some (.int .i64 (pre.length : Nat)) := (blk_cell BN8.out 0).trans rfl; have hfF8 := blk_frozen BF8.out 0; have hfN8 := blk_frozen BN8.out 0) | (go_at_call 44; refine (HBY.out (size : Nat) b w6).mono ?_; rintro e w7 ⟨rfl, hbel7⟩; have HBEL7 := Aside0.mk hbel7; clear hbel7) | (go_at_call 35; refine (bld_WriteString_k b0 (b0 + 2) (Lib.byteCells acc) (m.extract fr at_) w5 (bld_below HI.out HB5.out) (by rw [Lib.byteCells_length]; exact HL1.out) (by have := HN4.out; have := HB5.out.size; omega)).mono ?_; rintro e w6 ⟨rfl, hb6, hbel6, hok6⟩; have HOK6 := Aside0.mk hok6; have HI6 := Aside0.mk hb6; have HBEL6 := Aside0.mk hbel6; clear hok6 hb6 hbel6; have BK6 := Aside0.mk (HOK6.out gb _ BK5.out NE5 (fun c fz e => by cases e)); have hcB6 : w6.cell? ⟨b0 + 1, 0, none⟩ = some (.func (.func 44) #[] #[]) := (blk_cell (HOK6.out (b0 + 1) _ (blk_kept HB5.out HBy.out) (by simp) (fun c fz e => by cases e)) 0).trans rfl; have hcg6 : w6.cell? ⟨gb, 0, none⟩ = some (.string says) := (blk_cell BK6.out 0).trans rfl; have hch6 : w6.cell? ⟨gb, 1, none⟩ = some (.int .i64 (size : Nat)) := (blk_cell BK6.out 1).trans rfl; have hci6 : w6.cell? ⟨gb, 2, none⟩ = some (.bool b) := (blk_cell BK6.out 2).trans rfl))
 go_ret
 have hext : (m.extract fr at_).data.toList = (m.data.toList.drop fr).take (at_ - fr) := Lib.extract_data m fr at_
 have kS := KP.out b0 _ (blk_kept HB5.out HS.out) (by intro e; have e := Option.some.inj e; omega) (fun c fz e => by cases e)
 have kBy := KP.out (b0 + 1) _ (blk_kept HB5.out HBy.out) (by intro e; have e := Option.some.inj e; omega) (fun c fz e => by cases e)
 refine ⟨rfl, ⟨?_, ?_, ?_, ?_, ?_, ?_⟩, ?_⟩
 ·rw [HSTEP.out]
  show Lib.IsBuilderF _ _ _ _ (Lib.byteCells (acc ++ ((m.data.toList.drop fr).take (at_ - fr) ++ (g says).data.toList))) _
  rw [← hext, ← List.append_assoc, Lib.byteCells_append]
  refine bld_kept (.inr HI8.out) ?_
  intro k o ho hk
  have n3 : k ≠ b0 + 3 := by
   rintro rfl
   rcases hk with hk | ⟨c, fz, rfl⟩
   ·omega
   ·rw [BF8.out] at ho
    cases ho
  have n4 : k ≠ b0 + 4 := by
   rintro rfl
   rcases hk with hk | ⟨c, fz, rfl⟩
   ·omega
   ·rw [BN8.out] at ho
    cases ho
  rw [Below.heap_setCell _ _ _ _ n4, Below.heap_setCell _ _ _ _ n3]
  exact ho
 ·rw [Below.heap_setCell _ _ _ _ (show b0 ≠ b0 + 4 by omega), Below.heap_setCell _ _ _ _ (show b0 ≠ b0 + 3 by omega)]
  exact kS
 ·rw [Below.heap_setCell _ _ _ _ (show b0 + 1 ≠ b0 + 4 by omega), Below.heap_setCell _ _ _ _ (show b0 + 1 ≠ b0 + 3 by omega)]
  exact kBy
 ·rw [Below.heap_setCell _ _ _ _ (show b0 + 3 ≠ b0 + 4 by omega), HSTEP.out]
  exact blk_put (cs := #[.int .i64 (fr : Nat)]) BF8.out 0 _ rfl
 ·refine blk_put (cs := #[.int .i64 (pre.length : Nat)]) ?_ 0 _ ?_
  ·rw [Below.heap_setCell _ _ _ _ (show b0 + 4 ≠ b0 + 3 by omega)]
   exact BN8.out
  ·simp
 ·have l1 := HN4.out
  have l2 := HBEL6.out.size
  exact (((((HB.out.trans (HB5.out.mono (by omega))).trans HBEL6.out).trans (HBEL7.out.mono (by have := HB5.out.size; omega))).trans HBEL8.out).setCell (p := ⟨b0 + 3, 0, none⟩) (by show b0 ≤ b0 + 3; omega) _).setCell (p := ⟨b0 + 4, 0, none⟩) (by show b0 ≤ b0 + 4; omega) _
 ·intro j cs hj
  have hj5 := blk_kept HB5.out hj
  have n2 : j ≠ b0 + 2 := by
   rintro rfl
   obtain ⟨hB, v, hb, _⟩ := HI8.out
   have hlt : b0 + 2 < W.heap.size := (Array.getElem?_eq_some_iff.1 hj).1
   rcases HI.out with ⟨_, v, hb, _⟩ | ⟨_, v, hb, _⟩ <;> (rw [hj] at hb; cases hb)
  have n3 : j ≠ b0 + 3 := by
   rintro rfl
   rw [HF.out] at hj
   cases hj
  have n4 : j ≠ b0 + 4 := by
   rintro rfl
   rw [HN.out] at hj
   cases hj
  rw [Below.heap_setCell _ _ _ _ n4, Below.heap_setCell _ _ _ _ n3]
  exact KP.out j _ hj5 (fun e => n2 (Option.some.inj e)) (fun c fz e => by cases e)
end Go.Proofs.Ythmbbkbmlnaghaa.P
end
section
/-
 charref.replaced over Decode's literal.
-/
namespace Go.Proofs.Ythmbbkbmlnaghaa.P
open Go.RowKit Go.Shelf Go.Proofs.YthmbbkbmlnaghaaW.PrintWords Go.Proofs.YthmbbkbmlnaghaaW.PrintLast Go.Proofs.YthmbbkbmlnaghaaW.PrintMore
set_option linter.unusedVariables false
set_option linter.unusedSimpArgs false

theorem D_alloc_get {w : World} {k : Nat} {x : Obj} (o : Obj) (h : w.heap[k]? = some x) : (w.alloc o).heap[k]? = some x :=
 (Lib.alloc_old w o k (Array.getElem?_eq_some_iff.1 h).1).trans h

set_option maxRecDepth 100000 in
set_option maxHeartbeats 2000000 in
theorem D_replaced_calls (k : Nat) (m : ByteArray) (attr : Bool) (g : ByteArray → ByteArray) (refs : List (Nat × ByteArray × Nat)) (w : World) (hm : m.size ≤ 35184372088831) (href : refsGo attr m k 0 = some refs)
  (hlen : (repText g m.data.toList refs).length ≤ 140737488355328)
  (hby : ∀ x ∈ refs, ∀ (n : Int) (b : Bool) (W : World), Calls Try.prog 44 #[.agg #[.string x.2.1, .int .i64 n, .bool b]] W fun e W' => e = .returned (.string (g x.2.1)) ∧ Below W.heap.size W W') :
  Calls Try.prog 40 #[.string m, .bool attr, .func (.func 44) #[] #[]] w fun e w' =>
   e = .returned (.tuple #[.string ⟨(repText g m.data.toList refs).toArray⟩, .int .i64 (refs.length : Nat)]) ∧ Below w.heap.size w w' := by
 have HBY := Aside0.mk hby
 have HREF := Aside0.mk href
 have HLEN := Aside0.mk hlen
 clear hby href hlen
 have hasc := refsGo_asc attr m k 0 refs HREF.out
 have hend := Asc.end_ g m.data.toList refs (0, []) (Nat.zero_le _) hasc
 have HEND := Aside0.mk hend
 have HASC := Aside0.mk hasc
 clear hasc hend
 -- the world when the references begin
 have hw5 : RepI 44 w.heap.size m g w [] (((((w.alloc (.cells #[.string m] 9)).alloc (.cells #[.func (.func 44) #[] #[]] 89)).alloc (.cells #[.pointer none, .slice none 0 0] 74)).alloc (.cells #[.int .i64 0] 3)).alloc (.cells #[.int .i64 0] 3)) := by
  have z1 : (w.alloc (.cells #[.string m] 9)).heap.size = w.heap.size + 1 := by simp
  have z2 : ((w.alloc (.cells #[.string m] 9)).alloc (.cells #[.func (.func 44) #[] #[]] 89)).heap.size = w.heap.size + 2 := by simp
  have z3 : (((w.alloc (.cells #[.string m] 9)).alloc (.cells #[.func (.func 44) #[] #[]] 89)).alloc (.cells #[.pointer none, .slice none 0 0] 74)).heap.size = w.heap.size + 3 := by simp
  have z4 : ((((w.alloc (.cells #[.string m] 9)).alloc (.cells #[.func (.func 44) #[] #[]] 89)).alloc (.cells #[.pointer none, .slice none 0 0] 74)).alloc (.cells #[.int .i64 0] 3)).heap.size = w.heap.size + 4 := by simp
  refine ⟨.inl ⟨by omega, .slice none 0 0, ?_, ⟨rfl, .inl ⟨rfl, rfl⟩⟩, by simp [Value.ownBlock]⟩, ?_, ?_, ?_, ?_, ?_⟩
  ·have := heap_alloc_new ((w.alloc (.cells #[.string m] 9)).alloc (.cells #[.func (.func 44) #[] #[]] 89)) (.cells #[.pointer none, .slice none 0 0] 74)
   rw [z2] at this
   exact D_alloc_get _ (D_alloc_get _ this)
  ·exact D_alloc_get _ (D_alloc_get _ (D_alloc_get _ (D_alloc_get _ (heap_alloc_new w _))))
  ·have := heap_alloc_new (w.alloc (.cells #[.string m] 9)) (.cells #[.func (.func 44) #[] #[]] 89)
   rw [z1] at this
   exact D_alloc_get _ (D_alloc_get _ (D_alloc_get _ this))
  ·have := heap_alloc_new (((w.alloc (.cells #[.string m] 9)).alloc (.cells #[.func (.func 44) #[] #[]] 89)).alloc (.cells #[.pointer none, .slice none 0 0] 74)) (.cells #[.int .i64 0] 3)
   rw [z3] at this
   exact D_alloc_get _ this
  ·have := heap_alloc_new ((((w.alloc (.cells #[.string m] 9)).alloc (.cells #[.func (.func 44) #[] #[]] 89)).alloc (.cells #[.pointer none, .slice none 0 0] 74)).alloc (.cells #[.int .i64 0] 3)) (.cells #[.int .i64 0] 3)
   rw [z4] at this
   exact this
  ·exact (((((Below.refl _ w).alloc (Nat.le_refl _) _).alloc (by omega) _).alloc (by omega) _).alloc (by omega) _).alloc (by omega) _
 have HW5 := Aside0.mk hw5
 clear hw5
 have heach := fun W5 (h5 : RepI 44 w.heap.size m g w [] W5) => charref_each_calls k m attr #[.pointer (some ⟨w.heap.size + 1 + 1, 0, none⟩), .pointer (some ⟨w.heap.size, 0, none⟩), .pointer (some ⟨w.heap.size + 1 + 1 + 1, 0, none⟩), .pointer (some ⟨w.heap.size + 1, 0, none⟩), .pointer (some ⟨w.heap.size + 1 + 1 + 1 + 1, 0, none⟩)]
  refs (RepI 44 w.heap.size m g w) W5 hm HREF.out (fun pre W W' h hb => h.below hb) (by
   rintro pre x W b hinv ⟨post, hpost⟩
   have hmid := Asc.mid (n := m.size) g m.data.toList pre (0, []) x post (by rw [← List.append_cons] at hpost; rw [hpost]; exact HASC.out)
   refine D_rep1_calls w.heap.size m g w pre x W b hinv hmid.1 hmid.2.1 hm ?_ ?_ (HBY.out x (by rw [← hpost]; simp))
   ·have h1 := hmid.2.2
    have h2 := hmid.1
    have h3 := hmid.2.1
    simp only [Nat.add_zero] at h1
    omega
   ·have h1 := repSt_len g m.data.toList (pre ++ [x]) post
    rw [hpost] at h1
    have h2 := HLEN.out
    unfold repText at h2
    rw [List.length_append] at h2
    omega) h5
 have HEACH := Aside0.mk heach
 clear heach
 have hend := HEND.out
 have hlen := HLEN.out
 unfold repText at hlen
 have htx : repText g m.data.toList refs = (repSt g m.data.toList refs).2 ++ m.data.toList.drop (repSt g m.data.toList refs).1 := rfl
 have HTX := Aside0.mk htx
 clear htx
 change (repSt g m.data.toList refs).1 ≤ m.size ∧ refs.length + 0 ≤ (repSt g m.data.toList refs).1 at hend
 obtain ⟨fr, acc, hst⟩ : ∃ fr acc, repSt g m.data.toList refs = (fr, acc) := ⟨_, _, rfl⟩
 have hri : ∀ W, RepI 44 w.heap.size m g w refs W → Lib.IsBuilderF 74 5 w.heap.size (w.heap.size + 1 + 1) (Lib.byteCells acc) W ∧ W.heap[w.heap.size]? = some (.cells #[.string m] 9 (0, 0)) ∧
   W.heap[w.heap.size + 1 + 1 + 1]? = some (.cells #[.int .i64 (fr : Nat)] 3 (0, 0)) ∧ W.heap[w.heap.size + 1 + 1 + 1 + 1]? = some (.cells #[.int .i64 (refs.length : Nat)] 3 (0, 0)) ∧ Below w.heap.size w W := by
  rintro W ⟨h1, h2, _, h3, h4, h5⟩
  rw [hst] at h1 h3
  exact ⟨h1, h2, h3, h4, h5⟩
 have HRI := Aside0.mk hri
 clear hri
 rw [hst] at hend hlen HTX
 simp only at hend hlen HTX
 clear hst
 rw [List.length_append, List.length_drop] at hlen
 have hml : m.data.toList.length = m.size := by simp
 have HL := Aside0.mk (show acc.length + (m.extract fr m.size).size ≤ 140737488355328 by
  have e : (m.extract fr m.size).size = m.size - fr := by simp
  omega)
 clear hlen hml
 have s1 : ((0 : Int) ≤ (fr : Int)) = True := eq_true (by omega)
 have s2 : ((fr : Int) ≤ (m.size : Int)) = True := eq_true (by omega)
 go_enter Try.func40, Try.ntmps40
 go_wp2_with (first | (go_at_call 47; refine (HEACH.out _ HW5.out).mono ?_; rintro e w6 ⟨rfl, hr6⟩; have hr6' := HRI.out w6 hr6; clear hr6; obtain ⟨hI6, hS6, hF6, hN6, hB6⟩ := hr6'; have HI6 := Aside0.mk hI6; have HS6 := Aside0.mk hS6; have HF6 := Aside0.mk hF6; have HN6 := Aside0.mk hN6; have HB6 := Aside0.mk hB6; clear hI6 hS6 hF6 hN6 hB6; have hcS6 : w6.cell? ⟨w.heap.size, 0, none⟩ = some (.string m) := (blk_cell HS6.out 0).trans rfl; have hcF6 : w6.cell? ⟨w.heap.size + 1 + 1 + 1, 0, none⟩ = some (.int .i64 (fr : Nat)) := (blk_cell HF6.out 0).trans rfl) | (go_at_call 35; refine (bld_WriteString_k w.heap.size (w.heap.size + 1 + 1) (Lib.byteCells acc) (m.extract fr m.size) w6 HI6.out (by rw [Lib.byteCells_length]; exact HL.out) HB6.out.size).mono ?_; rintro e w7 ⟨rfl, hb7, hbel7, hok7⟩; have HI7 := Aside0.mk hb7; have HBEL7 := Aside0.mk hbel7; have HN7 := Aside0.mk (hok7 (w.heap.size + 1 + 1 + 1 + 1) _ HN6.out (by intro e; have e := Option.some.inj e; omega) (fun c fz e => by cases e)); clear hb7 hbel7 hok7; have hcN7 : w7.cell? ⟨w.heap.size + 1 + 1 + 1 + 1, 0, none⟩ = some (.int .i64 (refs.length : Nat)) := (blk_cell HN7.out 0).trans rfl))
 have hb7 : Lib.IsBuilderF 74 5 w.heap.size (w.heap.size + 1 + 1) (Lib.byteCells (acc ++ m.data.toList.drop fr)) w7 := by
  have e : (m.extract fr m.size).data.toList = m.data.toList.drop fr := by
   rw [Lib.extract_data, List.take_of_length_le (by simp)]
  rw [Lib.byteCells_append, ← e]
  exact .inr HI7.out
 have HSTR := Aside0.mk (Try.Builder_String_any_k w.heap.size (w.heap.size + 1 + 1) (acc ++ m.data.toList.drop fr) w7.drew hb7 (Nat.le_trans HB6.out.size HBEL7.out.size))
 clear hb7
 go_region_with (go_at_call 37; refine HSTR.out.mono ?_; rintro e w8 ⟨rfl, _, hbel8, hok8⟩; have HBEL8 := Aside0.mk hbel8; have HN8 := Aside0.mk (hok8 (w.heap.size + 1 + 1 + 1 + 1) _ HN7.out (by intro e; have e := Option.some.inj e; omega) (fun c fz e => by cases e)); clear hbel8 hok8; have hcN8 : w8.cell? ⟨w.heap.size + 1 + 1 + 1 + 1, 0, none⟩ = some (.int .i64 (refs.length : Nat)) := (blk_cell HN8.out 0).trans rfl)
 all_goals (try go_wp2)
 all_goals go_ret2
 all_goals exact ⟨by rw [HTX.out]; rfl, (below_drew (HB6.out.trans HBEL7.out)).trans HBEL8.out⟩
end Go.Proofs.Ythmbbkbmlnaghaa.P
end
section
/-
 utf.Runes: the runes of bytes: a loop over the iterator that collects.
-/
namespace Go.Proofs.Ythmbbkbmlnaghaa.P
open Go.RowKit Go.Shelf Go.Proofs.YthmbbkbmlnaghaaW.PrintWords Go.Proofs.YthmbbkbmlnaghaaW.PrintLast Go.Proofs.YthmbbkbmlnaghaaW.PrintMore
set_option linter.unusedVariables false
set_option linter.unusedSimpArgs false
attribute [local go_sem] Oper.semAt_some

theorem mid_append {m0 n0 B : Nat} {W w1 : World} {e : TypeId} {v v' : Value} {k : Nat} {xs : List Value} {tmp : Obj} (hB : B < m0) (hn0 : n0 ≤ W.heap.size) (hrow : W.ownsRow n0 e 1 v k xs)
  (hgrow : (W.alloc tmp).grownBy w1 v.ownBlock) : Mid m0 n0 W (w1.setCell ⟨B, 0, none⟩ v') := by
 refine ((Mid.below ((Below.refl n0 W).alloc hn0 tmp)).trans (Mid.grown hgrow (by simp; omega) (fun r hr => .inr (own_base hrow r hr)))).trans ?_
 intro i h1 h2
 exact Below.heap_setCell _ _ _ i (by show i ≠ B; omega)

set_option maxRecDepth 100000 in
set_option maxHeartbeats 4000000 in
theorem utf_Runes_calls (hrd : ReadTells) (A : Option Addr) (c0 : Nat) (bs : List UInt8) (w : World) (hr : Kd.C (Kd.int .u8) w A (zs bs).length (zs bs)) (hlen : bs.length ≤ 35184372088831) :
  Calls Try.prog 53 #[.slice A (zs bs).length c0] w fun e w' => ∃ v : Value, e = .returned v ∧ w'.ownsRow w.heap.size 21 1 v (runes bs).length (nums .i32 (runes bs)) ∧ Below w.heap.size w w' := by
 have HR := Aside0.mk hr
 have HRD := Aside0.mk hrd
 have hzl : (zs bs).length = bs.length := zs_length bs
 have HZL := Aside0.mk hzl
 have hpl : ∀ n (l : List UInt8) p, l.length ≤ n → (pcs p l).length ≤ l.length := by
  intro n
  induction n with
  | zero =>
   intro l p h
   obtain rfl : l = [] := List.eq_nil_of_length_eq_zero (by omega)
   simp [pcs_nil]
  | succ n ih =>
   intro l p h
   by_cases hne : l = []
   ·subst hne; simp [pcs_nil]
   ·have hw := (rdL_facts l hne).1
    have hl : 0 < l.length := List.length_pos_iff.2 hne
    rw [pcs_step p l hne]
    have := ih (l.drop (rdL l).2.1) (p + (rdL l).2.1) (by rw [List.length_drop]; omega)
    rw [List.length_drop] at this
    simp only [List.length_cons]
    omega
 have HPL := Aside0.mk (hpl _ bs 0 (Nat.le_refl _))
 clear hr hrd hzl hpl
 obtain ⟨i0, hi, hz0, hz1, hz2⟩ := info_parts info21
 refine (callsIn_wide (n := 4)).1 ?_
 refine callsIn_of_wp_marks Try.func53 rfl trivial ?_ rfl
 simp only [Try.ntmps53, List.size_toArray, List.length_cons, List.length_nil, Nat.reduceAdd, Nat.reduceSub, Array.replicate_succ, Array.replicate_zero, List.push_toArray, List.append_toArray, List.nil_append, List.cons_append]
 generalize hL : zs bs = L at HR HZL ⊢
 have HL := Aside0.mk hL
 clear hL
 gi_wp2_with (refine ⟨trivial, ?_⟩; gi_at_call 70; refine (callsIn_wide.2 (utf_All_calls A c0 L _ (Kd.C_alloc HR.out _) (by have := HZL.out; omega))).mono ?_; rintro e w1 ⟨rfl, ⟨v, hbox, hR⟩, hB⟩)
 simp only [World.size_alloc] at hbox hR hB ⊢
 obtain ⟨A', cap', rfl⟩ := Kd.R_slice hR
 have hR' := BytesAt.of_R hR
 have hbO : Boxed w1 w.heap.size 28 (.slice none 0 0) := (hB.block w.heap.size (by omega)).trans (heap_alloc_new w _)
 have hB0 : Below w.heap.size w w1 := ((Below.refl _ w).alloc (Nat.le_refl _) _).trans (hB.mono (by omega))
 have hbN : w1.cell? ⟨w.heap.size + 1, 0, none⟩ = some (.slice A' L.length cap') := (blk_cell hbox 0).trans rfl
 have hsz : w.heap.size + 1 < w1.heap.size := (Array.getElem?_eq_some_iff.1 hbox).1
 rw [HZL.out] at hbN hR'
 clear hR hbox
 have hBY : BytesAt (w.heap.size + 1) w1.heap.size w1 A' (zs bs) := by rw [HL.out]; exact hR'.1
 have hcap' := hR'.2
 clear hR'
 generalize hn0 : w1.heap.size = n0 at hsz hBY
 have HN0 := Aside0.mk hn0
 clear hn0
 refine wpIn_rangeFunc_ownG rfl (by omega) (gf := 80) (lb := #[.pointer (some ⟨w.heap.size + 1, 0, none⟩)]) rfl trivial (enters_of Try.func80 (by kernel_rfl) rfl)
  (all_stops HRD.out _ (by omega) (w.heap.size + 1) (w.heap.size + 1) n0 A' cap' bs (by omega) hcap' w1 ⟨Nat.le_refl _, hsz⟩ (by rw [HN0.out]; exact Nat.le_refl _) hbN hBY) Mid.trans
  (fun W l o o' hl h _ _ => Mid.putObj (by rw [← HN0.out]; exact hl) h) (Below.refl _ _) (fun _ => rfl)
  (fun pre W => (∃ v, Boxed W w.heap.size 28 v ∧ W.ownsRow n0 21 1 v pre.length (pre.map fun p => Value.int .i32 p.2) ∧ True) ∧ (Below w.heap.size w W ∧ n0 ≤ W.heap.size))
  (fun _ _ _ => False)
  (OwnFrom.and (Own.from (holdsRow_own n0 w.heap.size 28 21 1 (fun pre : List (Nat × Int) => pre.length) (fun pre => pre.map fun p => Value.int .i32 p.2) (fun _ _ => True)) _) (OwnFrom.and (ownFrom_below (Nat.le_refl _) (by rw [HN0.out]; omega)) (fun _ _ _ _ hs hg _ => Nat.le_trans hs hg.size)))
  (fun _ _ _ _ _ hs _ _ => hs)
  ⟨⟨_, hbO, World.ownsRow_nil _ _ _ _, trivial⟩, hB0, by rw [HN0.out]; exact Nat.le_refl _⟩
  (fun x => { tmps := #[.slice A L.length c0, undef, .slice none 0 0, .pointer (some ⟨w.heap.size, 0, none⟩), undef, .int .i32 x.2, .slice A L.length c0, .func (.func 80) #[] #[.pointer (some ⟨w.heap.size + 1, 0, none⟩)], .int .i64 (x.1 : Nat), .int .i32 x.2, undef, undef, undef, undef, undef], defers := [] }) ?assign ?body ?done ?stop
 case assign =>
  intro l x W K hK
  gi_wp2
  exact hK
 case body =>
  rintro l pre x W ⟨⟨v, hv, hrow, _⟩, hB, hn0W⟩ hlt
  have hplm := HPL.out
  have hc := hv.cell
  have hrow' := own_less hrow (show w.heap.size ≤ n0 by omega)
  gi_wp2_with (gi_at_builtin; refine wpListIn_append_own _ rfl _ _ 28 rfl n0 21 i0 (.int .i32 0) 1 4 Try.underlying28 hi hz0 hz1 hz2 rfl (by decide) _ _ _ rfl (hrow.alloc _) ⟨W.heap.size, 0, none⟩ 1 1 [.int .i32 x.2] rfl rfl (cell_one_new _ _ _) (by simp [Value.oneCell']) (by simp only [maxLen]; omega) (by omega) (by simp; omega) ?_; intro v' w2 hown' hgrow _; obtain ⟨g', cap2, rfl⟩ := ownsRow_succ hown'; obtain ⟨hv1, hv2, hr2, hk2, hb2⟩ := hv.appended (by decide) hrow' (by have := hB.size; omega) (Nat.le_refl _) (own_less hown' (show w.heap.size ≤ n0 by omega)) hgrow; have hc1 := hv1.cell; have hf1 := hv1.frozen)
  have hmid := mid_append (m0 := w.heap.size + 1) (B := w.heap.size) (e := 21) (v' := .slice (some ⟨g', 0, none⟩) (pre.length + 1) cap2) (by omega) hn0W hrow hgrow
  have hr3 := hown'.kept (grownBy_setCell' w2 w.heap.size (.slice (some ⟨g', 0, none⟩) (pre.length + 1) cap2)) (.inr (hv1.not_row (by decide) hown').symm)
  exact ⟨hk2.from _, hmid, ⟨_, hv2, by simpa using hr3, trivial⟩, hB.trans hb2, Nat.le_trans hn0W hb2.size⟩
 case done =>
  rintro D ys W hD rfl ⟨⟨v, hv, hrow, _⟩, hB, _⟩ hK
  have hc := hv.cell
  gi_wp2
  refine ⟨by simp, .inl ⟨_, _, rfl, run_takeDeferred hK, ?_⟩⟩
  refine ⟨_, results_tmp rfl _ _ _, v, rfl, ?_, hB.trans (belowK_b (w := w) (Nat.le_refl _) W D _ _ (by rw [HN0.out] at hD; omega) hK rfl rfl)⟩
  have := ownsRow_putObj (own_less hrow (show w.heap.size ≤ n0 by omega)) (.deferred none) hK rfl
  have e1 := pcs_runes _ bs 0 (Nat.le_refl _)
  rw [← e1]
  simpa [nums, List.map_map, Function.comp_def] using this
 case stop =>
  rintro D c pre W _ _ h _
  exact h.elim
end Go.Proofs.Ythmbbkbmlnaghaa.P
end
section
/-
 utf.Mend: a text of valid bytes alone.
-/
namespace Go.Proofs.Ythmbbkbmlnaghaa.P
open Go.RowKit Go.Proofs.YthmbbkbmlnaghaaW.PrintWords Go.Proofs.YthmbbkbmlnaghaaW.PrintLast Go.Proofs.YthmbbkbmlnaghaaW.PrintMore
set_option linter.unusedVariables false
set_option linter.unusedSimpArgs false

/-! ### plain -/
/-- what the loop of utf.Mend asks at the head of bytes, by the model's own decode -/
def badL (l : List UInt8) : Bool := decide ((Lib.decodeL l).1 = 65533) && (decide (l.length < 3) || decide (l.take 3 ≠ [239, 191, 189]))
theorem enc_fffd : Lib.encodeRune ((65533 : Nat) : Int) = [239, 191, 189] := by decide +kernel
theorem badL_of (l : List UInt8) (hne : l ≠ []) : badL l = decide ((rdL l).2.2 ≠ 0) := by
 have hd := rdL_decode l hne
 have hf := rdL_facts l hne
 unfold badL
 by_cases h : (rdL l).2.2 = 0
 ·rw [if_pos h] at hd
  rw [hd]
  have hw := rdL_whole l h hne
  by_cases h1 : (rdL l).1 = 65533
  ·rw [h1, enc_fffd] at hw
   have e3 : l.take 3 = [239, 191, 189] := by rw [hw]; simp
   have el : ¬ l.length < 3 := by rw [hw]; simp
   simp [h, h1, e3, el]
  ·simp [h, h1]
 ·rw [if_neg h] at hd
  rw [hd]
  have : ¬ (3 ≤ l.length ∧ l.take 3 = [239, 191, 189]) := by
   rintro ⟨h3, ht⟩
   apply h
   have e : l = [239, 191, 189] ++ l.drop 3 := by rw [← ht, List.take_append_drop]
   rw [e]
   unfold rdL
   simp only [List.cons_append, List.nil_append, List.getD_cons_zero, List.getD_cons_succ]
   unfold rdN
   rw [List.length_cons, List.length_cons, List.length_cons]
   simp
  by_cases h3 : l.length < 3
  ·simp [h, h3]
  ·have : l.take 3 ≠ [239, 191, 189] := fun e => this ⟨by omega, e⟩
   simp [h, this]
theorem valid_dec (l : List UInt8) (hne : l ≠ []) : valid l = if badL l = true then false else valid (l.drop (Lib.decodeL l).2) := by
 rw [valid_step l hne, badL_of l hne, rdL_decode l hne]
 by_cases h : (rdL l).2.2 = 0
 ·simp [h]
 ·simp [h]

def mendS (s : ByteArray) : ByteArray := if valid s.data.toList = true then s else Hc_text (runes s.data.toList)

def utf_Mend.f (s : ByteArray) : Option ByteArray := if s.size ≤ 35184372088831 then some (mendS s) else none

theorem take3_extract (s : ByteArray) (pos : Nat) : (s.extract pos (pos + 3)).toList = (s.data.toList.drop pos).take 3 := by
 rw [Lib.extract_toList]
 congr 1
 omega

set_option maxRecDepth 100000 in
set_option maxHeartbeats 4000000 in
theorem utf_Mend.calls (s : ByteArray) (r : ByteArray) (w : World) (h : utf_Mend.f s = some r) :
  Calls Try.prog 33 #[.string s] w fun e w' => e = .returned (.string r) ∧ Below w.heap.size w w' := by
 unfold utf_Mend.f at h
 by_cases hsz : s.size ≤ 35184372088831
 case neg => rw [if_neg hsz] at h; cases h
 rw [if_pos hsz] at h
 have hr := Option.some.inj h
 clear h
 have HR := Aside0.mk hr
 clear hr
 go_enter Try.func33, Try.ntmps33
 go_wp2
 go_loopw [3] (fun v wr => ∃ (pos : Nat) (b : Bool), v = .bool b ∧ pos ≤ s.size ∧ Aside0 ((b && valid (s.data.toList.drop pos)) = valid s.data.toList) ∧ wr.heap[w.heap.size]? = some (.stringIter s pos) ∧ Below w.heap.size w wr) (fun _ wr => s.size - wr.iterPos w.heap.size)
 case atStart =>
  refine ⟨0, true, rfl, Nat.zero_le _, ⟨by simp⟩, ?_, ?_⟩
  ·have := World.iter_heap w s 0
   simpa using this
  ·exact (Below.refl _ w).alloc (Nat.le_refl _) _
 case round =>
  obtain ⟨pos, b, rfl, hpl, hv, hit, hbw⟩ := hrel
  have hlt0 : w.heap.size < wr.heap.size := (Array.getElem?_eq_some_iff.1 hit).1
  by_cases hp : pos < s.size
  ·have hnx : ∀ ty, (Instr.next (.pointer (some ⟨w.heap.size, 0, none⟩)) true ty).run Try.prog wr = _ := fun ty => Lib.run_next_any_at wr w.heap.size s pos ty hit hp
   have hd1 := decode_le s pos
   have hwd : 1 ≤ (Utf8.decode s pos).2 := by
    by_cases ha : (s[pos]'hp).toNat < 128
    ·rw [decode_ascii s pos hp ha]
     exact Nat.le_refl _
    ·exact (decode_high s pos hp (by omega)).2
   have hne : s.data.toList.drop pos ≠ [] := by
    intro e
    have := congrArg List.length e
    simp at this
    have h2 : s.data.size = s.size := rfl
    omega
   have hlen : (s.data.toList.drop pos).length = s.size - pos := by simp
   have hvd := valid_dec _ hne
   rw [Lib.decodeL_drop, List.drop_drop] at hvd
   have hbd : badL (s.data.toList.drop pos) = (decide ((Utf8.decode s pos).1 = 65533) && (decide (s.size - pos < 3) || decide ((s.extract pos (pos + 3)).toList ≠ [239, 191, 189]))) := by
    unfold badL
    rw [Lib.decodeL_drop, hlen, take3_extract]
   have hit2 := Lib.iterAt_heap wr w.heap.size s pos (pos + (Utf8.decode s pos).2) hit
   have hbw2 := Lib.below_iterAt hbw (k := w.heap.size) (by omega) s (pos + (Utf8.decode s pos).2)
   have hps : pos + (Utf8.decode s pos).2 ≤ s.size := by
    have h1 := rdL_decode _ hne
    rw [Lib.decodeL_drop] at h1
    have h2 := rdL_facts _ hne
    have h3 := h2.2.1
    rw [hlen] at h3
    rw [h1]
    split <;> simp only <;> omega
   rw [hbd] at hvd
   have HVD := Aside0.mk hvd
   clear hvd hbd hlen hne
   have hme : s.size - (wr.iterAt w.heap.size s (pos + (Utf8.decode s pos).2)).iterPos w.heap.size < s.size - wr.iterPos w.heap.size := by
    simp only [World.iterPos, hit2, hit]
    omega
   have HME := Aside0.mk hme
   clear hme hwd
   by_cases h1 : (Utf8.decode s pos).1 = 65533
   ·by_cases h2 : s.size - pos < 3
    ·have hw : IntKind.i64.wrap ((s.size : Int) - (pos : Int)) = (s.size : Int) - (pos : Int) := IntWalk.i64_in _ (by omega)
     have hlt3 : decide ((s.size : Int) - (pos : Int) < 3) = true := decide_eq_true (by omega)
     have hvf : valid (s.data.toList.drop pos) = false := by rw [HVD.out]; simp [h1, h2]
     have HVF := Aside0.mk hvf
     clear hvf
     go_wp2
     refine ⟨⟨_, false, rfl, hps, ⟨?_⟩, hit2, hbw2⟩, HME.out⟩
     rw [← hv.out, HVF.out]
     simp
    ·have hw : IntKind.i64.wrap ((s.size : Int) - (pos : Int)) = (s.size : Int) - (pos : Int) := IntWalk.i64_in _ (by omega)
     have hlt3 : decide ((s.size : Int) - (pos : Int) < 3) = false := decide_eq_false (by omega)
     have hw3 : IntKind.i64.wrap ((pos : Int) + 3) = (pos : Int) + 3 := IntWalk.i64_in _ (by omega)
     have k1 : ((0 : Int) ≤ (pos : Int)) = True := eq_true (by omega)
     have k2 : ((pos : Int) ≤ (pos : Int) + 3) = True := eq_true (by omega)
     have k3 : ((pos : Int) + 3 ≤ (s.size : Int)) = True := eq_true (by omega)
     have k4 : ((pos : Int) + 3).toNat = pos + 3 := by omega
     by_cases h3 : (s.extract pos (pos + 3)).toList = [239, 191, 189]
     ·have hvf : valid (s.data.toList.drop pos) = valid (s.data.toList.drop (pos + (Utf8.decode s pos).2)) := by rw [HVD.out]; simp [h1, h2, h3]
      have HVF := Aside0.mk hvf
      clear hvf
      go_wp2
      refine ⟨⟨_, b, rfl, hps, ⟨?_⟩, hit2, hbw2⟩, HME.out⟩
      rw [← hv.out, HVF.out]
     ·have hvf : valid (s.data.toList.drop pos) = false := by rw [HVD.out]; simp [h1, h2, h3]
      have HVF := Aside0.mk hvf
      clear hvf
      have h3b : ((s.extract pos (pos + 3)).toList == [239, 191, 189]) = false := beq_eq_false_iff_ne.2 h3
      go_wp2
      refine ⟨⟨_, false, rfl, hps, ⟨?_⟩, hit2, hbw2⟩, HME.out⟩
      rw [← hv.out, HVF.out]
      simp
   ·have hvf : valid (s.data.toList.drop pos) = valid (s.data.toList.drop (pos + (Utf8.decode s pos).2)) := by rw [HVD.out]; simp [h1]
    have HVF := Aside0.mk hvf
    clear hvf
    go_wp2
    refine ⟨⟨_, b, rfl, hps, ⟨?_⟩, hit2, hbw2⟩, HME.out⟩
    rw [← hv.out, HVF.out]
  ·obtain rfl : pos = s.size := by omega
   have hnx : ∀ ty, (Instr.next (.pointer (some ⟨w.heap.size, 0, none⟩)) true ty).run Try.prog wr = _ := fun ty => Lib.run_next_end_at wr w.heap.size s s.size ty hit hp
   have hvb : b = valid s.data.toList := by
    have := hv.out
    rw [List.drop_eq_nil_of_le (by simp), valid_nil, Bool.and_true] at this
    exact this
   have HVB := Aside0.mk hvb
   clear hvb hv
   cases b with
   | true =>
    have hm := HR.out
    unfold mendS at hm
    rw [if_pos HVB.out.symm] at hm
    subst hm
    go_wp2
    go_ret
    exact ⟨rfl, hbw⟩
   | false =>
    have hnv : ¬ valid s.data.toList = true := by rw [← HVB.out]; simp
    have HM := HR.out
    unfold mendS at HM
    rw [if_neg hnv] at HM
    have HMR := Aside0.mk HM
    clear HM hnv
    have hcv := Lib.run_convert_string_bytes (P := Try.prog) wr 9 34 5 s Try.underlying9 Try.underlying34 Try.underlying5
    have hbb := Lib.bytesWorld_below wr 5 s
    have hbs := Lib.bytesWorld_size wr 5 s
    have hrd : Kd.C (Kd.int .u8) (Lib.bytesWorld wr 5 s) (some ⟨wr.heap.size, 0, none⟩) s.size (zs s.data.toList) :=
     Kd.C_of_reads (enc := Value.int .u8) (d := (0 : Int)) (h1 := fun _ => rfl) ⟨by simp [zs], by omega, fun _ => ⟨_, rfl, fun j hj => by
      rw [add_plain, Lib.bytesWorld_cell wr 5 s j hj]
      have := rd_zs s.data.toList j
      unfold rd at this
      rw [Int.toNat_natCast] at this
      rw [this]⟩⟩
    have hz : (zs s.data.toList).length = s.size := by simp [zs]
    rw [← hz] at hrd
    have hcall := utf_Runes_calls read_tells (some ⟨wr.heap.size, 0, none⟩) (Go.grownCap wr s.size 0 5) s.data.toList _ hrd (by simp; omega)
    rw [hz] at hcall
    have HC := Aside0.mk hcall
    have HBB := Aside0.mk hbb
    clear hcall hrd hz hbb
    go_wp2_with (go_at_call 53; refine HC.out.mono ?_; rintro e w2 ⟨v, rfl, hown, hb2⟩; have hcv2 := Hc_own_runes (P := Try.prog) (src := 28) (dst := 9) (e := 21) Try.underlying28 Try.underlying21 Try.underlying9 hown)
    go_ret
    have hm := HMR.out
    subst hm
    exact ⟨rfl, hbw.trans ((HBB.out.trans (hb2.mono (by omega))).mono (by omega))⟩
end Go.Proofs.Ythmbbkbmlnaghaa.P
end
section
/-
 charref.Decode: every reference replaced.
-/
namespace Go.Proofs.Ythmbbkbmlnaghaa.P
open Go.RowKit Go.Shelf Go.Proofs.YthmbbkbmlnaghaaW.PrintWords Go.Proofs.YthmbbkbmlnaghaaW.PrintLast Go.Proofs.YthmbbkbmlnaghaaW.PrintMore
set_option linter.unusedVariables false
set_option linter.unusedSimpArgs false

def charref_Decode.f (k : Nat) (s : ByteArray) (attr : Bool) : Option ByteArray :=
 (utf_Mend.f s).bind fun m => (refsGo attr m k 0).bind fun refs =>
  if m.size ≤ 35184372088831 ∧ (repText id m.data.toList refs).length ≤ 140737488355328 then some ⟨(repText id m.data.toList refs).toArray⟩ else none
theorem Decode1_calls (a : ByteArray) (n : Int) (b : Bool) (w : World) :
  Calls Try.prog 44 #[.agg #[.string a, .int .i64 n, .bool b]] w fun e w' => e = .returned (.string (id a)) ∧ Below w.heap.size w w' := by
 have hu60 := Try.underlying88
 have HB0 := Aside0.mk (Below.refl w.heap.size w)
 go_enter Try.func44, Try.ntmps44
 go_wp2_with (first | ((with_reducible refine gate_dst (N := 1) rfl ?_); refine box_event ?hg (N := 1) ?hd (cs := #[.string a, .int .i64 n, .bool b]) (t := 88) ?hr ?_; (case hd => rfl); (case hg => rfl); (case hr => first | (go_simp; done) | (go_simp; rfl)); intro gb hg w5 hbox hb; have HB5 := Aside0.mk (below_step HB0.out hb); have BK5 := Aside0.mk hbox; clear hb hbox hg; have hcg5 : w5.cell? ⟨gb, 0, none⟩ = some (.string a) := (blk_cell BK5.out 0).trans rfl))
 go_ret
 exact ⟨rfl, HB5.out⟩

set_option maxRecDepth 100000 in
set_option maxHeartbeats 2000000 in
theorem charref_Decode.calls (k : Nat) (s : ByteArray) (attr : Bool) (r : ByteArray) (w : World) (h : charref_Decode.f k s attr = some r) :
  Calls Try.prog 17 #[.string s, .bool attr] w fun e w' => e = .returned (.string r) ∧ Below w.heap.size w w' := by
 obtain ⟨m, hm, h⟩ := Option.bind_eq_some_iff.1 h
 obtain ⟨refs, hrefs, h⟩ := Option.bind_eq_some_iff.1 h
 by_cases hlen : m.size ≤ 35184372088831 ∧ (repText id m.data.toList refs).length ≤ 140737488355328
 case neg => rw [if_neg hlen] at h; cases h
 rw [if_pos hlen] at h
 have hr := Option.some.inj h
 clear h
 obtain ⟨hms, hlen⟩ := hlen
 have HM := Aside0.mk (utf_Mend.calls s m w hm)
 have HREP := Aside0.mk (fun W => D_replaced_calls k m attr id refs W hms hrefs hlen (fun x _ n b W => Decode1_calls x.2.1 n b W))
 have HR := Aside0.mk hr
 clear hm hrefs hlen hms hr
 go_enter Try.func17, Try.ntmps17
 go_wp2_with (first | (go_at_call 33; refine HM.out.mono ?_; rintro e w1 ⟨rfl, hb1⟩) | (go_at_call 40; refine (HREP.out w1).mono ?_; rintro e w2 ⟨rfl, hb2⟩))
 go_ret
 exact ⟨by rw [HR.out]; rfl, hb1.trans (hb2.mono hb1.size)⟩
end Go.Proofs.Ythmbbkbmlnaghaa.P
end
