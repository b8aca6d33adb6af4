/-
  Part 5 of 7 of the proof's texts, joined: PA7, Hsays.
  (Where a joined text began as one that the kit's print.sh printed, it is trimmed here to what this claim uses, by this session's pack.py.)
-/
import Derived.Test.YtilpbfbnnmclhaaQCharrefPieces0
import Derived.Test.YtilpbfbnnmclhaaQCharrefPieces1
import Derived.Test.YtilpbfbnnmclhaaQCharrefPieces2
import Derived.Test.YtilpbfbnnmclhaaQCharrefPieces3
import Derived.Deep.WholeRow
section
namespace Go.Proofs.Ytilpbfbnnmclhaa.P
open Go.RowKit Go.Proofs.YtilpbfbnnmclhaaW.PrintWords Go.Proofs.YtilpbfbnnmclhaaW.PrintLast Go.Proofs.YtilpbfbnnmclhaaW.PrintMore
attribute [local go_sem] max2_int min2_int max_two min_two max_three min_three max_four min_four   -- for this text's walks alone
set_option linter.unusedVariables false
set_option linter.unusedSimpArgs false

/-! ### sieveref05_Begins: function 46 -/
def sieveref05_Begins.l0 : Nat → ByteArray → List (S98) → Int → Int → Option (Bool)
 | 0, _, _, _, _ => none
 | k + 1, x0, x5, x6, x7 => if x7 < x6 then (if 0 ≤ x7 then (if x7 < (x5.length : Int) then ((sieveref05_Prefix.f ((rd_T98 x5 x7).f0) x0).bind fun t230 => (if t230 = true then (some true) else (sieveref05_Begins.l0 k x0 x5 x6 (wrap64 (x7 + 1))))) else (none)) else (none)) else (some false)
def sieveref05_Begins.f (k : Nat) (a0 : ByteArray) : Option (Bool) := (api_Entities.f).bind fun t225 => (sieveref05_Begins.l0 k a0 t225 (t225.length : Int) 0)
theorem sieveref05_Begins.mono_l : ∀ k, (∀ y0 y1 y2 y3, LeO (sieveref05_Begins.l0 k y0 y1 y2 y3) (sieveref05_Begins.l0 (k + 1) y0 y1 y2 y3))
 | 0 => fun _ _ _ _ r h => by simp [sieveref05_Begins.l0] at h
 | k + 1 => by
  have ih0 := sieveref05_Begins.mono_l k
  ·intro y0 y1 y2 y3
   unfold sieveref05_Begins.l0
   repeat' first
   | (with_reducible exact ih0 _ _ _ _)
   | (with_reducible exact LeO.refl _)
   | (with_reducible exact LeO.none _)
   | (with_reducible refine LeO.ite ?_ ?_)
   | (with_reducible refine LeO.bind ?_ (fun _ => ?_))
   | exact ih0 _ _ _ _
   | exact LeO.none _
   | refine LeO.ite ?_ ?_
   | refine LeO.bind ?_ (fun _ => ?_)
theorem sieveref05_Begins.mono : ∀ a0 k, LeO (sieveref05_Begins.f k a0) (sieveref05_Begins.f (k + 1) a0) := by
 intro a0 k
 have ih0 := sieveref05_Begins.mono_l k
 unfold sieveref05_Begins.f
 repeat' first
   | (with_reducible exact ih0 _ _ _ _)
   | (with_reducible exact LeO.refl _)
   | (with_reducible exact LeO.none _)
   | (with_reducible refine LeO.ite ?_ ?_)
   | (with_reducible refine LeO.bind ?_ (fun _ => ?_))
   | exact ih0 _ _ _ _
   | exact LeO.none _
   | refine LeO.ite ?_ ?_
   | refine LeO.bind ?_ (fun _ => ?_)
set_option maxHeartbeats 8000000 in
set_option maxRecDepth 100000 in
theorem sieveref05_Begins.calls (k : Nat) (a0 : ByteArray) (r : Bool) (w : World) (h : sieveref05_Begins.f k a0 = some r) :
  Calls Try.prog 46 #[.string a0] w fun e w' => e = .returned (.bool r) ∧ Below w.heap.size w w' := by
 have hu98 := Try.underlying98
 have HB := Aside0.mk (Below.refl w.heap.size w)
 have H : ((api_Entities.f).bind fun t225 => (sieveref05_Begins.l0 k a0 t225 (t225.length : Int) 0)) = some r := h
 clear h
 replace H := Option.bind_eq_some_iff.mp H
 obtain ⟨t225, A20, H⟩ := H
 replace H : (sieveref05_Begins.l0 k a0 t225 (t225.length : Int) 0) = some r := H
 have A2 := Aside0.mk A20
 clear A20
 have H' := Aside0.mk H
 clear H
 go_enter Try.func46, Try.ntmps46
 go_wp2_with (first | ((with_reducible refine gate_callee (f := 66) rfl ?_); refine goesL_ (some 5) rfl rfl Try.func66 (by kernel_rfl) rfl #[] rfl (by (try simp only [List.map_toArray, List.map_cons, List.map_nil]); first | done | rfl | (simp only [List.length_drop, List.length_take]; rfl) | (simp [*] <;> rfl)) ?_; (with_reducible refine (api_Entities.calls  t225 _ A2.out).mono ?_); rintro e w3 ⟨v226, rfl, ho0, hb⟩; refine ⟨_, rfl, ?_⟩; have n0_ := Aside0.mk (Kd.R_lower ho0 (below_size (by repeat (first | (with_reducible first | exact HB.out | apply below_alloc | apply pw_below_drewN | apply below_drew1) | exact HB.out)))); have n1_ := Aside0.mk (below_step (by repeat (first | (with_reducible first | exact HB.out | apply below_alloc | apply pw_below_drewN | apply below_drew1) | exact HB.out)) hb); clear HB; have HO227 := n0_; have HB := n1_; clear n0_ n1_; (try clear hb); (try clear hb2); (try clear hk); (try clear hi); (try clear ho0); obtain ⟨Ao4, co4, eo4⟩ := Kd.R_slice HO227.out; subst eo4))
 go_loopg [7] k (fun kq v7 w' => ∃ (x7_1 : Int), v7 = .int .i64 x7_1 ∧ Aside0 (sieveref05_Begins.l0 kq a0 t225 (t225.length : Int) x7_1 = some r) ∧ Aside0 (kq ≤ k) ∧ Aside0 (Kd.R k98 98 w' w.heap.size (fun _ => True) (.slice Ao4 t225.length co4) t225) ∧ Aside0 (Below w.heap.size w w'))
 case atStart => exact ⟨(0), (by first | rfl | (simp; done) | (simp [*]; done) | (unfold bt; split <;> first | rfl | (exfalso; simp_all; done) | (exfalso; simp_all; omega))), H', ⟨Nat.le_refl _⟩, ⟨by (with_reducible repeat (first | apply Kd.R_alloc | apply Kd.R_drewN | apply Kd.R_drew)); exact HO227.out⟩, ⟨by repeat (first | (with_reducible first | exact HB.out | apply below_alloc | apply pw_below_drewN | apply below_drew1) | exact HB.out)⟩⟩
 case round =>
  clear H'
  try clear p2
  try clear c4
  obtain ⟨x7_1, rfl, HA, HK1, HO_5, HB⟩ := hrel
  cases gk with
  | zero => exact absurd HA.out (by simp [sieveref05_Begins.l0])
  | succ k1 =>
   have H := HA.out
   clear HA
   simp only [sieveref05_Begins.l0] at H
   by_cases c5 : x7_1 < (t225.length : Int)
   ·rw [if_pos c5] at H
    have c5b0 : decide (x7_1 < (t225.length : Int)) = true := decide_eq_true c5
    clear c5
    by_cases c6 : 0 ≤ x7_1
    ·rw [if_pos c6] at H
     have c6b0 : decide (0 ≤ x7_1) = true := decide_eq_true c6
     clear c6
     by_cases c7 : x7_1 < (t225.length : Int)
     ·rw [if_pos c7] at H
      have c7b0 : decide (x7_1 < (t225.length : Int)) = true := decide_eq_true c7
      clear c7
      replace H := Option.bind_eq_some_iff.mp H
      obtain ⟨t230, A80, H⟩ := H
      replace H : (if t230 = true then (some true) else (sieveref05_Begins.l0 k1 a0 t225 (t225.length : Int) (wrap64 (x7_1 + 1)))) = some r := H
      have A8 := Aside0.mk A80
      clear A80
      by_cases c9 : t230 = true
      ·subst c9
       have H1 : (some true) = some r := by rw [if_pos rfl] at H; exact H
       clear H
       have H := H1
       clear H1
       obtain rfl := Option.some.inj H
       have p228 : 0 ≤ (x7_1 : Int) := of_decide_eq_true (by first | (with_reducible assumption) | assumption)
       have q228 : x7_1 < (t225.length : Int) := of_decide_eq_true (by first | (with_reducible assumption) | assumption)
       obtain ⟨ad228, e228, hx228_0, hx228_1, hx228_2, hx228_3⟩ := at_T98 (Kd.R_reads' HO_5.out).2.2 x7_1 p228 q228
       cases e228
       replace p228 := eq_true p228
       replace q228 := eq_true q228
       go_wp2_with (first | ((with_reducible refine gate_dst (N := 4) rfl ?_); refine box_event ?hg (N := 4) ?hd (cs := #[.string (⟨#[]⟩ : ByteArray), .int .i32 0, .int .i32 0, .bool false]) (t := 98) ?hr ?_; (case hd => rfl); (case hg => rfl); (case hr => first | (go_simp; done) | (go_simp; rfl)); intro gb229 hg w10 hbox hb; have n0_ := Aside0.mk (Kd.R_below (Kd.R_elderB (by (with_reducible repeat (first | apply Kd.R_alloc | apply Kd.R_drewN | apply Kd.R_drew)); exact HO_5.out) gb229 (Nat.le_of_eq hg.symm)) hb); have n1_ := Aside0.mk (below_step (by repeat (first | (with_reducible first | exact HB.out | apply below_alloc | apply pw_below_drewN | apply below_drew1) | exact HB.out)) hb); have n2_ := Aside0.mk (hbox); have n3_ := Aside0.mk ((by rw [hg]; exact (below_size (by repeat (first | (with_reducible first | exact HB.out | apply below_alloc | apply pw_below_drewN | apply below_drew1) | exact HB.out))) : w.heap.size ≤ gb229)); have n4_ := Aside0.mk ((by rw [hg]; exact (below_size (by repeat (first | (with_reducible first | exact HB.out | apply below_alloc | apply pw_below_drewN | apply below_drew1) | exact HB.out))) : w.heap.size ≤ gb229)); clear HO_5; clear HB; have HO_5 := n0_; have HB := n1_; have BK229 := n2_; have GW229 := n3_; have GE229 := n4_; clear n0_ n1_ n2_ n3_ n4_; clear hb hbox hg; have hcz11_0 : w10.cell? ⟨gb229, 0, none⟩ = some (.string (⟨#[]⟩ : ByteArray)) := (blk_cell BK229.out 0).trans rfl; have hcz11_1 : w10.cell? ⟨gb229, 1, none⟩ = some (.int .i32 0) := (blk_cell BK229.out 1).trans rfl; have hcz11_2 : w10.cell? ⟨gb229, 2, none⟩ = some (.int .i32 0) := (blk_cell BK229.out 2).trans rfl; have hcz11_3 : w10.cell? ⟨gb229, 3, none⟩ = some (.bool false) := (blk_cell BK229.out 3).trans rfl; have hfz11_0 := blk_frozen BK229.out 0; have hfz11_1 := blk_frozen BK229.out 1; have hfz11_2 := blk_frozen BK229.out 2; have hfz11_3 := blk_frozen BK229.out 3) | ((with_reducible refine gate_callee (f := 67) rfl ?_); refine goesL_ (some 14) rfl rfl Try.func67 (by kernel_rfl) rfl #[.string ((rd_T98 t225 x7_1).f0), .string a0] rfl (by (try simp only [List.map_toArray, List.map_cons, List.map_nil]); first | done | rfl | (simp only [List.length_drop, List.length_take]; rfl) | (simp [*] <;> rfl)) ?_; (with_reducible refine (sieveref05_Prefix.calls ((rd_T98 t225 x7_1).f0) a0 true _ A8.out).mono ?_); rintro e w' ⟨rfl, ⟨nd, rfl⟩⟩; refine ⟨_, rfl, ?_⟩))
       go_ret
       exact ⟨by first | rfl | (simp [errW_none, errW_some] <;> rfl) | (simp [*, errW_none, errW_some] <;> rfl), by repeat (first | (with_reducible first | exact HB.out | apply below_alloc | apply pw_below_drewN | apply below_drew1 | refine below_set ?_ GE229.out) | exact HB.out)⟩
      ·replace c9 := Bool.eq_false_iff.mpr c9
       subst c9
       have H1 : (sieveref05_Begins.l0 k1 a0 t225 (t225.length : Int) (wrap64 (x7_1 + 1))) = some r := by rw [if_neg (show ¬ (false = true) by decide)] at H; exact H
       clear H
       have H := H1
       clear H1
       have H' := Aside0.mk H
       clear H
       have p228 : 0 ≤ (x7_1 : Int) := of_decide_eq_true (by first | (with_reducible assumption) | assumption)
       have q228 : x7_1 < (t225.length : Int) := of_decide_eq_true (by first | (with_reducible assumption) | assumption)
       obtain ⟨ad228, e228, hx228_0, hx228_1, hx228_2, hx228_3⟩ := at_T98 (Kd.R_reads' HO_5.out).2.2 x7_1 p228 q228
       cases e228
       replace p228 := eq_true p228
       replace q228 := eq_true q228
       go_wp2_with (first | ((with_reducible refine gate_dst (N := 4) rfl ?_); refine box_event ?hg (N := 4) ?hd (cs := #[.string (⟨#[]⟩ : ByteArray), .int .i32 0, .int .i32 0, .bool false]) (t := 98) ?hr ?_; (case hd => rfl); (case hg => rfl); (case hr => first | (go_simp; done) | (go_simp; rfl)); intro gb229 hg w12 hbox hb; have n0_ := Aside0.mk (Kd.R_below (Kd.R_elderB (by (with_reducible repeat (first | apply Kd.R_alloc | apply Kd.R_drewN | apply Kd.R_drew)); exact HO_5.out) gb229 (Nat.le_of_eq hg.symm)) hb); have n1_ := Aside0.mk (below_step (by repeat (first | (with_reducible first | exact HB.out | apply below_alloc | apply pw_below_drewN | apply below_drew1) | exact HB.out)) hb); have n2_ := Aside0.mk (hbox); have n3_ := Aside0.mk ((by rw [hg]; exact (below_size (by repeat (first | (with_reducible first | exact HB.out | apply below_alloc | apply pw_below_drewN | apply below_drew1) | exact HB.out))) : w.heap.size ≤ gb229)); have n4_ := Aside0.mk ((by rw [hg]; exact (below_size (by repeat (first | (with_reducible first | exact HB.out | apply below_alloc | apply pw_below_drewN | apply below_drew1) | exact HB.out))) : w.heap.size ≤ gb229)); clear HO_5; clear HB; have HO_5 := n0_; have HB := n1_; have BK229 := n2_; have GW229 := n3_; have GE229 := n4_; clear n0_ n1_ n2_ n3_ n4_; clear hb hbox hg; have hcz13_0 : w12.cell? ⟨gb229, 0, none⟩ = some (.string (⟨#[]⟩ : ByteArray)) := (blk_cell BK229.out 0).trans rfl; have hcz13_1 : w12.cell? ⟨gb229, 1, none⟩ = some (.int .i32 0) := (blk_cell BK229.out 1).trans rfl; have hcz13_2 : w12.cell? ⟨gb229, 2, none⟩ = some (.int .i32 0) := (blk_cell BK229.out 2).trans rfl; have hcz13_3 : w12.cell? ⟨gb229, 3, none⟩ = some (.bool false) := (blk_cell BK229.out 3).trans rfl; have hfz13_0 := blk_frozen BK229.out 0; have hfz13_1 := blk_frozen BK229.out 1; have hfz13_2 := blk_frozen BK229.out 2; have hfz13_3 := blk_frozen BK229.out 3) | ((with_reducible refine gate_callee (f := 67) rfl ?_); refine goesL_ (some 14) rfl rfl Try.func67 (by kernel_rfl) rfl #[.string ((rd_T98 t225 x7_1).f0), .string a0] rfl (by (try simp only [List.map_toArray, List.map_cons, List.map_nil]); first | done | rfl | (simp only [List.length_drop, List.length_take]; rfl) | (simp [*] <;> rfl)) ?_; (with_reducible refine (sieveref05_Prefix.calls ((rd_T98 t225 x7_1).f0) a0 false _ A8.out).mono ?_); rintro e w' ⟨rfl, ⟨nd, rfl⟩⟩; refine ⟨_, rfl, ?_⟩))
       go_roundg k1
       case measure => have := HK1.out; omega
       case rel => exact ⟨(wrap64 (x7_1 + 1)), (by first | rfl | (simp; done) | (simp [*]; done) | (unfold bt; split <;> first | rfl | (exfalso; simp_all; done) | (exfalso; simp_all; omega))), H', ⟨by have := HK1.out; omega⟩, ⟨by (with_reducible repeat (first | apply Kd.R_alloc | apply Kd.R_drewN | apply Kd.R_drew)); exact Kd.R_mono (Kd.R_far (p := ⟨gb229, 3, none⟩) (Kd.R_far (p := ⟨gb229, 2, none⟩) (Kd.R_far (p := ⟨gb229, 1, none⟩) (Kd.R_far (p := ⟨gb229, 0, none⟩) (Kd.R_mono HO_5.out (fun k_ hk => (⟨hk, hk.2⟩ : _ ∧ k_ ≠ gb229))) (fun _ hk => hk.2) (.string ((rd_T98 t225 x7_1).f0))) (fun _ hk => hk.2) (.int .i32 ((rd_T98 t225 x7_1).f1))) (fun _ hk => hk.2) (.int .i32 ((rd_T98 t225 x7_1).f2))) (fun _ hk => hk.2) (.bool ((rd_T98 t225 x7_1).f3))) (fun _ hk => trivial)⟩, ⟨by repeat (first | (with_reducible first | exact HB.out | apply below_alloc | apply pw_below_drewN | apply below_drew1 | refine below_set ?_ GE229.out) | exact HB.out)⟩⟩
     ·rw [if_neg c7] at H
      exact absurd H (by simp)
    ·rw [if_neg c6] at H
     exact absurd H (by simp)
   ·rw [if_neg c5] at H
    have c5b0 : decide (x7_1 < (t225.length : Int)) = false := decide_eq_false c5
    clear c5
    obtain rfl := Option.some.inj H
    go_wp2
    go_ret
    exact ⟨by first | rfl | (simp [errW_none, errW_some] <;> rfl) | (simp [*, errW_none, errW_some] <;> rfl), by repeat (first | (with_reducible first | exact HB.out | apply below_alloc | apply pw_below_drewN | apply below_drew1) | exact HB.out)⟩

/-! ### sieveref05_Longest: function 47 -/
mutual
def sieveref05_Longest.l0 : Nat → ByteArray → Int → List Int → List (S98) → Int → Int → Option (Int × List Int)
 | 0, _, _, _, _, _, _ => none
 | k + 1, x0, x4, x5, x9, x10, x11 => if x11 < x10 then (if 0 ≤ x11 then (if x11 < (x9.length : Int) then ((sieveref05_Prefix.f x0 ((rd_T98 x9 x11).f0)).bind fun t236 => (if t236 = true then (if (rd_T98 x9 x11).f3 = true then (sieveref05_Longest.j1 k x0 x4 x5 (((rd_T98 x9 x11).f0).size : Int) x9 x10 x11 (decide ((((rd_T98 x9 x11).f0).size : Int) > x4)) ((rd_T98 x9 x11).f0) ((rd_T98 x9 x11).f1) ((rd_T98 x9 x11).f2) ((rd_T98 x9 x11).f3)) else (sieveref05_Longest.j1 k x0 x4 x5 (((rd_T98 x9 x11).f0).size : Int) x9 x10 x11 false ((rd_T98 x9 x11).f0) ((rd_T98 x9 x11).f1) ((rd_T98 x9 x11).f2) ((rd_T98 x9 x11).f3))) else (sieveref05_Longest.l0 k x0 x4 x5 x9 x10 (wrap64 (x11 + 1))))) else (none)) else (none)) else (some (x4, x5))
def sieveref05_Longest.j1 : Nat → ByteArray → Int → List Int → Int → List (S98) → Int → Int → Bool → ByteArray → Int → Int → Bool → Option (Int × List Int)
 | 0, _, _, _, _, _, _, _, _, _, _, _, _ => none
 | k + 1, x0, x4, x5, x8, x9, x10, x11, x29, x236000, x236001, x236002, x236003 => if x29 = true then ((sieveref05_says.f x236000 x236001 x236002 x236003).bind fun t237 => (if x8 < (x0.size : Int) then (if 0 ≤ x8 then (if (bt x0 x8) = 59 then (if (wrap64 (x8 + 1)) > x8 then ((sieveref05_says.f x236000 x236001 x236002 x236003).bind fun t240 => (sieveref05_Longest.l0 k x0 (wrap64 (x8 + 1)) t240 x9 x10 (wrap64 (x11 + 1)))) else (sieveref05_Longest.l0 k x0 x8 t237 x9 x10 (wrap64 (x11 + 1)))) else (sieveref05_Longest.l0 k x0 x8 t237 x9 x10 (wrap64 (x11 + 1)))) else (none)) else (sieveref05_Longest.l0 k x0 x8 t237 x9 x10 (wrap64 (x11 + 1))))) else (if x8 < (x0.size : Int) then (if 0 ≤ x8 then (if (bt x0 x8) = 59 then (if (wrap64 (x8 + 1)) > x4 then ((sieveref05_says.f x236000 x236001 x236002 x236003).bind fun t243 => (sieveref05_Longest.l0 k x0 (wrap64 (x8 + 1)) t243 x9 x10 (wrap64 (x11 + 1)))) else (sieveref05_Longest.l0 k x0 x4 x5 x9 x10 (wrap64 (x11 + 1)))) else (sieveref05_Longest.l0 k x0 x4 x5 x9 x10 (wrap64 (x11 + 1)))) else (none)) else (sieveref05_Longest.l0 k x0 x4 x5 x9 x10 (wrap64 (x11 + 1))))
end
def sieveref05_Longest.f (k : Nat) (a0 : ByteArray) : Option (Int × List Int) := (api_Entities.f).bind fun t231 => (sieveref05_Longest.l0 k a0 0 ([] : List Int) t231 (t231.length : Int) 0)
theorem sieveref05_Longest.mono_l : ∀ k, (∀ y0 y1 y2 y3 y4 y5, LeO (sieveref05_Longest.l0 k y0 y1 y2 y3 y4 y5) (sieveref05_Longest.l0 (k + 1) y0 y1 y2 y3 y4 y5)) ∧ (∀ y0 y1 y2 y3 y4 y5 y6 y7 y8 y9 y10 y11, LeO (sieveref05_Longest.j1 k y0 y1 y2 y3 y4 y5 y6 y7 y8 y9 y10 y11) (sieveref05_Longest.j1 (k + 1) y0 y1 y2 y3 y4 y5 y6 y7 y8 y9 y10 y11))
 | 0 => ⟨fun _ _ _ _ _ _ r h => by simp [sieveref05_Longest.l0] at h, fun _ _ _ _ _ _ _ _ _ _ _ _ r h => by simp [sieveref05_Longest.j1] at h⟩
 | k + 1 => by
  obtain ⟨ih0, ih1⟩ := sieveref05_Longest.mono_l k
  refine ⟨?_, ?_⟩
  ·intro y0 y1 y2 y3 y4 y5
   unfold sieveref05_Longest.l0
   repeat' first
   | (with_reducible exact ih0 _ _ _ _ _ _)
   | (with_reducible exact ih1 _ _ _ _ _ _ _ _ _ _ _ _)
   | (with_reducible exact LeO.refl _)
   | (with_reducible exact LeO.none _)
   | (with_reducible refine LeO.ite ?_ ?_)
   | (with_reducible refine LeO.bind ?_ (fun _ => ?_))
   | exact ih0 _ _ _ _ _ _
   | exact ih1 _ _ _ _ _ _ _ _ _ _ _ _
   | exact LeO.none _
   | refine LeO.ite ?_ ?_
   | refine LeO.bind ?_ (fun _ => ?_)
  ·intro y0 y1 y2 y3 y4 y5 y6 y7 y8 y9 y10 y11
   unfold sieveref05_Longest.j1
   repeat' first
   | (with_reducible exact ih0 _ _ _ _ _ _)
   | (with_reducible exact ih1 _ _ _ _ _ _ _ _ _ _ _ _)
   | (with_reducible exact LeO.refl _)
   | (with_reducible exact LeO.none _)
   | (with_reducible refine LeO.ite ?_ ?_)
   | (with_reducible refine LeO.bind ?_ (fun _ => ?_))
   | exact ih0 _ _ _ _ _ _
   | exact ih1 _ _ _ _ _ _ _ _ _ _ _ _
   | exact LeO.none _
   | refine LeO.ite ?_ ?_
   | refine LeO.bind ?_ (fun _ => ?_)
theorem sieveref05_Longest.mono : ∀ a0 k, LeO (sieveref05_Longest.f k a0) (sieveref05_Longest.f (k + 1) a0) := by
 intro a0 k
 obtain ⟨ih0, ih1⟩ := sieveref05_Longest.mono_l k
 unfold sieveref05_Longest.f
 repeat' first
   | (with_reducible exact ih0 _ _ _ _ _ _)
   | (with_reducible exact ih1 _ _ _ _ _ _ _ _ _ _ _ _)
   | (with_reducible exact LeO.refl _)
   | (with_reducible exact LeO.none _)
   | (with_reducible refine LeO.ite ?_ ?_)
   | (with_reducible refine LeO.bind ?_ (fun _ => ?_))
   | exact ih0 _ _ _ _ _ _
   | exact ih1 _ _ _ _ _ _ _ _ _ _ _ _
   | exact LeO.none _
   | refine LeO.ite ?_ ?_
   | refine LeO.bind ?_ (fun _ => ?_)
set_option maxHeartbeats 8000000 in
set_option maxRecDepth 100000 in
theorem sieveref05_Longest.calls (k : Nat) (a0 : ByteArray) (r1 : Int) (r2 : List Int) (w : World) (h : sieveref05_Longest.f k a0 = some (r1, r2)) :
  Calls Try.prog 47 #[.string a0] w fun e w' => ∃ v1_ : Value, e = .returned (.tuple #[.int .i64 r1, v1_]) ∧ Kd.R (Kd.int .i32) 21 w' w.heap.size (fun _ => True) v1_ r2 ∧ Below w.heap.size w w' := by
 have hu98 := Try.underlying98
 have HB := Aside0.mk (Below.refl w.heap.size w)
 have H : ((api_Entities.f).bind fun t231 => (sieveref05_Longest.l0 k a0 0 ([] : List Int) t231 (t231.length : Int) 0)) = some (r1, r2) := h
 clear h
 replace H := Option.bind_eq_some_iff.mp H
 obtain ⟨t231, A20, H⟩ := H
 replace H : (sieveref05_Longest.l0 k a0 0 ([] : List Int) t231 (t231.length : Int) 0) = some (r1, r2) := H
 have A2 := Aside0.mk A20
 clear A20
 have H' := Aside0.mk H
 clear H
 go_enter Try.func47, Try.ntmps47
 go_wp2_with (first | ((with_reducible refine gate_callee (f := 66) rfl ?_); refine goesL_ (some 9) rfl rfl Try.func66 (by kernel_rfl) rfl #[] rfl (by (try simp only [List.map_toArray, List.map_cons, List.map_nil]); first | done | rfl | (simp only [List.length_drop, List.length_take]; rfl) | (simp [*] <;> rfl)) ?_; (with_reducible refine (api_Entities.calls  t231 _ A2.out).mono ?_); rintro e w3 ⟨v232, rfl, ho0, hb⟩; refine ⟨_, rfl, ?_⟩; have n0_ := Aside0.mk (Kd.R_lower ho0 (below_size (by repeat (first | (with_reducible first | exact HB.out | apply below_alloc | apply pw_below_drewN | apply below_drew1) | exact HB.out)))); have n1_ := Aside0.mk (below_step (by repeat (first | (with_reducible first | exact HB.out | apply below_alloc | apply pw_below_drewN | apply below_drew1) | exact HB.out)) hb); clear HB; have HO233 := n0_; have HB := n1_; clear n0_ n1_; (try clear hb); (try clear hb2); (try clear hk); (try clear hi); (try clear ho0); obtain ⟨Ao4, co4, eo4⟩ := Kd.R_slice HO233.out; subst eo4))
 go_loopg [4, 5, 11] k (fun kq v4 v5 v11 w' => ∃ (x4_1 : Int) (x5_1 : List Int) (x11_1 : Int), v4 = .int .i64 x4_1 ∧ v11 = .int .i64 x11_1 ∧ Aside0 (sieveref05_Longest.l0 kq a0 x4_1 x5_1 t231 (t231.length : Int) x11_1 = some (r1, r2)) ∧ Aside0 (kq ≤ k) ∧ Aside0 (Kd.R (Kd.int .i32) 21 w' w.heap.size (fun _ => True) v5 x5_1) ∧ Aside0 (Kd.R k98 98 w' w.heap.size (fun _ => True) (.slice Ao4 t231.length co4) t231) ∧ Aside0 (Below w.heap.size w w'))
 case atStart => exact ⟨(0), (([] : List Int)), (0), (by first | rfl | (simp; done) | (simp [*]; done) | (unfold bt; split <;> first | rfl | (exfalso; simp_all; done) | (exfalso; simp_all; omega))), (by first | rfl | (simp; done) | (simp [*]; done) | (unfold bt; split <;> first | rfl | (exfalso; simp_all; done) | (exfalso; simp_all; omega))), H', ⟨Nat.le_refl _⟩, ⟨by first | exact Kd.R_nil _ _ _ _ _ | exact Kd.N_nil _ _ _ _ _ | exact Kd.V_nil _ _ _ _ _ | exact Kd.Q_nil _ _ _ _ _ | exact Kd.S_nil _ _ _ _ _⟩, ⟨by (with_reducible repeat (first | apply Kd.R_alloc | apply Kd.R_drewN | apply Kd.R_drew)); exact HO233.out⟩, ⟨by repeat (first | (with_reducible first | exact HB.out | apply below_alloc | apply pw_below_drewN | apply below_drew1) | exact HB.out)⟩⟩
 case round =>
  clear H'
  try clear p2
  try clear c4
  obtain ⟨x4_1, x5_1, x11_1, rfl, rfl, HA, HK1, HO_5, HO_9, HB⟩ := hrel
  cases gk with
  | zero => exact absurd HA.out (by simp [sieveref05_Longest.l0])
  | succ k1 =>
   have H := HA.out
   clear HA
   simp only [sieveref05_Longest.l0] at H
   by_cases c5 : x11_1 < (t231.length : Int)
   ·rw [if_pos c5] at H
    have c5b0 : decide (x11_1 < (t231.length : Int)) = true := decide_eq_true c5
    clear c5
    by_cases c6 : 0 ≤ x11_1
    ·rw [if_pos c6] at H
     have c6b0 : decide (0 ≤ x11_1) = true := decide_eq_true c6
     clear c6
     by_cases c7 : x11_1 < (t231.length : Int)
     ·rw [if_pos c7] at H
      have c7b0 : decide (x11_1 < (t231.length : Int)) = true := decide_eq_true c7
      clear c7
      replace H := Option.bind_eq_some_iff.mp H
      obtain ⟨t236, A80, H⟩ := H
      replace H : (if t236 = true then (if (rd_T98 t231 x11_1).f3 = true then (sieveref05_Longest.j1 k1 a0 x4_1 x5_1 (((rd_T98 t231 x11_1).f0).size : Int) t231 (t231.length : Int) x11_1 (decide ((((rd_T98 t231 x11_1).f0).size : Int) > x4_1)) ((rd_T98 t231 x11_1).f0) ((rd_T98 t231 x11_1).f1) ((rd_T98 t231 x11_1).f2) ((rd_T98 t231 x11_1).f3)) else (sieveref05_Longest.j1 k1 a0 x4_1 x5_1 (((rd_T98 t231 x11_1).f0).size : Int) t231 (t231.length : Int) x11_1 false ((rd_T98 t231 x11_1).f0) ((rd_T98 t231 x11_1).f1) ((rd_T98 t231 x11_1).f2) ((rd_T98 t231 x11_1).f3))) else (sieveref05_Longest.l0 k1 a0 x4_1 x5_1 t231 (t231.length : Int) (wrap64 (x11_1 + 1)))) = some (r1, r2) := H
      have A8 := Aside0.mk A80
      clear A80
      by_cases c9 : t236 = true
      ·subst c9
       have H1 : (if (rd_T98 t231 x11_1).f3 = true then (sieveref05_Longest.j1 k1 a0 x4_1 x5_1 (((rd_T98 t231 x11_1).f0).size : Int) t231 (t231.length : Int) x11_1 (decide ((((rd_T98 t231 x11_1).f0).size : Int) > x4_1)) ((rd_T98 t231 x11_1).f0) ((rd_T98 t231 x11_1).f1) ((rd_T98 t231 x11_1).f2) ((rd_T98 t231 x11_1).f3)) else (sieveref05_Longest.j1 k1 a0 x4_1 x5_1 (((rd_T98 t231 x11_1).f0).size : Int) t231 (t231.length : Int) x11_1 false ((rd_T98 t231 x11_1).f0) ((rd_T98 t231 x11_1).f1) ((rd_T98 t231 x11_1).f2) ((rd_T98 t231 x11_1).f3))) = some (r1, r2) := by rw [if_pos rfl] at H; exact H
       clear H
       have H := H1
       clear H1
       have HC10 := Aside0.mk H
       clear H
       have p234 : 0 ≤ (x11_1 : Int) := of_decide_eq_true (by first | (with_reducible assumption) | assumption)
       have q234 : x11_1 < (t231.length : Int) := of_decide_eq_true (by first | (with_reducible assumption) | assumption)
       obtain ⟨ad234, e234, hx234_0, hx234_1, hx234_2, hx234_3⟩ := at_T98 (Kd.R_reads' HO_9.out).2.2 x11_1 p234 q234
       cases e234
       replace p234 := eq_true p234
       replace q234 := eq_true q234
       go_upto_region 7 with (first | ((with_reducible refine gate_dst (N := 7) rfl ?_); refine box_event ?hg (N := 7) ?hd (cs := #[.string (⟨#[]⟩ : ByteArray), .int .i32 0, .int .i32 0, .bool false]) (t := 98) ?hr ?_; (case hd => rfl); (case hg => rfl); (case hr => first | (go_simp; done) | (go_simp; rfl)); intro gb235 hg w11 hbox hb; have n0_ := Aside0.mk (Kd.R_below (by (with_reducible repeat (first | apply Kd.R_alloc | apply Kd.R_drewN | apply Kd.R_drew)); exact HO_5.out) hb); have n1_ := Aside0.mk (Kd.R_below (Kd.R_elderB (by (with_reducible repeat (first | apply Kd.R_alloc | apply Kd.R_drewN | apply Kd.R_drew)); exact HO_9.out) gb235 (Nat.le_of_eq hg.symm)) hb); have n2_ := Aside0.mk (below_step (by repeat (first | (with_reducible first | exact HB.out | apply below_alloc | apply pw_below_drewN | apply below_drew1) | exact HB.out)) hb); have n3_ := Aside0.mk (hbox); have n4_ := Aside0.mk ((by rw [hg]; exact (below_size (by repeat (first | (with_reducible first | exact HB.out | apply below_alloc | apply pw_below_drewN | apply below_drew1) | exact HB.out))) : w.heap.size ≤ gb235)); have n5_ := Aside0.mk ((by rw [hg]; exact (below_size (by repeat (first | (with_reducible first | exact HB.out | apply below_alloc | apply pw_below_drewN | apply below_drew1) | exact HB.out))) : w.heap.size ≤ gb235)); clear HO_5; clear HO_9; clear HB; have HO_5 := n0_; have HO_9 := n1_; have HB := n2_; have BK235 := n3_; have GW235 := n4_; have GE235 := n5_; clear n0_ n1_ n2_ n3_ n4_ n5_; clear hb hbox hg; have hcz12_0 : w11.cell? ⟨gb235, 0, none⟩ = some (.string (⟨#[]⟩ : ByteArray)) := (blk_cell BK235.out 0).trans rfl; have hcz12_1 : w11.cell? ⟨gb235, 1, none⟩ = some (.int .i32 0) := (blk_cell BK235.out 1).trans rfl; have hcz12_2 : w11.cell? ⟨gb235, 2, none⟩ = some (.int .i32 0) := (blk_cell BK235.out 2).trans rfl; have hcz12_3 : w11.cell? ⟨gb235, 3, none⟩ = some (.bool false) := (blk_cell BK235.out 3).trans rfl; have hfz12_0 := blk_frozen BK235.out 0; have hfz12_1 := blk_frozen BK235.out 1; have hfz12_2 := blk_frozen BK235.out 2; have hfz12_3 := blk_frozen BK235.out 3) | ((with_reducible refine gate_callee (f := 67) rfl ?_); refine goesL_ (some 21) rfl rfl Try.func67 (by kernel_rfl) rfl #[.string a0, .string ((rd_T98 t231 x11_1).f0)] rfl (by (try simp only [List.map_toArray, List.map_cons, List.map_nil]); first | done | rfl | (simp only [List.length_drop, List.length_take]; rfl) | (simp [*] <;> rfl)) ?_; (with_reducible refine (sieveref05_Prefix.calls a0 ((rd_T98 t231 x11_1).f0) true _ A8.out).mono ?_); rintro e w' ⟨rfl, ⟨nd, rfl⟩⟩; refine ⟨_, rfl, ?_⟩))
       (try simp only [Act.put, List.setIfInBounds_toArray, List.set_cons_zero, List.set_cons_succ])
       go_cut [29] (fun v29 wc => ∃ (kq : Nat) (x29_9 : Bool), v29 = .bool x29_9 ∧ Aside0 (sieveref05_Longest.j1 kq a0 x4_1 x5_1 (((rd_T98 t231 x11_1).f0).size : Int) t231 (t231.length : Int) x11_1 x29_9 ((rd_T98 t231 x11_1).f0) ((rd_T98 t231 x11_1).f1) ((rd_T98 t231 x11_1).f2) ((rd_T98 t231 x11_1).f3) = some (r1, r2)) ∧ Aside0 (kq ≤ k1) ∧ Aside0 (Kd.R (Kd.int .i32) 21 wc w.heap.size (fun _ => True) u5 x5_1) ∧ Aside0 (Kd.R k98 98 wc w.heap.size (fun k_ => k_ ≠ gb235) (.slice (some ad234) t231.length co4) t231) ∧ Aside0 (wc.heap[gb235]? = some (.cells #[.string ((rd_T98 t231 x11_1).f0), .int .i32 ((rd_T98 t231 x11_1).f1), .int .i32 ((rd_T98 t231 x11_1).f2), .bool ((rd_T98 t231 x11_1).f3)] 98 (0, 0))) ∧ Aside0 (Below w.heap.size w wc))
       case first =>
        have H := HC10.out
        clear HC10
        obtain ⟨bq13, hbq13⟩ : ∃ b_ : Bool, b_ = ((rd_T98 t231 x11_1).f3) := ⟨_, rfl⟩
        replace H : (if bq13 = true then (sieveref05_Longest.j1 k1 a0 x4_1 x5_1 (((rd_T98 t231 x11_1).f0).size : Int) t231 (t231.length : Int) x11_1 (decide ((((rd_T98 t231 x11_1).f0).size : Int) > x4_1)) ((rd_T98 t231 x11_1).f0) ((rd_T98 t231 x11_1).f1) ((rd_T98 t231 x11_1).f2) bq13) else (sieveref05_Longest.j1 k1 a0 x4_1 x5_1 (((rd_T98 t231 x11_1).f0).size : Int) t231 (t231.length : Int) x11_1 false ((rd_T98 t231 x11_1).f0) ((rd_T98 t231 x11_1).f1) ((rd_T98 t231 x11_1).f2) bq13)) = some (r1, r2) := by rw [← hbq13] at H; exact H
        have Nbq13 := Aside0.mk hbq13
        clear hbq13
        (try rw [← Nbq13.out])
        by_cases c14 : bq13 = true
        ·subst c14
         have H1 : (sieveref05_Longest.j1 k1 a0 x4_1 x5_1 (((rd_T98 t231 x11_1).f0).size : Int) t231 (t231.length : Int) x11_1 (decide ((((rd_T98 t231 x11_1).f0).size : Int) > x4_1)) ((rd_T98 t231 x11_1).f0) ((rd_T98 t231 x11_1).f1) ((rd_T98 t231 x11_1).f2) true) = some (r1, r2) := by rw [if_pos rfl] at H; exact H
         clear H
         have H := H1
         clear H1
         have H' := Aside0.mk H
         clear H
         have hcz15_0 : w11.cell? ⟨gb235, 0, none⟩ = some (.string (⟨#[]⟩ : ByteArray)) := (blk_cell BK235.out 0).trans rfl
         have hcz15_1 : w11.cell? ⟨gb235, 1, none⟩ = some (.int .i32 0) := (blk_cell BK235.out 1).trans rfl
         have hcz15_2 : w11.cell? ⟨gb235, 2, none⟩ = some (.int .i32 0) := (blk_cell BK235.out 2).trans rfl
         have hcz15_3 : w11.cell? ⟨gb235, 3, none⟩ = some (.bool false) := (blk_cell BK235.out 3).trans rfl
         have hfz15_0 := blk_frozen BK235.out 0
         have hfz15_1 := blk_frozen BK235.out 1
         have hfz15_2 := blk_frozen BK235.out 2
         have hfz15_3 := blk_frozen BK235.out 3
         go_wp2
         go_meet
         case rel => (try rw [← Nbq13.out]); exact ⟨_, (decide ((((rd_T98 t231 x11_1).f0).size : Int) > x4_1)), (by first | rfl | (simp; done) | (simp [*]; done) | (unfold bt; split <;> first | rfl | (exfalso; simp_all; done) | (exfalso; simp_all; omega))), H', ⟨by have := HK1.out; first | omega | exact Nat.le_refl _⟩, ⟨by (with_reducible repeat (first | apply Kd.R_alloc | apply Kd.R_drewN | apply Kd.R_drew)); exact Kd.R_mono (Kd.R_far (p := ⟨gb235, 3, none⟩) (Kd.R_far (p := ⟨gb235, 2, none⟩) (Kd.R_far (p := ⟨gb235, 1, none⟩) (Kd.R_far (p := ⟨gb235, 0, none⟩) (Kd.R_types HO_5.out BK235.out (by decide)) (fun _ hk => hk.2) (.string ((rd_T98 t231 x11_1).f0))) (fun _ hk => hk.2) (.int .i32 ((rd_T98 t231 x11_1).f1))) (fun _ hk => hk.2) (.int .i32 ((rd_T98 t231 x11_1).f2))) (fun _ hk => hk.2) (.bool (true))) (fun _ hk => trivial)⟩, ⟨by (with_reducible repeat (first | apply Kd.R_alloc | apply Kd.R_drewN | apply Kd.R_drew)); exact Kd.R_mono (Kd.R_far (p := ⟨gb235, 3, none⟩) (Kd.R_far (p := ⟨gb235, 2, none⟩) (Kd.R_far (p := ⟨gb235, 1, none⟩) (Kd.R_far (p := ⟨gb235, 0, none⟩) (Kd.R_mono HO_9.out (fun k_ hk => (⟨hk, hk.2⟩ : _ ∧ k_ ≠ gb235))) (fun _ hk => hk.2) (.string ((rd_T98 t231 x11_1).f0))) (fun _ hk => hk.2) (.int .i32 ((rd_T98 t231 x11_1).f1))) (fun _ hk => hk.2) (.int .i32 ((rd_T98 t231 x11_1).f2))) (fun _ hk => hk.2) (.bool (true))) (fun _ hk => hk.1.2)⟩, ⟨by (with_reducible repeat (first | refine blk_drewN ?_ _ | refine blk_drew ?_ | refine blk_alloc ?_ _)); refine blk_put (cs := #[.string ((rd_T98 t231 x11_1).f0), .int .i32 ((rd_T98 t231 x11_1).f1), .int .i32 ((rd_T98 t231 x11_1).f2), .bool false]) ?_ 3 _ rfl; (with_reducible repeat (first | refine blk_drewN ?_ _ | refine blk_drew ?_ | refine blk_alloc ?_ _)); refine blk_put (cs := #[.string ((rd_T98 t231 x11_1).f0), .int .i32 ((rd_T98 t231 x11_1).f1), .int .i32 0, .bool false]) ?_ 2 _ rfl; (with_reducible repeat (first | refine blk_drewN ?_ _ | refine blk_drew ?_ | refine blk_alloc ?_ _)); refine blk_put (cs := #[.string ((rd_T98 t231 x11_1).f0), .int .i32 0, .int .i32 0, .bool false]) ?_ 1 _ rfl; (with_reducible repeat (first | refine blk_drewN ?_ _ | refine blk_drew ?_ | refine blk_alloc ?_ _)); refine blk_put (cs := #[.string (⟨#[]⟩ : ByteArray), .int .i32 0, .int .i32 0, .bool false]) ?_ 0 _ rfl; (with_reducible repeat (first | refine blk_drewN ?_ _ | refine blk_drew ?_ | refine blk_alloc ?_ _)); exact BK235.out⟩, ⟨by repeat (first | (with_reducible first | exact HB.out | apply below_alloc | apply pw_below_drewN | apply below_drew1 | refine below_set ?_ GE235.out) | exact HB.out)⟩⟩
        ·replace c14 := Bool.eq_false_iff.mpr c14
         subst c14
         have H1 : (sieveref05_Longest.j1 k1 a0 x4_1 x5_1 (((rd_T98 t231 x11_1).f0).size : Int) t231 (t231.length : Int) x11_1 false ((rd_T98 t231 x11_1).f0) ((rd_T98 t231 x11_1).f1) ((rd_T98 t231 x11_1).f2) false) = some (r1, r2) := by rw [if_neg (show ¬ (false = true) by decide)] at H; exact H
         clear H
         have H := H1
         clear H1
         have H' := Aside0.mk H
         clear H
         have hcz16_0 : w11.cell? ⟨gb235, 0, none⟩ = some (.string (⟨#[]⟩ : ByteArray)) := (blk_cell BK235.out 0).trans rfl
         have hcz16_1 : w11.cell? ⟨gb235, 1, none⟩ = some (.int .i32 0) := (blk_cell BK235.out 1).trans rfl
         have hcz16_2 : w11.cell? ⟨gb235, 2, none⟩ = some (.int .i32 0) := (blk_cell BK235.out 2).trans rfl
         have hcz16_3 : w11.cell? ⟨gb235, 3, none⟩ = some (.bool false) := (blk_cell BK235.out 3).trans rfl
         have hfz16_0 := blk_frozen BK235.out 0
         have hfz16_1 := blk_frozen BK235.out 1
         have hfz16_2 := blk_frozen BK235.out 2
         have hfz16_3 := blk_frozen BK235.out 3
         go_wp2
         go_meet
         case rel => (try rw [← Nbq13.out]); exact ⟨_, (false), (by first | rfl | (simp; done) | (simp [*]; done) | (unfold bt; split <;> first | rfl | (exfalso; simp_all; done) | (exfalso; simp_all; omega))), H', ⟨by have := HK1.out; first | omega | exact Nat.le_refl _⟩, ⟨by (with_reducible repeat (first | apply Kd.R_alloc | apply Kd.R_drewN | apply Kd.R_drew)); exact Kd.R_mono (Kd.R_far (p := ⟨gb235, 3, none⟩) (Kd.R_far (p := ⟨gb235, 2, none⟩) (Kd.R_far (p := ⟨gb235, 1, none⟩) (Kd.R_far (p := ⟨gb235, 0, none⟩) (Kd.R_types HO_5.out BK235.out (by decide)) (fun _ hk => hk.2) (.string ((rd_T98 t231 x11_1).f0))) (fun _ hk => hk.2) (.int .i32 ((rd_T98 t231 x11_1).f1))) (fun _ hk => hk.2) (.int .i32 ((rd_T98 t231 x11_1).f2))) (fun _ hk => hk.2) (.bool (false))) (fun _ hk => trivial)⟩, ⟨by (with_reducible repeat (first | apply Kd.R_alloc | apply Kd.R_drewN | apply Kd.R_drew)); exact Kd.R_mono (Kd.R_far (p := ⟨gb235, 3, none⟩) (Kd.R_far (p := ⟨gb235, 2, none⟩) (Kd.R_far (p := ⟨gb235, 1, none⟩) (Kd.R_far (p := ⟨gb235, 0, none⟩) (Kd.R_mono HO_9.out (fun k_ hk => (⟨hk, hk.2⟩ : _ ∧ k_ ≠ gb235))) (fun _ hk => hk.2) (.string ((rd_T98 t231 x11_1).f0))) (fun _ hk => hk.2) (.int .i32 ((rd_T98 t231 x11_1).f1))) (fun _ hk => hk.2) (.int .i32 ((rd_T98 t231 x11_1).f2))) (fun _ hk => hk.2) (.bool (false))) (fun _ hk => hk.1.2)⟩, ⟨by (with_reducible repeat (first | refine blk_drewN ?_ _ | refine blk_drew ?_ | refine blk_alloc ?_ _)); refine blk_put (cs := #[.string ((rd_T98 t231 x11_1).f0), .int .i32 ((rd_T98 t231 x11_1).f1), .int .i32 ((rd_T98 t231 x11_1).f2), .bool false]) ?_ 3 _ rfl; (with_reducible repeat (first | refine blk_drewN ?_ _ | refine blk_drew ?_ | refine blk_alloc ?_ _)); refine blk_put (cs := #[.string ((rd_T98 t231 x11_1).f0), .int .i32 ((rd_T98 t231 x11_1).f1), .int .i32 0, .bool false]) ?_ 2 _ rfl; (with_reducible repeat (first | refine blk_drewN ?_ _ | refine blk_drew ?_ | refine blk_alloc ?_ _)); refine blk_put (cs := #[.string ((rd_T98 t231 x11_1).f0), .int .i32 0, .int .i32 0, .bool false]) ?_ 1 _ rfl; (with_reducible repeat (first | refine blk_drewN ?_ _ | refine blk_drew ?_ | refine blk_alloc ?_ _)); refine blk_put (cs := #[.string (⟨#[]⟩ : ByteArray), .int .i32 0, .int .i32 0, .bool false]) ?_ 0 _ rfl; (with_reducible repeat (first | refine blk_drewN ?_ _ | refine blk_drew ?_ | refine blk_alloc ?_ _)); exact BK235.out⟩, ⟨by repeat (first | (with_reducible first | exact HB.out | apply below_alloc | apply pw_below_drewN | apply below_drew1 | refine below_set ?_ GE235.out) | exact HB.out)⟩⟩
       case rest =>
        clear HC10
        try clear c1
        try clear q1
        try clear p2
        try clear q2
        try clear hx2
        try clear c4
        try clear c5
        try clear c5b0
        try clear c6
        try clear c6b0
        try clear p6
        try clear c7
        try clear c7b0
        try clear c9
        try clear q13
        try clear c14
        try clear hcz12_0
        try clear hcz12_1
        try clear hcz12_2
        try clear hcz12_3
        try clear hcz15_0
        try clear hcz15_1
        try clear hcz15_2
        try clear hcz15_3
        try clear hcz16_0
        try clear hcz16_1
        try clear hcz16_2
        try clear hcz16_3
        try clear hfz12_0
        try clear hfz12_1
        try clear hfz12_2
        try clear hfz12_3
        try clear hfz15_0
        try clear hfz15_1
        try clear hfz15_2
        try clear hfz15_3
        try clear hfz16_0
        try clear hfz16_1
        try clear hfz16_2
        try clear hfz16_3
        try clear hx234_0
        try clear hx234_1
        try clear hx234_2
        try clear hx234_3
        try clear p2
        try clear p234
        try clear q234
        obtain ⟨kq, x29_9, rfl, HA, HJ9, HO_5, HO_9, BK235, HB⟩ := hcut
        cases kq with
        | zero => exact absurd HA.out (by simp [sieveref05_Longest.j1])
        | succ kj9 =>
         have H := HA.out
         clear HA
         simp only [sieveref05_Longest.j1] at H
         by_cases c17 : x29_9 = true
         ·subst c17
          have H1 : ((sieveref05_says.f ((rd_T98 t231 x11_1).f0) ((rd_T98 t231 x11_1).f1) ((rd_T98 t231 x11_1).f2) ((rd_T98 t231 x11_1).f3)).bind fun t237 => (if (((rd_T98 t231 x11_1).f0).size : Int) < (a0.size : Int) then (if 0 ≤ (((rd_T98 t231 x11_1).f0).size : Int) then (if (bt a0 (((rd_T98 t231 x11_1).f0).size : Int)) = 59 then (if (wrap64 ((((rd_T98 t231 x11_1).f0).size : Int) + 1)) > (((rd_T98 t231 x11_1).f0).size : Int) then ((sieveref05_says.f ((rd_T98 t231 x11_1).f0) ((rd_T98 t231 x11_1).f1) ((rd_T98 t231 x11_1).f2) ((rd_T98 t231 x11_1).f3)).bind fun t240 => (sieveref05_Longest.l0 kj9 a0 (wrap64 ((((rd_T98 t231 x11_1).f0).size : Int) + 1)) t240 t231 (t231.length : Int) (wrap64 (x11_1 + 1)))) else (sieveref05_Longest.l0 kj9 a0 (((rd_T98 t231 x11_1).f0).size : Int) t237 t231 (t231.length : Int) (wrap64 (x11_1 + 1)))) else (sieveref05_Longest.l0 kj9 a0 (((rd_T98 t231 x11_1).f0).size : Int) t237 t231 (t231.length : Int) (wrap64 (x11_1 + 1)))) else (none)) else (sieveref05_Longest.l0 kj9 a0 (((rd_T98 t231 x11_1).f0).size : Int) t237 t231 (t231.length : Int) (wrap64 (x11_1 + 1))))) = some (r1, r2) := by rw [if_pos rfl] at H; exact H
          clear H
          have H := H1
          clear H1
          replace H := Option.bind_eq_some_iff.mp H
          obtain ⟨t237, A180, H⟩ := H
          replace H : (if (((rd_T98 t231 x11_1).f0).size : Int) < (a0.size : Int) then (if 0 ≤ (((rd_T98 t231 x11_1).f0).size : Int) then (if (bt a0 (((rd_T98 t231 x11_1).f0).size : Int)) = 59 then (if (wrap64 ((((rd_T98 t231 x11_1).f0).size : Int) + 1)) > (((rd_T98 t231 x11_1).f0).size : Int) then ((sieveref05_says.f ((rd_T98 t231 x11_1).f0) ((rd_T98 t231 x11_1).f1) ((rd_T98 t231 x11_1).f2) ((rd_T98 t231 x11_1).f3)).bind fun t240 => (sieveref05_Longest.l0 kj9 a0 (wrap64 ((((rd_T98 t231 x11_1).f0).size : Int) + 1)) t240 t231 (t231.length : Int) (wrap64 (x11_1 + 1)))) else (sieveref05_Longest.l0 kj9 a0 (((rd_T98 t231 x11_1).f0).size : Int) t237 t231 (t231.length : Int) (wrap64 (x11_1 + 1)))) else (sieveref05_Longest.l0 kj9 a0 (((rd_T98 t231 x11_1).f0).size : Int) t237 t231 (t231.length : Int) (wrap64 (x11_1 + 1)))) else (none)) else (sieveref05_Longest.l0 kj9 a0 (((rd_T98 t231 x11_1).f0).size : Int) t237 t231 (t231.length : Int) (wrap64 (x11_1 + 1)))) = some (r1, r2) := H
          have A18 := Aside0.mk A180
          clear A180
          by_cases c19 : (((rd_T98 t231 x11_1).f0).size : Int) < (a0.size : Int)
          ·rw [if_pos c19] at H
           have c19b0 : decide ((((rd_T98 t231 x11_1).f0).size : Int) < (a0.size : Int)) = true := decide_eq_true c19
           have c19b1 : decide (((rd_T98 t231 x11_1).f0).size < a0.size) = true := decide_eq_true (Int.ofNat_lt.mp c19)
           clear c19
           by_cases c20 : 0 ≤ (((rd_T98 t231 x11_1).f0).size : Int)
           ·rw [if_pos c20] at H
            have c20b0 : decide (0 ≤ (((rd_T98 t231 x11_1).f0).size : Int)) = true := decide_eq_true c20
            have c20b1 : decide (0 ≤ ((rd_T98 t231 x11_1).f0).size) = true := decide_eq_true (by omega)
            clear c20
            by_cases c22 : (bt a0 (((rd_T98 t231 x11_1).f0).size : Int)) = 59
            ·rw [if_pos c22] at H
             have c22b0 : ((bt a0 (((rd_T98 t231 x11_1).f0).size : Int)) == 59) = true := beq_iff_eq.mpr c22
             have c22b1 : ((bt a0 (((rd_T98 t231 x11_1).f0).size : Int)) != 59) = false := bne_eq_false_iff_eq.mpr c22
             clear c22
             by_cases c23 : (wrap64 ((((rd_T98 t231 x11_1).f0).size : Int) + 1)) > (((rd_T98 t231 x11_1).f0).size : Int)
             ·rw [if_pos c23] at H
              have c23b0 : decide ((((rd_T98 t231 x11_1).f0).size : Int) < (wrap64 ((((rd_T98 t231 x11_1).f0).size : Int) + 1))) = true := decide_eq_true c23
              clear c23
              replace H := Option.bind_eq_some_iff.mp H
              obtain ⟨t240, A240, H⟩ := H
              replace H : (sieveref05_Longest.l0 kj9 a0 (wrap64 ((((rd_T98 t231 x11_1).f0).size : Int) + 1)) t240 t231 (t231.length : Int) (wrap64 (x11_1 + 1))) = some (r1, r2) := H
              have A24 := Aside0.mk A240
              clear A240
              have H' := Aside0.mk H
              clear H
              have hcz25_0 : wc.cell? ⟨gb235, 0, none⟩ = some (.string ((rd_T98 t231 x11_1).f0)) := (blk_cell BK235.out 0).trans rfl
              have hcz25_1 : wc.cell? ⟨gb235, 1, none⟩ = some (.int .i32 ((rd_T98 t231 x11_1).f1)) := (blk_cell BK235.out 1).trans rfl
              have hcz25_2 : wc.cell? ⟨gb235, 2, none⟩ = some (.int .i32 ((rd_T98 t231 x11_1).f2)) := (blk_cell BK235.out 2).trans rfl
              have hcz25_3 : wc.cell? ⟨gb235, 3, none⟩ = some (.bool ((rd_T98 t231 x11_1).f3)) := (blk_cell BK235.out 3).trans rfl
              have hfz25_0 := blk_frozen BK235.out 0
              have hfz25_1 := blk_frozen BK235.out 1
              have hfz25_2 := blk_frozen BK235.out 2
              have hfz25_3 := blk_frozen BK235.out 3
              go_wp2_with (first | ((with_reducible refine gate_callee (f := 68) rfl ?_); refine goesL_ (some 32) rfl rfl Try.func68 (by kernel_rfl) rfl #[.agg #[.string ((rd_T98 t231 x11_1).f0), .int .i32 ((rd_T98 t231 x11_1).f1), .int .i32 ((rd_T98 t231 x11_1).f2), .bool ((rd_T98 t231 x11_1).f3)]] rfl (by (try simp only [List.map_toArray, List.map_cons, List.map_nil]); first | done | rfl | (simp only [List.length_drop, List.length_take]; rfl) | (simp [*] <;> rfl)) ?_; (with_reducible refine (sieveref05_says.calls ((rd_T98 t231 x11_1).f0) ((rd_T98 t231 x11_1).f1) ((rd_T98 t231 x11_1).f2) ((rd_T98 t231 x11_1).f3) t237 _ A18.out).mono ?_); rintro e w26 ⟨v238, rfl, ho0, hb⟩; refine ⟨_, rfl, ?_⟩; have n0_ := Aside0.mk (Kd.R_elder' (by (with_reducible repeat (first | apply Kd.R_alloc | apply Kd.R_drewN | apply Kd.R_drew)); exact HO_5.out) (Kd.R_base ho0) hb); have n1_ := Aside0.mk (Kd.R_below (by (with_reducible repeat (first | apply Kd.R_alloc | apply Kd.R_drewN | apply Kd.R_drew)); exact HO_9.out) hb); have n2_ := Aside0.mk (Kd.R_lower (Kd.R_new' ho0 (Kd.R_lt (by (with_reducible repeat (first | apply Kd.R_alloc | apply Kd.R_drewN | apply Kd.R_drew)); exact HO_5.out))) (below_size (by repeat (first | (with_reducible first | exact HB.out | apply below_alloc | apply pw_below_drewN | apply below_drew1 | refine below_set ?_ GE235.out) | exact HB.out)))); have n3_ := Aside0.mk (blk_below (g := gb235) (o := .cells #[.string ((rd_T98 t231 x11_1).f0), .int .i32 ((rd_T98 t231 x11_1).f1), .int .i32 ((rd_T98 t231 x11_1).f2), .bool ((rd_T98 t231 x11_1).f3)] 98 (0, 0)) (by (with_reducible repeat (first | refine blk_drewN ?_ _ | refine blk_drew ?_ | refine blk_alloc ?_ _)); exact BK235.out) hb); have n4_ := Aside0.mk (below_step (by repeat (first | (with_reducible first | exact HB.out | apply below_alloc | apply pw_below_drewN | apply below_drew1 | refine below_set ?_ GE235.out) | exact HB.out)) hb); clear HO_5; clear HO_9; clear BK235; clear HB; have HO_5 := n0_; have HO_9 := n1_; have HO239 := n2_; have BK235 := n3_; have HB := n4_; clear n0_ n1_ n2_ n3_ n4_; (try clear hb); (try clear hb2); (try clear hk); (try clear hi); (try clear ho0); have p21 : 0 ≤ ((((rd_T98 t231 x11_1).f0).size : Int) : Int) := of_decide_eq_true (by first | (with_reducible assumption) | assumption); have q21 : (((rd_T98 t231 x11_1).f0).size : Int) < (a0.size : Int) := of_decide_eq_true (by first | (with_reducible assumption) | assumption); have hx21 := bt_at a0 (((rd_T98 t231 x11_1).f0).size : Int); have hx21z : ∀ h : ((rd_T98 t231 x11_1).f0).size < a0.size, ((a0[((rd_T98 t231 x11_1).f0).size]'h).toNat : Int) = bt a0 (((rd_T98 t231 x11_1).f0).size : Int) := bt_at a0 (((rd_T98 t231 x11_1).f0).size : Int); replace p21 := eq_true p21; replace q21 := eq_true q21; have hcz27_0 : w26.cell? ⟨gb235, 0, none⟩ = some (.string ((rd_T98 t231 x11_1).f0)) := (blk_cell BK235.out 0).trans rfl; have hcz27_1 : w26.cell? ⟨gb235, 1, none⟩ = some (.int .i32 ((rd_T98 t231 x11_1).f1)) := (blk_cell BK235.out 1).trans rfl; have hcz27_2 : w26.cell? ⟨gb235, 2, none⟩ = some (.int .i32 ((rd_T98 t231 x11_1).f2)) := (blk_cell BK235.out 2).trans rfl; have hcz27_3 : w26.cell? ⟨gb235, 3, none⟩ = some (.bool ((rd_T98 t231 x11_1).f3)) := (blk_cell BK235.out 3).trans rfl; have hfz27_0 := blk_frozen BK235.out 0; have hfz27_1 := blk_frozen BK235.out 1; have hfz27_2 := blk_frozen BK235.out 2; have hfz27_3 := blk_frozen BK235.out 3) | ((with_reducible refine gate_callee (f := 68) rfl ?_); refine goesL_ (some 52) rfl rfl Try.func68 (by kernel_rfl) rfl #[.agg #[.string ((rd_T98 t231 x11_1).f0), .int .i32 ((rd_T98 t231 x11_1).f1), .int .i32 ((rd_T98 t231 x11_1).f2), .bool ((rd_T98 t231 x11_1).f3)]] rfl (by (try simp only [List.map_toArray, List.map_cons, List.map_nil]); first | done | rfl | (simp only [List.length_drop, List.length_take]; rfl) | (simp [*] <;> rfl)) ?_; (with_reducible refine (sieveref05_says.calls ((rd_T98 t231 x11_1).f0) ((rd_T98 t231 x11_1).f1) ((rd_T98 t231 x11_1).f2) ((rd_T98 t231 x11_1).f3) t240 _ A24.out).mono ?_); rintro e w28 ⟨v241, rfl, ho0, hb⟩; refine ⟨_, rfl, ?_⟩; have n0_ := Aside0.mk (Kd.R_elder' (by (with_reducible repeat (first | apply Kd.R_alloc | apply Kd.R_drewN | apply Kd.R_drew)); exact HO_5.out) (Kd.R_base ho0) hb); have n1_ := Aside0.mk (Kd.R_below (by (with_reducible repeat (first | apply Kd.R_alloc | apply Kd.R_drewN | apply Kd.R_drew)); exact HO_9.out) hb); have n2_ := Aside0.mk (Kd.R_elder' (by (with_reducible repeat (first | apply Kd.R_alloc | apply Kd.R_drewN | apply Kd.R_drew)); exact HO239.out) (Kd.R_base ho0) hb); have n3_ := Aside0.mk (Kd.R_lower (Kd.R_new' (Kd.R_new' ho0 (Kd.R_lt (by (with_reducible repeat (first | apply Kd.R_alloc | apply Kd.R_drewN | apply Kd.R_drew)); exact HO_5.out))) (Kd.R_lt (by (with_reducible repeat (first | apply Kd.R_alloc | apply Kd.R_drewN | apply Kd.R_drew)); exact HO239.out))) (below_size (by repeat (first | (with_reducible first | exact HB.out | apply below_alloc | apply pw_below_drewN | apply below_drew1 | refine below_set ?_ GE235.out) | exact HB.out)))); have n4_ := Aside0.mk (blk_below (g := gb235) (o := .cells #[.string ((rd_T98 t231 x11_1).f0), .int .i32 ((rd_T98 t231 x11_1).f1), .int .i32 ((rd_T98 t231 x11_1).f2), .bool ((rd_T98 t231 x11_1).f3)] 98 (0, 0)) (by (with_reducible repeat (first | refine blk_drewN ?_ _ | refine blk_drew ?_ | refine blk_alloc ?_ _)); exact BK235.out) hb); have n5_ := Aside0.mk (below_step (by repeat (first | (with_reducible first | exact HB.out | apply below_alloc | apply pw_below_drewN | apply below_drew1 | refine below_set ?_ GE235.out) | exact HB.out)) hb); clear HO_5; clear HO_9; clear HO239; clear BK235; clear HB; have HO_5 := n0_; have HO_9 := n1_; have HO239 := n2_; have HO242 := n3_; have BK235 := n4_; have HB := n5_; clear n0_ n1_ n2_ n3_ n4_ n5_; (try clear hb); (try clear hb2); (try clear hk); (try clear hi); (try clear ho0)))
              go_roundg kj9
              case measure => have := HK1.out; have := HJ9.out; omega
              case rel => exact ⟨(wrap64 ((((rd_T98 t231 x11_1).f0).size : Int) + 1)), (t240), (wrap64 (x11_1 + 1)), (by first | rfl | (simp; done) | (simp [*]; done) | (unfold bt; split <;> first | rfl | (exfalso; simp_all; done) | (exfalso; simp_all; omega))), (by first | rfl | (simp; done) | (simp [*]; done) | (unfold bt; split <;> first | rfl | (exfalso; simp_all; done) | (exfalso; simp_all; omega))), H', ⟨by have := HK1.out; have := HJ9.out; omega⟩, ⟨by (with_reducible repeat (first | apply Kd.R_alloc | apply Kd.R_drewN | apply Kd.R_drew)); exact Kd.R_mono HO242.out (fun _ hk => trivial)⟩, ⟨by (with_reducible repeat (first | apply Kd.R_alloc | apply Kd.R_drewN | apply Kd.R_drew)); exact Kd.R_mono HO_9.out (fun _ hk => trivial)⟩, ⟨by repeat (first | (with_reducible first | exact HB.out | apply below_alloc | apply pw_below_drewN | apply below_drew1 | refine below_set ?_ GE235.out) | exact HB.out)⟩⟩
             ·rw [if_neg c23] at H
              have c23b0 : decide ((((rd_T98 t231 x11_1).f0).size : Int) < (wrap64 ((((rd_T98 t231 x11_1).f0).size : Int) + 1))) = false := decide_eq_false c23
              clear c23
              have H' := Aside0.mk H
              clear H
              have hcz29_0 : wc.cell? ⟨gb235, 0, none⟩ = some (.string ((rd_T98 t231 x11_1).f0)) := (blk_cell BK235.out 0).trans rfl
              have hcz29_1 : wc.cell? ⟨gb235, 1, none⟩ = some (.int .i32 ((rd_T98 t231 x11_1).f1)) := (blk_cell BK235.out 1).trans rfl
              have hcz29_2 : wc.cell? ⟨gb235, 2, none⟩ = some (.int .i32 ((rd_T98 t231 x11_1).f2)) := (blk_cell BK235.out 2).trans rfl
              have hcz29_3 : wc.cell? ⟨gb235, 3, none⟩ = some (.bool ((rd_T98 t231 x11_1).f3)) := (blk_cell BK235.out 3).trans rfl
              have hfz29_0 := blk_frozen BK235.out 0
              have hfz29_1 := blk_frozen BK235.out 1
              have hfz29_2 := blk_frozen BK235.out 2
              have hfz29_3 := blk_frozen BK235.out 3
              go_wp2_with (first | ((with_reducible refine gate_callee (f := 68) rfl ?_); refine goesL_ (some 32) rfl rfl Try.func68 (by kernel_rfl) rfl #[.agg #[.string ((rd_T98 t231 x11_1).f0), .int .i32 ((rd_T98 t231 x11_1).f1), .int .i32 ((rd_T98 t231 x11_1).f2), .bool ((rd_T98 t231 x11_1).f3)]] rfl (by (try simp only [List.map_toArray, List.map_cons, List.map_nil]); first | done | rfl | (simp only [List.length_drop, List.length_take]; rfl) | (simp [*] <;> rfl)) ?_; (with_reducible refine (sieveref05_says.calls ((rd_T98 t231 x11_1).f0) ((rd_T98 t231 x11_1).f1) ((rd_T98 t231 x11_1).f2) ((rd_T98 t231 x11_1).f3) t237 _ A18.out).mono ?_); rintro e w30 ⟨v238, rfl, ho0, hb⟩; refine ⟨_, rfl, ?_⟩; have n0_ := Aside0.mk (Kd.R_elder' (by (with_reducible repeat (first | apply Kd.R_alloc | apply Kd.R_drewN | apply Kd.R_drew)); exact HO_5.out) (Kd.R_base ho0) hb); have n1_ := Aside0.mk (Kd.R_below (by (with_reducible repeat (first | apply Kd.R_alloc | apply Kd.R_drewN | apply Kd.R_drew)); exact HO_9.out) hb); have n2_ := Aside0.mk (Kd.R_lower (Kd.R_new' ho0 (Kd.R_lt (by (with_reducible repeat (first | apply Kd.R_alloc | apply Kd.R_drewN | apply Kd.R_drew)); exact HO_5.out))) (below_size (by repeat (first | (with_reducible first | exact HB.out | apply below_alloc | apply pw_below_drewN | apply below_drew1 | refine below_set ?_ GE235.out) | exact HB.out)))); have n3_ := Aside0.mk (blk_below (g := gb235) (o := .cells #[.string ((rd_T98 t231 x11_1).f0), .int .i32 ((rd_T98 t231 x11_1).f1), .int .i32 ((rd_T98 t231 x11_1).f2), .bool ((rd_T98 t231 x11_1).f3)] 98 (0, 0)) (by (with_reducible repeat (first | refine blk_drewN ?_ _ | refine blk_drew ?_ | refine blk_alloc ?_ _)); exact BK235.out) hb); have n4_ := Aside0.mk (below_step (by repeat (first | (with_reducible first | exact HB.out | apply below_alloc | apply pw_below_drewN | apply below_drew1 | refine below_set ?_ GE235.out) | exact HB.out)) hb); clear HO_5; clear HO_9; clear BK235; clear HB; have HO_5 := n0_; have HO_9 := n1_; have HO239 := n2_; have BK235 := n3_; have HB := n4_; clear n0_ n1_ n2_ n3_ n4_; (try clear hb); (try clear hb2); (try clear hk); (try clear hi); (try clear ho0); have p21 : 0 ≤ ((((rd_T98 t231 x11_1).f0).size : Int) : Int) := of_decide_eq_true (by first | (with_reducible assumption) | assumption); have q21 : (((rd_T98 t231 x11_1).f0).size : Int) < (a0.size : Int) := of_decide_eq_true (by first | (with_reducible assumption) | assumption); have hx21 := bt_at a0 (((rd_T98 t231 x11_1).f0).size : Int); have hx21z : ∀ h : ((rd_T98 t231 x11_1).f0).size < a0.size, ((a0[((rd_T98 t231 x11_1).f0).size]'h).toNat : Int) = bt a0 (((rd_T98 t231 x11_1).f0).size : Int) := bt_at a0 (((rd_T98 t231 x11_1).f0).size : Int); replace p21 := eq_true p21; replace q21 := eq_true q21))
              go_roundg kj9
              case measure => have := HK1.out; have := HJ9.out; omega
              case rel => exact ⟨((((rd_T98 t231 x11_1).f0).size : Int)), (t237), (wrap64 (x11_1 + 1)), (by first | rfl | (simp; done) | (simp [*]; done) | (unfold bt; split <;> first | rfl | (exfalso; simp_all; done) | (exfalso; simp_all; omega))), (by first | rfl | (simp; done) | (simp [*]; done) | (unfold bt; split <;> first | rfl | (exfalso; simp_all; done) | (exfalso; simp_all; omega))), H', ⟨by have := HK1.out; have := HJ9.out; omega⟩, ⟨by (with_reducible repeat (first | apply Kd.R_alloc | apply Kd.R_drewN | apply Kd.R_drew)); exact Kd.R_mono HO239.out (fun _ hk => trivial)⟩, ⟨by (with_reducible repeat (first | apply Kd.R_alloc | apply Kd.R_drewN | apply Kd.R_drew)); exact Kd.R_mono HO_9.out (fun _ hk => trivial)⟩, ⟨by repeat (first | (with_reducible first | exact HB.out | apply below_alloc | apply pw_below_drewN | apply below_drew1 | refine below_set ?_ GE235.out) | exact HB.out)⟩⟩
            ·rw [if_neg c22] at H
             have c22b0 : ((bt a0 (((rd_T98 t231 x11_1).f0).size : Int)) == 59) = false := beq_eq_false_iff_ne.mpr c22
             have c22b1 : ((bt a0 (((rd_T98 t231 x11_1).f0).size : Int)) != 59) = true := bne_iff_ne.mpr c22
             have H' := Aside0.mk H
             clear H
             have hcz31_0 : wc.cell? ⟨gb235, 0, none⟩ = some (.string ((rd_T98 t231 x11_1).f0)) := (blk_cell BK235.out 0).trans rfl
             have hcz31_1 : wc.cell? ⟨gb235, 1, none⟩ = some (.int .i32 ((rd_T98 t231 x11_1).f1)) := (blk_cell BK235.out 1).trans rfl
             have hcz31_2 : wc.cell? ⟨gb235, 2, none⟩ = some (.int .i32 ((rd_T98 t231 x11_1).f2)) := (blk_cell BK235.out 2).trans rfl
             have hcz31_3 : wc.cell? ⟨gb235, 3, none⟩ = some (.bool ((rd_T98 t231 x11_1).f3)) := (blk_cell BK235.out 3).trans rfl
             have hfz31_0 := blk_frozen BK235.out 0
             have hfz31_1 := blk_frozen BK235.out 1
             have hfz31_2 := blk_frozen BK235.out 2
             have hfz31_3 := blk_frozen BK235.out 3
             go_wp2_with (first | ((with_reducible refine gate_callee (f := 68) rfl ?_); refine goesL_ (some 32) rfl rfl Try.func68 (by kernel_rfl) rfl #[.agg #[.string ((rd_T98 t231 x11_1).f0), .int .i32 ((rd_T98 t231 x11_1).f1), .int .i32 ((rd_T98 t231 x11_1).f2), .bool ((rd_T98 t231 x11_1).f3)]] rfl (by (try simp only [List.map_toArray, List.map_cons, List.map_nil]); first | done | rfl | (simp only [List.length_drop, List.length_take]; rfl) | (simp [*] <;> rfl)) ?_; (with_reducible refine (sieveref05_says.calls ((rd_T98 t231 x11_1).f0) ((rd_T98 t231 x11_1).f1) ((rd_T98 t231 x11_1).f2) ((rd_T98 t231 x11_1).f3) t237 _ A18.out).mono ?_); rintro e w32 ⟨v238, rfl, ho0, hb⟩; refine ⟨_, rfl, ?_⟩; have n0_ := Aside0.mk (Kd.R_elder' (by (with_reducible repeat (first | apply Kd.R_alloc | apply Kd.R_drewN | apply Kd.R_drew)); exact HO_5.out) (Kd.R_base ho0) hb); have n1_ := Aside0.mk (Kd.R_below (by (with_reducible repeat (first | apply Kd.R_alloc | apply Kd.R_drewN | apply Kd.R_drew)); exact HO_9.out) hb); have n2_ := Aside0.mk (Kd.R_lower (Kd.R_new' ho0 (Kd.R_lt (by (with_reducible repeat (first | apply Kd.R_alloc | apply Kd.R_drewN | apply Kd.R_drew)); exact HO_5.out))) (below_size (by repeat (first | (with_reducible first | exact HB.out | apply below_alloc | apply pw_below_drewN | apply below_drew1 | refine below_set ?_ GE235.out) | exact HB.out)))); have n3_ := Aside0.mk (blk_below (g := gb235) (o := .cells #[.string ((rd_T98 t231 x11_1).f0), .int .i32 ((rd_T98 t231 x11_1).f1), .int .i32 ((rd_T98 t231 x11_1).f2), .bool ((rd_T98 t231 x11_1).f3)] 98 (0, 0)) (by (with_reducible repeat (first | refine blk_drewN ?_ _ | refine blk_drew ?_ | refine blk_alloc ?_ _)); exact BK235.out) hb); have n4_ := Aside0.mk (below_step (by repeat (first | (with_reducible first | exact HB.out | apply below_alloc | apply pw_below_drewN | apply below_drew1 | refine below_set ?_ GE235.out) | exact HB.out)) hb); clear HO_5; clear HO_9; clear BK235; clear HB; have HO_5 := n0_; have HO_9 := n1_; have HO239 := n2_; have BK235 := n3_; have HB := n4_; clear n0_ n1_ n2_ n3_ n4_; (try clear hb); (try clear hb2); (try clear hk); (try clear hi); (try clear ho0); have p21 : 0 ≤ ((((rd_T98 t231 x11_1).f0).size : Int) : Int) := of_decide_eq_true (by first | (with_reducible assumption) | assumption); have q21 : (((rd_T98 t231 x11_1).f0).size : Int) < (a0.size : Int) := of_decide_eq_true (by first | (with_reducible assumption) | assumption); have hx21 := bt_at a0 (((rd_T98 t231 x11_1).f0).size : Int); have hx21z : ∀ h : ((rd_T98 t231 x11_1).f0).size < a0.size, ((a0[((rd_T98 t231 x11_1).f0).size]'h).toNat : Int) = bt a0 (((rd_T98 t231 x11_1).f0).size : Int) := bt_at a0 (((rd_T98 t231 x11_1).f0).size : Int); replace p21 := eq_true p21; replace q21 := eq_true q21))
             go_roundg kj9
             case measure => have := HK1.out; have := HJ9.out; omega
             case rel => exact ⟨((((rd_T98 t231 x11_1).f0).size : Int)), (t237), (wrap64 (x11_1 + 1)), (by first | rfl | (simp; done) | (simp [*]; done) | (unfold bt; split <;> first | rfl | (exfalso; simp_all; done) | (exfalso; simp_all; omega))), (by first | rfl | (simp; done) | (simp [*]; done) | (unfold bt; split <;> first | rfl | (exfalso; simp_all; done) | (exfalso; simp_all; omega))), H', ⟨by have := HK1.out; have := HJ9.out; omega⟩, ⟨by (with_reducible repeat (first | apply Kd.R_alloc | apply Kd.R_drewN | apply Kd.R_drew)); exact Kd.R_mono HO239.out (fun _ hk => trivial)⟩, ⟨by (with_reducible repeat (first | apply Kd.R_alloc | apply Kd.R_drewN | apply Kd.R_drew)); exact Kd.R_mono HO_9.out (fun _ hk => trivial)⟩, ⟨by repeat (first | (with_reducible first | exact HB.out | apply below_alloc | apply pw_below_drewN | apply below_drew1 | refine below_set ?_ GE235.out) | exact HB.out)⟩⟩
           ·rw [if_neg c20] at H
            exact absurd H (by simp)
          ·rw [if_neg c19] at H
           have c19b0 : decide ((((rd_T98 t231 x11_1).f0).size : Int) < (a0.size : Int)) = false := decide_eq_false c19
           have c19b1 : decide (((rd_T98 t231 x11_1).f0).size < a0.size) = false := decide_eq_false (fun h => c19 (Int.ofNat_lt.mpr h))
           clear c19
           have H' := Aside0.mk H
           clear H
           have hcz33_0 : wc.cell? ⟨gb235, 0, none⟩ = some (.string ((rd_T98 t231 x11_1).f0)) := (blk_cell BK235.out 0).trans rfl
           have hcz33_1 : wc.cell? ⟨gb235, 1, none⟩ = some (.int .i32 ((rd_T98 t231 x11_1).f1)) := (blk_cell BK235.out 1).trans rfl
           have hcz33_2 : wc.cell? ⟨gb235, 2, none⟩ = some (.int .i32 ((rd_T98 t231 x11_1).f2)) := (blk_cell BK235.out 2).trans rfl
           have hcz33_3 : wc.cell? ⟨gb235, 3, none⟩ = some (.bool ((rd_T98 t231 x11_1).f3)) := (blk_cell BK235.out 3).trans rfl
           have hfz33_0 := blk_frozen BK235.out 0
           have hfz33_1 := blk_frozen BK235.out 1
           have hfz33_2 := blk_frozen BK235.out 2
           have hfz33_3 := blk_frozen BK235.out 3
           go_wp2_with (first | ((with_reducible refine gate_callee (f := 68) rfl ?_); refine goesL_ (some 32) rfl rfl Try.func68 (by kernel_rfl) rfl #[.agg #[.string ((rd_T98 t231 x11_1).f0), .int .i32 ((rd_T98 t231 x11_1).f1), .int .i32 ((rd_T98 t231 x11_1).f2), .bool ((rd_T98 t231 x11_1).f3)]] rfl (by (try simp only [List.map_toArray, List.map_cons, List.map_nil]); first | done | rfl | (simp only [List.length_drop, List.length_take]; rfl) | (simp [*] <;> rfl)) ?_; (with_reducible refine (sieveref05_says.calls ((rd_T98 t231 x11_1).f0) ((rd_T98 t231 x11_1).f1) ((rd_T98 t231 x11_1).f2) ((rd_T98 t231 x11_1).f3) t237 _ A18.out).mono ?_); rintro e w34 ⟨v238, rfl, ho0, hb⟩; refine ⟨_, rfl, ?_⟩; have n0_ := Aside0.mk (Kd.R_elder' (by (with_reducible repeat (first | apply Kd.R_alloc | apply Kd.R_drewN | apply Kd.R_drew)); exact HO_5.out) (Kd.R_base ho0) hb); have n1_ := Aside0.mk (Kd.R_below (by (with_reducible repeat (first | apply Kd.R_alloc | apply Kd.R_drewN | apply Kd.R_drew)); exact HO_9.out) hb); have n2_ := Aside0.mk (Kd.R_lower (Kd.R_new' ho0 (Kd.R_lt (by (with_reducible repeat (first | apply Kd.R_alloc | apply Kd.R_drewN | apply Kd.R_drew)); exact HO_5.out))) (below_size (by repeat (first | (with_reducible first | exact HB.out | apply below_alloc | apply pw_below_drewN | apply below_drew1 | refine below_set ?_ GE235.out) | exact HB.out)))); have n3_ := Aside0.mk (blk_below (g := gb235) (o := .cells #[.string ((rd_T98 t231 x11_1).f0), .int .i32 ((rd_T98 t231 x11_1).f1), .int .i32 ((rd_T98 t231 x11_1).f2), .bool ((rd_T98 t231 x11_1).f3)] 98 (0, 0)) (by (with_reducible repeat (first | refine blk_drewN ?_ _ | refine blk_drew ?_ | refine blk_alloc ?_ _)); exact BK235.out) hb); have n4_ := Aside0.mk (below_step (by repeat (first | (with_reducible first | exact HB.out | apply below_alloc | apply pw_below_drewN | apply below_drew1 | refine below_set ?_ GE235.out) | exact HB.out)) hb); clear HO_5; clear HO_9; clear BK235; clear HB; have HO_5 := n0_; have HO_9 := n1_; have HO239 := n2_; have BK235 := n3_; have HB := n4_; clear n0_ n1_ n2_ n3_ n4_; (try clear hb); (try clear hb2); (try clear hk); (try clear hi); (try clear ho0)))
           go_roundg kj9
           case measure => have := HK1.out; have := HJ9.out; omega
           case rel => exact ⟨((((rd_T98 t231 x11_1).f0).size : Int)), (t237), (wrap64 (x11_1 + 1)), (by first | rfl | (simp; done) | (simp [*]; done) | (unfold bt; split <;> first | rfl | (exfalso; simp_all; done) | (exfalso; simp_all; omega))), (by first | rfl | (simp; done) | (simp [*]; done) | (unfold bt; split <;> first | rfl | (exfalso; simp_all; done) | (exfalso; simp_all; omega))), H', ⟨by have := HK1.out; have := HJ9.out; omega⟩, ⟨by (with_reducible repeat (first | apply Kd.R_alloc | apply Kd.R_drewN | apply Kd.R_drew)); exact Kd.R_mono HO239.out (fun _ hk => trivial)⟩, ⟨by (with_reducible repeat (first | apply Kd.R_alloc | apply Kd.R_drewN | apply Kd.R_drew)); exact Kd.R_mono HO_9.out (fun _ hk => trivial)⟩, ⟨by repeat (first | (with_reducible first | exact HB.out | apply below_alloc | apply pw_below_drewN | apply below_drew1 | refine below_set ?_ GE235.out) | exact HB.out)⟩⟩
         ·replace c17 := Bool.eq_false_iff.mpr c17
          subst c17
          have H1 : (if (((rd_T98 t231 x11_1).f0).size : Int) < (a0.size : Int) then (if 0 ≤ (((rd_T98 t231 x11_1).f0).size : Int) then (if (bt a0 (((rd_T98 t231 x11_1).f0).size : Int)) = 59 then (if (wrap64 ((((rd_T98 t231 x11_1).f0).size : Int) + 1)) > x4_1 then ((sieveref05_says.f ((rd_T98 t231 x11_1).f0) ((rd_T98 t231 x11_1).f1) ((rd_T98 t231 x11_1).f2) ((rd_T98 t231 x11_1).f3)).bind fun t243 => (sieveref05_Longest.l0 kj9 a0 (wrap64 ((((rd_T98 t231 x11_1).f0).size : Int) + 1)) t243 t231 (t231.length : Int) (wrap64 (x11_1 + 1)))) else (sieveref05_Longest.l0 kj9 a0 x4_1 x5_1 t231 (t231.length : Int) (wrap64 (x11_1 + 1)))) else (sieveref05_Longest.l0 kj9 a0 x4_1 x5_1 t231 (t231.length : Int) (wrap64 (x11_1 + 1)))) else (none)) else (sieveref05_Longest.l0 kj9 a0 x4_1 x5_1 t231 (t231.length : Int) (wrap64 (x11_1 + 1)))) = some (r1, r2) := by rw [if_neg (show ¬ (false = true) by decide)] at H; exact H
          clear H
          have H := H1
          clear H1
          by_cases c35 : (((rd_T98 t231 x11_1).f0).size : Int) < (a0.size : Int)
          ·rw [if_pos c35] at H
           have c35b0 : decide ((((rd_T98 t231 x11_1).f0).size : Int) < (a0.size : Int)) = true := decide_eq_true c35
           have c35b1 : decide (((rd_T98 t231 x11_1).f0).size < a0.size) = true := decide_eq_true (Int.ofNat_lt.mp c35)
           clear c35
           by_cases c36 : 0 ≤ (((rd_T98 t231 x11_1).f0).size : Int)
           ·rw [if_pos c36] at H
            have c36b0 : decide (0 ≤ (((rd_T98 t231 x11_1).f0).size : Int)) = true := decide_eq_true c36
            have c36b1 : decide (0 ≤ ((rd_T98 t231 x11_1).f0).size) = true := decide_eq_true (by omega)
            clear c36
            by_cases c38 : (bt a0 (((rd_T98 t231 x11_1).f0).size : Int)) = 59
            ·rw [if_pos c38] at H
             have c38b0 : ((bt a0 (((rd_T98 t231 x11_1).f0).size : Int)) == 59) = true := beq_iff_eq.mpr c38
             have c38b1 : ((bt a0 (((rd_T98 t231 x11_1).f0).size : Int)) != 59) = false := bne_eq_false_iff_eq.mpr c38
             clear c38
             by_cases c39 : (wrap64 ((((rd_T98 t231 x11_1).f0).size : Int) + 1)) > x4_1
             ·rw [if_pos c39] at H
              have c39b0 : decide (x4_1 < (wrap64 ((((rd_T98 t231 x11_1).f0).size : Int) + 1))) = true := decide_eq_true c39
              clear c39
              replace H := Option.bind_eq_some_iff.mp H
              obtain ⟨t243, A400, H⟩ := H
              replace H : (sieveref05_Longest.l0 kj9 a0 (wrap64 ((((rd_T98 t231 x11_1).f0).size : Int) + 1)) t243 t231 (t231.length : Int) (wrap64 (x11_1 + 1))) = some (r1, r2) := H
              have A40 := Aside0.mk A400
              clear A400
              have H' := Aside0.mk H
              clear H
              have p37 : 0 ≤ ((((rd_T98 t231 x11_1).f0).size : Int) : Int) := of_decide_eq_true (by first | (with_reducible assumption) | assumption)
              have q37 : (((rd_T98 t231 x11_1).f0).size : Int) < (a0.size : Int) := of_decide_eq_true (by first | (with_reducible assumption) | assumption)
              have hx37 := bt_at a0 (((rd_T98 t231 x11_1).f0).size : Int)
              have hx37z : ∀ h : ((rd_T98 t231 x11_1).f0).size < a0.size, ((a0[((rd_T98 t231 x11_1).f0).size]'h).toNat : Int) = bt a0 (((rd_T98 t231 x11_1).f0).size : Int) := bt_at a0 (((rd_T98 t231 x11_1).f0).size : Int)
              replace p37 := eq_true p37
              replace q37 := eq_true q37
              have hcz41_0 : wc.cell? ⟨gb235, 0, none⟩ = some (.string ((rd_T98 t231 x11_1).f0)) := (blk_cell BK235.out 0).trans rfl
              have hcz41_1 : wc.cell? ⟨gb235, 1, none⟩ = some (.int .i32 ((rd_T98 t231 x11_1).f1)) := (blk_cell BK235.out 1).trans rfl
              have hcz41_2 : wc.cell? ⟨gb235, 2, none⟩ = some (.int .i32 ((rd_T98 t231 x11_1).f2)) := (blk_cell BK235.out 2).trans rfl
              have hcz41_3 : wc.cell? ⟨gb235, 3, none⟩ = some (.bool ((rd_T98 t231 x11_1).f3)) := (blk_cell BK235.out 3).trans rfl
              have hfz41_0 := blk_frozen BK235.out 0
              have hfz41_1 := blk_frozen BK235.out 1
              have hfz41_2 := blk_frozen BK235.out 2
              have hfz41_3 := blk_frozen BK235.out 3
              go_wp2_with (first | ((with_reducible refine gate_callee (f := 68) rfl ?_); refine goesL_ (some 52) rfl rfl Try.func68 (by kernel_rfl) rfl #[.agg #[.string ((rd_T98 t231 x11_1).f0), .int .i32 ((rd_T98 t231 x11_1).f1), .int .i32 ((rd_T98 t231 x11_1).f2), .bool ((rd_T98 t231 x11_1).f3)]] rfl (by (try simp only [List.map_toArray, List.map_cons, List.map_nil]); first | done | rfl | (simp only [List.length_drop, List.length_take]; rfl) | (simp [*] <;> rfl)) ?_; (with_reducible refine (sieveref05_says.calls ((rd_T98 t231 x11_1).f0) ((rd_T98 t231 x11_1).f1) ((rd_T98 t231 x11_1).f2) ((rd_T98 t231 x11_1).f3) t243 _ A40.out).mono ?_); rintro e w42 ⟨v244, rfl, ho0, hb⟩; refine ⟨_, rfl, ?_⟩; have n0_ := Aside0.mk (Kd.R_elder' (by (with_reducible repeat (first | apply Kd.R_alloc | apply Kd.R_drewN | apply Kd.R_drew)); exact HO_5.out) (Kd.R_base ho0) hb); have n1_ := Aside0.mk (Kd.R_below (by (with_reducible repeat (first | apply Kd.R_alloc | apply Kd.R_drewN | apply Kd.R_drew)); exact HO_9.out) hb); have n2_ := Aside0.mk (Kd.R_lower (Kd.R_new' ho0 (Kd.R_lt (by (with_reducible repeat (first | apply Kd.R_alloc | apply Kd.R_drewN | apply Kd.R_drew)); exact HO_5.out))) (below_size (by repeat (first | (with_reducible first | exact HB.out | apply below_alloc | apply pw_below_drewN | apply below_drew1 | refine below_set ?_ GE235.out) | exact HB.out)))); have n3_ := Aside0.mk (blk_below (g := gb235) (o := .cells #[.string ((rd_T98 t231 x11_1).f0), .int .i32 ((rd_T98 t231 x11_1).f1), .int .i32 ((rd_T98 t231 x11_1).f2), .bool ((rd_T98 t231 x11_1).f3)] 98 (0, 0)) (by (with_reducible repeat (first | refine blk_drewN ?_ _ | refine blk_drew ?_ | refine blk_alloc ?_ _)); exact BK235.out) hb); have n4_ := Aside0.mk (below_step (by repeat (first | (with_reducible first | exact HB.out | apply below_alloc | apply pw_below_drewN | apply below_drew1 | refine below_set ?_ GE235.out) | exact HB.out)) hb); clear HO_5; clear HO_9; clear BK235; clear HB; have HO_5 := n0_; have HO_9 := n1_; have HO245 := n2_; have BK235 := n3_; have HB := n4_; clear n0_ n1_ n2_ n3_ n4_; (try clear hb); (try clear hb2); (try clear hk); (try clear hi); (try clear ho0)))
              go_roundg kj9
              case measure => have := HK1.out; have := HJ9.out; omega
              case rel => exact ⟨(wrap64 ((((rd_T98 t231 x11_1).f0).size : Int) + 1)), (t243), (wrap64 (x11_1 + 1)), (by first | rfl | (simp; done) | (simp [*]; done) | (unfold bt; split <;> first | rfl | (exfalso; simp_all; done) | (exfalso; simp_all; omega))), (by first | rfl | (simp; done) | (simp [*]; done) | (unfold bt; split <;> first | rfl | (exfalso; simp_all; done) | (exfalso; simp_all; omega))), H', ⟨by have := HK1.out; have := HJ9.out; omega⟩, ⟨by (with_reducible repeat (first | apply Kd.R_alloc | apply Kd.R_drewN | apply Kd.R_drew)); exact Kd.R_mono HO245.out (fun _ hk => trivial)⟩, ⟨by (with_reducible repeat (first | apply Kd.R_alloc | apply Kd.R_drewN | apply Kd.R_drew)); exact Kd.R_mono HO_9.out (fun _ hk => trivial)⟩, ⟨by repeat (first | (with_reducible first | exact HB.out | apply below_alloc | apply pw_below_drewN | apply below_drew1 | refine below_set ?_ GE235.out) | exact HB.out)⟩⟩
             ·rw [if_neg c39] at H
              have c39b0 : decide (x4_1 < (wrap64 ((((rd_T98 t231 x11_1).f0).size : Int) + 1))) = false := decide_eq_false c39
              clear c39
              have H' := Aside0.mk H
              clear H
              have p37 : 0 ≤ ((((rd_T98 t231 x11_1).f0).size : Int) : Int) := of_decide_eq_true (by first | (with_reducible assumption) | assumption)
              have q37 : (((rd_T98 t231 x11_1).f0).size : Int) < (a0.size : Int) := of_decide_eq_true (by first | (with_reducible assumption) | assumption)
              have hx37 := bt_at a0 (((rd_T98 t231 x11_1).f0).size : Int)
              have hx37z : ∀ h : ((rd_T98 t231 x11_1).f0).size < a0.size, ((a0[((rd_T98 t231 x11_1).f0).size]'h).toNat : Int) = bt a0 (((rd_T98 t231 x11_1).f0).size : Int) := bt_at a0 (((rd_T98 t231 x11_1).f0).size : Int)
              replace p37 := eq_true p37
              replace q37 := eq_true q37
              go_wp2
              go_roundg kj9
              case measure => have := HK1.out; have := HJ9.out; omega
              case rel => exact ⟨(x4_1), (x5_1), (wrap64 (x11_1 + 1)), (by first | rfl | (simp; done) | (simp [*]; done) | (unfold bt; split <;> first | rfl | (exfalso; simp_all; done) | (exfalso; simp_all; omega))), (by first | rfl | (simp; done) | (simp [*]; done) | (unfold bt; split <;> first | rfl | (exfalso; simp_all; done) | (exfalso; simp_all; omega))), H', ⟨by have := HK1.out; have := HJ9.out; omega⟩, ⟨by (with_reducible repeat (first | apply Kd.R_alloc | apply Kd.R_drewN | apply Kd.R_drew)); exact HO_5.out⟩, ⟨by (with_reducible repeat (first | apply Kd.R_alloc | apply Kd.R_drewN | apply Kd.R_drew)); exact Kd.R_mono HO_9.out (fun _ hk => trivial)⟩, ⟨by repeat (first | (with_reducible first | exact HB.out | apply below_alloc | apply pw_below_drewN | apply below_drew1 | refine below_set ?_ GE235.out) | exact HB.out)⟩⟩
            ·rw [if_neg c38] at H
             have c38b0 : ((bt a0 (((rd_T98 t231 x11_1).f0).size : Int)) == 59) = false := beq_eq_false_iff_ne.mpr c38
             have c38b1 : ((bt a0 (((rd_T98 t231 x11_1).f0).size : Int)) != 59) = true := bne_iff_ne.mpr c38
             have H' := Aside0.mk H
             clear H
             have p37 : 0 ≤ ((((rd_T98 t231 x11_1).f0).size : Int) : Int) := of_decide_eq_true (by first | (with_reducible assumption) | assumption)
             have q37 : (((rd_T98 t231 x11_1).f0).size : Int) < (a0.size : Int) := of_decide_eq_true (by first | (with_reducible assumption) | assumption)
             have hx37 := bt_at a0 (((rd_T98 t231 x11_1).f0).size : Int)
             have hx37z : ∀ h : ((rd_T98 t231 x11_1).f0).size < a0.size, ((a0[((rd_T98 t231 x11_1).f0).size]'h).toNat : Int) = bt a0 (((rd_T98 t231 x11_1).f0).size : Int) := bt_at a0 (((rd_T98 t231 x11_1).f0).size : Int)
             replace p37 := eq_true p37
             replace q37 := eq_true q37
             go_wp2
             go_roundg kj9
             case measure => have := HK1.out; have := HJ9.out; omega
             case rel => exact ⟨(x4_1), (x5_1), (wrap64 (x11_1 + 1)), (by first | rfl | (simp; done) | (simp [*]; done) | (unfold bt; split <;> first | rfl | (exfalso; simp_all; done) | (exfalso; simp_all; omega))), (by first | rfl | (simp; done) | (simp [*]; done) | (unfold bt; split <;> first | rfl | (exfalso; simp_all; done) | (exfalso; simp_all; omega))), H', ⟨by have := HK1.out; have := HJ9.out; omega⟩, ⟨by (with_reducible repeat (first | apply Kd.R_alloc | apply Kd.R_drewN | apply Kd.R_drew)); exact HO_5.out⟩, ⟨by (with_reducible repeat (first | apply Kd.R_alloc | apply Kd.R_drewN | apply Kd.R_drew)); exact Kd.R_mono HO_9.out (fun _ hk => trivial)⟩, ⟨by repeat (first | (with_reducible first | exact HB.out | apply below_alloc | apply pw_below_drewN | apply below_drew1 | refine below_set ?_ GE235.out) | exact HB.out)⟩⟩
           ·rw [if_neg c36] at H
            exact absurd H (by simp)
          ·rw [if_neg c35] at H
           have c35b0 : decide ((((rd_T98 t231 x11_1).f0).size : Int) < (a0.size : Int)) = false := decide_eq_false c35
           have c35b1 : decide (((rd_T98 t231 x11_1).f0).size < a0.size) = false := decide_eq_false (fun h => c35 (Int.ofNat_lt.mpr h))
           clear c35
           have H' := Aside0.mk H
           clear H
           go_wp2
           go_roundg kj9
           case measure => have := HK1.out; have := HJ9.out; omega
           case rel => exact ⟨(x4_1), (x5_1), (wrap64 (x11_1 + 1)), (by first | rfl | (simp; done) | (simp [*]; done) | (unfold bt; split <;> first | rfl | (exfalso; simp_all; done) | (exfalso; simp_all; omega))), (by first | rfl | (simp; done) | (simp [*]; done) | (unfold bt; split <;> first | rfl | (exfalso; simp_all; done) | (exfalso; simp_all; omega))), H', ⟨by have := HK1.out; have := HJ9.out; omega⟩, ⟨by (with_reducible repeat (first | apply Kd.R_alloc | apply Kd.R_drewN | apply Kd.R_drew)); exact HO_5.out⟩, ⟨by (with_reducible repeat (first | apply Kd.R_alloc | apply Kd.R_drewN | apply Kd.R_drew)); exact Kd.R_mono HO_9.out (fun _ hk => trivial)⟩, ⟨by repeat (first | (with_reducible first | exact HB.out | apply below_alloc | apply pw_below_drewN | apply below_drew1 | refine below_set ?_ GE235.out) | exact HB.out)⟩⟩
      ·replace c9 := Bool.eq_false_iff.mpr c9
       subst c9
       have H1 : (sieveref05_Longest.l0 k1 a0 x4_1 x5_1 t231 (t231.length : Int) (wrap64 (x11_1 + 1))) = some (r1, r2) := by rw [if_neg (show ¬ (false = true) by decide)] at H; exact H
       clear H
       have H := H1
       clear H1
       have H' := Aside0.mk H
       clear H
       have p234 : 0 ≤ (x11_1 : Int) := of_decide_eq_true (by first | (with_reducible assumption) | assumption)
       have q234 : x11_1 < (t231.length : Int) := of_decide_eq_true (by first | (with_reducible assumption) | assumption)
       obtain ⟨ad234, e234, hx234_0, hx234_1, hx234_2, hx234_3⟩ := at_T98 (Kd.R_reads' HO_9.out).2.2 x11_1 p234 q234
       cases e234
       replace p234 := eq_true p234
       replace q234 := eq_true q234
       go_wp2_with (first | ((with_reducible refine gate_dst (N := 7) rfl ?_); refine box_event ?hg (N := 7) ?hd (cs := #[.string (⟨#[]⟩ : ByteArray), .int .i32 0, .int .i32 0, .bool false]) (t := 98) ?hr ?_; (case hd => rfl); (case hg => rfl); (case hr => first | (go_simp; done) | (go_simp; rfl)); intro gb235 hg w43 hbox hb; have n0_ := Aside0.mk (Kd.R_below (by (with_reducible repeat (first | apply Kd.R_alloc | apply Kd.R_drewN | apply Kd.R_drew)); exact HO_5.out) hb); have n1_ := Aside0.mk (Kd.R_below (Kd.R_elderB (by (with_reducible repeat (first | apply Kd.R_alloc | apply Kd.R_drewN | apply Kd.R_drew)); exact HO_9.out) gb235 (Nat.le_of_eq hg.symm)) hb); have n2_ := Aside0.mk (below_step (by repeat (first | (with_reducible first | exact HB.out | apply below_alloc | apply pw_below_drewN | apply below_drew1) | exact HB.out)) hb); have n3_ := Aside0.mk (hbox); have n4_ := Aside0.mk ((by rw [hg]; exact (below_size (by repeat (first | (with_reducible first | exact HB.out | apply below_alloc | apply pw_below_drewN | apply below_drew1) | exact HB.out))) : w.heap.size ≤ gb235)); have n5_ := Aside0.mk ((by rw [hg]; exact (below_size (by repeat (first | (with_reducible first | exact HB.out | apply below_alloc | apply pw_below_drewN | apply below_drew1) | exact HB.out))) : w.heap.size ≤ gb235)); clear HO_5; clear HO_9; clear HB; have HO_5 := n0_; have HO_9 := n1_; have HB := n2_; have BK235 := n3_; have GW235 := n4_; have GE235 := n5_; clear n0_ n1_ n2_ n3_ n4_ n5_; clear hb hbox hg; have hcz44_0 : w43.cell? ⟨gb235, 0, none⟩ = some (.string (⟨#[]⟩ : ByteArray)) := (blk_cell BK235.out 0).trans rfl; have hcz44_1 : w43.cell? ⟨gb235, 1, none⟩ = some (.int .i32 0) := (blk_cell BK235.out 1).trans rfl; have hcz44_2 : w43.cell? ⟨gb235, 2, none⟩ = some (.int .i32 0) := (blk_cell BK235.out 2).trans rfl; have hcz44_3 : w43.cell? ⟨gb235, 3, none⟩ = some (.bool false) := (blk_cell BK235.out 3).trans rfl; have hfz44_0 := blk_frozen BK235.out 0; have hfz44_1 := blk_frozen BK235.out 1; have hfz44_2 := blk_frozen BK235.out 2; have hfz44_3 := blk_frozen BK235.out 3) | ((with_reducible refine gate_callee (f := 67) rfl ?_); refine goesL_ (some 21) rfl rfl Try.func67 (by kernel_rfl) rfl #[.string a0, .string ((rd_T98 t231 x11_1).f0)] rfl (by (try simp only [List.map_toArray, List.map_cons, List.map_nil]); first | done | rfl | (simp only [List.length_drop, List.length_take]; rfl) | (simp [*] <;> rfl)) ?_; (with_reducible refine (sieveref05_Prefix.calls a0 ((rd_T98 t231 x11_1).f0) false _ A8.out).mono ?_); rintro e w' ⟨rfl, ⟨nd, rfl⟩⟩; refine ⟨_, rfl, ?_⟩))
       go_roundg k1
       case measure => have := HK1.out; omega
       case rel => exact ⟨(x4_1), (x5_1), (wrap64 (x11_1 + 1)), (by first | rfl | (simp; done) | (simp [*]; done) | (unfold bt; split <;> first | rfl | (exfalso; simp_all; done) | (exfalso; simp_all; omega))), (by first | rfl | (simp; done) | (simp [*]; done) | (unfold bt; split <;> first | rfl | (exfalso; simp_all; done) | (exfalso; simp_all; omega))), H', ⟨by have := HK1.out; omega⟩, ⟨by (with_reducible repeat (first | apply Kd.R_alloc | apply Kd.R_drewN | apply Kd.R_drew)); exact Kd.R_mono (Kd.R_far (p := ⟨gb235, 3, none⟩) (Kd.R_far (p := ⟨gb235, 2, none⟩) (Kd.R_far (p := ⟨gb235, 1, none⟩) (Kd.R_far (p := ⟨gb235, 0, none⟩) (Kd.R_types HO_5.out BK235.out (by decide)) (fun _ hk => hk.2) (.string ((rd_T98 t231 x11_1).f0))) (fun _ hk => hk.2) (.int .i32 ((rd_T98 t231 x11_1).f1))) (fun _ hk => hk.2) (.int .i32 ((rd_T98 t231 x11_1).f2))) (fun _ hk => hk.2) (.bool ((rd_T98 t231 x11_1).f3))) (fun _ hk => trivial)⟩, ⟨by (with_reducible repeat (first | apply Kd.R_alloc | apply Kd.R_drewN | apply Kd.R_drew)); exact Kd.R_mono (Kd.R_far (p := ⟨gb235, 3, none⟩) (Kd.R_far (p := ⟨gb235, 2, none⟩) (Kd.R_far (p := ⟨gb235, 1, none⟩) (Kd.R_far (p := ⟨gb235, 0, none⟩) (Kd.R_mono HO_9.out (fun k_ hk => (⟨hk, hk.2⟩ : _ ∧ k_ ≠ gb235))) (fun _ hk => hk.2) (.string ((rd_T98 t231 x11_1).f0))) (fun _ hk => hk.2) (.int .i32 ((rd_T98 t231 x11_1).f1))) (fun _ hk => hk.2) (.int .i32 ((rd_T98 t231 x11_1).f2))) (fun _ hk => hk.2) (.bool ((rd_T98 t231 x11_1).f3))) (fun _ hk => trivial)⟩, ⟨by repeat (first | (with_reducible first | exact HB.out | apply below_alloc | apply pw_below_drewN | apply below_drew1 | refine below_set ?_ GE235.out) | exact HB.out)⟩⟩
     ·rw [if_neg c7] at H
      exact absurd H (by simp)
    ·rw [if_neg c6] at H
     exact absurd H (by simp)
   ·rw [if_neg c5] at H
    have c5b0 : decide (x11_1 < (t231.length : Int)) = false := decide_eq_false c5
    clear c5
    simp only [Option.some.injEq, Prod.mk.injEq] at H
    obtain ⟨rfl, rfl⟩ := H
    go_wp2
    go_ret2
    exact ⟨_, by first | rfl | (simp [errW_none, errW_some] <;> rfl) | (simp [*, errW_none, errW_some] <;> rfl), by (with_reducible repeat (first | apply Kd.R_alloc | apply Kd.R_drewN | apply Kd.R_drew)); exact HO_5.out, by repeat (first | (with_reducible first | exact HB.out | apply below_alloc | apply pw_below_drewN | apply below_drew1) | exact HB.out)⟩

/-! ### sieveref06_Sure: function 28 -/
def sieveref06_Sure.j0 : Nat → ByteArray → Bool → Bool → Option (Bool)
 | 0, _, _, _ => none
 | k + 1, x0, x1, x15 => if x15 = true then (if (x0.size : Int) > 1 then (if 1 < (x0.size : Int) then (if (bt x0 1) = 120 then (if 2 ≤ (x0.size : Int) then ((sieveref06_digitsOf.f k (x0.extract 2 x0.size) true).bind fun t246 => (some (decide ((wrap64 (2 + (t246.size : Int))) < (x0.size : Int))))) else (none)) else (if (bt x0 1) = 88 then (if 2 ≤ (x0.size : Int) then ((sieveref06_digitsOf.f k (x0.extract 2 x0.size) ((bt x0 1) == 88)).bind fun t247 => (some (decide ((wrap64 (2 + (t247.size : Int))) < (x0.size : Int))))) else (none)) else (if 1 ≤ (x0.size : Int) then ((sieveref06_digitsOf.f k (x0.extract 1 x0.size) ((bt x0 1) == 88)).bind fun t248 => (some (decide ((wrap64 (1 + (t248.size : Int))) < (x0.size : Int))))) else (none)))) else (none)) else (if 1 ≤ (x0.size : Int) then ((sieveref06_digitsOf.f k (x0.extract 1 x0.size) false).bind fun t249 => (some (decide ((wrap64 (1 + (t249.size : Int))) < (x0.size : Int))))) else (none))) else ((sieveref05_Begins.f k x0).bind fun t250 => (if t250 = true then (some false) else ((sieveref05_Longest.f k x0).bind fun bt251 => (if x1 = true then (if bt251.1 = 0 then (some true) else (if bt251.1 < (x0.size : Int) then (some true) else (if 0 ≤ (wrap64 (bt251.1 - 1)) then (if (wrap64 (bt251.1 - 1)) < (x0.size : Int) then (some ((bt x0 (wrap64 (bt251.1 - 1))) == 59)) else (none)) else (none)))) else (some true)))))
def sieveref06_Sure.f (k : Nat) (a0 : ByteArray) (a1 : Bool) : Option (Bool) := if a0.toList = ([] : List UInt8) then (sieveref06_Sure.j0 k a0 a1 false) else (if 0 < (a0.size : Int) then (sieveref06_Sure.j0 k a0 a1 ((bt a0 0) == 35)) else (none))
theorem sieveref06_Sure.mono_l : ∀ k, (∀ y0 y1 y2, LeO (sieveref06_Sure.j0 k y0 y1 y2) (sieveref06_Sure.j0 (k + 1) y0 y1 y2))
 | 0 => fun _ _ _ r h => by simp [sieveref06_Sure.j0] at h
 | k + 1 => by
  have ih0 := sieveref06_Sure.mono_l k
  ·intro y0 y1 y2
   unfold sieveref06_Sure.j0
   repeat' first
   | (with_reducible exact ih0 _ _ _)
   | (with_reducible exact sieveref05_Begins.mono _ _)
   | (with_reducible exact sieveref05_Longest.mono _ _)
   | (with_reducible exact sieveref06_digitsOf.mono _ _ _)
   | (with_reducible exact LeO.refl _)
   | (with_reducible exact LeO.none _)
   | (with_reducible refine LeO.ite ?_ ?_)
   | (with_reducible refine LeO.bind ?_ (fun _ => ?_))
   | exact ih0 _ _ _
   | exact sieveref05_Begins.mono _ _
   | exact sieveref05_Longest.mono _ _
   | exact sieveref06_digitsOf.mono _ _ _
   | exact LeO.none _
   | refine LeO.ite ?_ ?_
   | refine LeO.bind ?_ (fun _ => ?_)
theorem sieveref06_Sure.mono : ∀ a0 a1 k, LeO (sieveref06_Sure.f k a0 a1) (sieveref06_Sure.f (k + 1) a0 a1) := by
 intro a0 a1 k
 have ih0 := sieveref06_Sure.mono_l k
 unfold sieveref06_Sure.f
 repeat' first
   | (with_reducible exact ih0 _ _ _)
   | (with_reducible exact sieveref05_Begins.mono _ _)
   | (with_reducible exact sieveref05_Longest.mono _ _)
   | (with_reducible exact sieveref06_digitsOf.mono _ _ _)
   | (with_reducible exact LeO.refl _)
   | (with_reducible exact LeO.none _)
   | (with_reducible refine LeO.ite ?_ ?_)
   | (with_reducible refine LeO.bind ?_ (fun _ => ?_))
   | exact ih0 _ _ _
   | exact sieveref05_Begins.mono _ _
   | exact sieveref05_Longest.mono _ _
   | exact sieveref06_digitsOf.mono _ _ _
   | exact LeO.none _
   | refine LeO.ite ?_ ?_
   | refine LeO.bind ?_ (fun _ => ?_)
set_option maxHeartbeats 8000000 in
set_option maxRecDepth 100000 in
theorem sieveref06_Sure.calls (k : Nat) (a0 : ByteArray) (a1 : Bool) (r : Bool) (w : World) (h : sieveref06_Sure.f k a0 a1 = some r) :
  Calls Try.prog 28 #[.string a0, .bool a1] w fun e w' => e = .returned (.bool r) ∧ Below w.heap.size w w' := by
 have HB := Aside0.mk (Below.refl w.heap.size w)
 have H : (if a0.toList = ([] : List UInt8) then (sieveref06_Sure.j0 k a0 a1 false) else (if 0 < (a0.size : Int) then (sieveref06_Sure.j0 k a0 a1 ((bt a0 0) == 35)) else (none))) = some r := h
 clear h
 have HC3 := Aside0.mk H
 clear H
 go_enter Try.func28, Try.ntmps28
 go_upto_region 1 with (fail)
 go_cut [15] (fun v15 wc => ∃ (kq : Nat) (x15_2 : Bool), v15 = .bool x15_2 ∧ Aside0 (sieveref06_Sure.j0 kq a0 a1 x15_2 = some r) ∧ Aside0 (kq ≤ k) ∧ Aside0 (Below w.heap.size w wc))
 case first =>
  have H := HC3.out
  clear HC3
  by_cases c4 : a0.toList = ([] : List UInt8)
  ·rw [if_pos c4] at H
   have c4b0 : (a0.toList == ([] : List UInt8)) = true := beq_iff_eq.mpr c4
   have c4b1 : (a0.toList != ([] : List UInt8)) = false := bne_eq_false_iff_eq.mpr c4
   clear c4
   (first | rw [c4b0] | (simp only [i64_w, i32_w]; rw [c4b0]) | skip)
   have H' := Aside0.mk H
   clear H
   go_wp2
   go_meet
   case rel => exact ⟨_, (false), (by first | rfl | (simp; done) | (simp [*]; done) | (unfold bt; split <;> first | rfl | (exfalso; simp_all; done) | (exfalso; simp_all; omega))), H', ⟨by first | omega | exact Nat.le_refl _⟩, ⟨by repeat (first | (with_reducible first | exact HB.out | apply below_alloc | apply pw_below_drewN | apply below_drew1) | exact HB.out)⟩⟩
  ·rw [if_neg c4] at H
   have c4b0 : (a0.toList == ([] : List UInt8)) = false := beq_eq_false_iff_ne.mpr c4
   have c4b1 : (a0.toList != ([] : List UInt8)) = true := bne_iff_ne.mpr c4
   (first | rw [c4b0] | (simp only [i64_w, i32_w]; rw [c4b0]) | skip)
   by_cases c5 : 0 < (a0.size : Int)
   ·rw [if_pos c5] at H
    have c5b0 : decide (0 < (a0.size : Int)) = true := decide_eq_true c5
    have c5b1 : decide (0 < a0.size) = true := decide_eq_true (by omega)
    clear c5
    have H' := Aside0.mk H
    clear H
    have p6 : 0 ≤ (0 : Int) := (by omega)
    have q6 : 0 < a0.size := (by have : (0 : Int) < (a0.size : Int) := of_decide_eq_true (by first | (with_reducible assumption) | assumption); omega)
    have hx6 : ∀ h : 0 < a0.size, ((a0[0]'h).toNat : Int) = bt a0 0 := bt_at a0 0
    clear p6
    have qi6 : (0 < (a0.size : Int)) = True := eq_true (of_decide_eq_true (by first | (with_reducible assumption) | assumption))
    replace q6 := eq_true q6
    go_wp2
    go_meet
    case rel => exact ⟨_, (((bt a0 0) == 35)), (by first | rfl | (simp; done) | (simp [*]; done) | (unfold bt; split <;> first | rfl | (exfalso; simp_all; done) | (exfalso; simp_all; omega))), H', ⟨by first | omega | exact Nat.le_refl _⟩, ⟨by repeat (first | (with_reducible first | exact HB.out | apply below_alloc | apply pw_below_drewN | apply below_drew1) | exact HB.out)⟩⟩
   ·rw [if_neg c5] at H
    exact absurd H (by simp)
 case rest =>
  clear HC3
  try clear c2
  try clear p2
  try clear c4
  try clear c4b0
  try clear c4b1
  try clear c5
  try clear c5b0
  try clear c5b1
  try clear p6
  try clear q6
  try clear hx6
  try clear qi6
  try clear p6
  try clear q6
  obtain ⟨kq, x15_2, rfl, HA, HJ2, HB⟩ := hcut
  cases kq with
  | zero => exact absurd HA.out (by simp [sieveref06_Sure.j0])
  | succ kj2 =>
   have H := HA.out
   clear HA
   simp only [sieveref06_Sure.j0] at H
   by_cases c7 : x15_2 = true
   ·subst c7
    have H1 : (if (a0.size : Int) > 1 then (if 1 < (a0.size : Int) then (if (bt a0 1) = 120 then (if 2 ≤ (a0.size : Int) then ((sieveref06_digitsOf.f kj2 (a0.extract 2 a0.size) true).bind fun t246 => (some (decide ((wrap64 (2 + (t246.size : Int))) < (a0.size : Int))))) else (none)) else (if (bt a0 1) = 88 then (if 2 ≤ (a0.size : Int) then ((sieveref06_digitsOf.f kj2 (a0.extract 2 a0.size) ((bt a0 1) == 88)).bind fun t247 => (some (decide ((wrap64 (2 + (t247.size : Int))) < (a0.size : Int))))) else (none)) else (if 1 ≤ (a0.size : Int) then ((sieveref06_digitsOf.f kj2 (a0.extract 1 a0.size) ((bt a0 1) == 88)).bind fun t248 => (some (decide ((wrap64 (1 + (t248.size : Int))) < (a0.size : Int))))) else (none)))) else (none)) else (if 1 ≤ (a0.size : Int) then ((sieveref06_digitsOf.f kj2 (a0.extract 1 a0.size) false).bind fun t249 => (some (decide ((wrap64 (1 + (t249.size : Int))) < (a0.size : Int))))) else (none))) = some r := by rw [if_pos rfl] at H; exact H
    clear H
    have H := H1
    clear H1
    by_cases c8 : (a0.size : Int) > 1
    ·rw [if_pos c8] at H
     have c8b0 : decide (1 < (a0.size : Int)) = true := decide_eq_true c8
     have c8b1 : decide (1 < a0.size) = true := decide_eq_true (by omega)
     clear c8
     by_cases c9 : 1 < (a0.size : Int)
     ·rw [if_pos c9] at H
      have c9b0 : decide (1 < (a0.size : Int)) = true := decide_eq_true c9
      have c9b1 : decide (1 < a0.size) = true := decide_eq_true (by omega)
      clear c9
      by_cases c11 : (bt a0 1) = 120
      ·rw [if_pos c11] at H
       have c11b0 : ((bt a0 1) == 120) = true := beq_iff_eq.mpr c11
       have c11b1 : ((bt a0 1) != 120) = false := bne_eq_false_iff_eq.mpr c11
       clear c11
       by_cases c12 : 2 ≤ (a0.size : Int)
       ·rw [if_pos c12] at H
        have c12b0 := eq_true c12
        have c12b1 : decide (2 ≤ (a0.size : Int)) = true := decide_eq_true c12
        clear c12
        replace H := Option.bind_eq_some_iff.mp H
        obtain ⟨t246, A130, H⟩ := H
        replace H : (some (decide ((wrap64 (2 + (t246.size : Int))) < (a0.size : Int)))) = some r := H
        have A13 := Aside0.mk A130
        clear A130
        obtain rfl := Option.some.inj H
        have p10 : 0 ≤ (1 : Int) := (by omega)
        have q10 : 1 < a0.size := (by have : (1 : Int) < (a0.size : Int) := of_decide_eq_true (by first | (with_reducible assumption) | assumption); omega)
        have hx10 : ∀ h : 1 < a0.size, ((a0[1]'h).toNat : Int) = bt a0 1 := bt_at a0 1
        clear p10
        have qi10 : (1 < (a0.size : Int)) = True := eq_true (of_decide_eq_true (by first | (with_reducible assumption) | assumption))
        replace q10 := eq_true q10
        go_wp2_with (first | ((with_reducible refine gate_callee (f := 45) rfl ?_); refine goesL_ (some 35) rfl rfl Try.func45 (by kernel_rfl) rfl #[.string (a0.extract 2 a0.size), .bool true] rfl (by (try simp only [List.map_toArray, List.map_cons, List.map_nil]); first | done | rfl | (simp only [List.length_drop, List.length_take]; rfl) | (simp [*] <;> rfl)) ?_; (with_reducible refine (sieveref06_digitsOf.calls kj2 (a0.extract 2 a0.size) true t246 _ A13.out).mono ?_); rintro e w' ⟨rfl, ⟨nd, rfl⟩⟩; refine ⟨_, rfl, ?_⟩))
        go_ret
        exact ⟨by first | rfl | (simp [errW_none, errW_some] <;> rfl) | (simp [*, errW_none, errW_some] <;> rfl), by repeat (first | (with_reducible first | exact HB.out | apply below_alloc | apply pw_below_drewN | apply below_drew1) | exact HB.out)⟩
       ·rw [if_neg c12] at H
        exact absurd H (by simp)
      ·rw [if_neg c11] at H
       have c11b0 : ((bt a0 1) == 120) = false := beq_eq_false_iff_ne.mpr c11
       have c11b1 : ((bt a0 1) != 120) = true := bne_iff_ne.mpr c11
       by_cases c15 : (bt a0 1) = 88
       ·rw [if_pos c15] at H
        have c15b0 : ((bt a0 1) == 88) = true := beq_iff_eq.mpr c15
        have c15b1 : ((bt a0 1) != 88) = false := bne_eq_false_iff_eq.mpr c15
        clear c15
        by_cases c16 : 2 ≤ (a0.size : Int)
        ·rw [if_pos c16] at H
         have c16b0 := eq_true c16
         have c16b1 : decide (2 ≤ (a0.size : Int)) = true := decide_eq_true c16
         clear c16
         replace H := Option.bind_eq_some_iff.mp H
         obtain ⟨t247, A170, H⟩ := H
         replace H : (some (decide ((wrap64 (2 + (t247.size : Int))) < (a0.size : Int)))) = some r := H
         have A17 := Aside0.mk A170
         clear A170
         obtain rfl := Option.some.inj H
         have p10 : 0 ≤ (1 : Int) := (by omega)
         have q10 : 1 < a0.size := (by have : (1 : Int) < (a0.size : Int) := of_decide_eq_true (by first | (with_reducible assumption) | assumption); omega)
         have hx10 : ∀ h : 1 < a0.size, ((a0[1]'h).toNat : Int) = bt a0 1 := bt_at a0 1
         clear p10
         have qi10 : (1 < (a0.size : Int)) = True := eq_true (of_decide_eq_true (by first | (with_reducible assumption) | assumption))
         replace q10 := eq_true q10
         have p14 : 0 ≤ (1 : Int) := (by omega)
         have q14 : 1 < a0.size := (by have : (1 : Int) < (a0.size : Int) := of_decide_eq_true (by first | (with_reducible assumption) | assumption); omega)
         have hx14 : ∀ h : 1 < a0.size, ((a0[1]'h).toNat : Int) = bt a0 1 := bt_at a0 1
         clear p14
         have qi14 : (1 < (a0.size : Int)) = True := eq_true (of_decide_eq_true (by first | (with_reducible assumption) | assumption))
         replace q14 := eq_true q14
         go_wp2_with (first | ((with_reducible refine gate_callee (f := 45) rfl ?_); refine goesL_ (some 35) rfl rfl Try.func45 (by kernel_rfl) rfl #[.string (a0.extract 2 a0.size), .bool true] rfl (by (try simp only [List.map_toArray, List.map_cons, List.map_nil]); first | done | rfl | (simp only [List.length_drop, List.length_take]; rfl) | (simp [*] <;> rfl)) ?_; (with_reducible refine (sieveref06_digitsOf.calls kj2 (a0.extract 2 a0.size) true t247 _ (by have h_ := A17.out; rw [show ((bt a0 1) == 88) = true from by assumption] at h_; exact h_)).mono ?_); rintro e w' ⟨rfl, ⟨nd, rfl⟩⟩; refine ⟨_, rfl, ?_⟩))
         go_ret
         exact ⟨by first | rfl | (simp [errW_none, errW_some] <;> rfl) | (simp [*, errW_none, errW_some] <;> rfl), by repeat (first | (with_reducible first | exact HB.out | apply below_alloc | apply pw_below_drewN | apply below_drew1) | exact HB.out)⟩
        ·rw [if_neg c16] at H
         exact absurd H (by simp)
       ·rw [if_neg c15] at H
        have c15b0 : ((bt a0 1) == 88) = false := beq_eq_false_iff_ne.mpr c15
        have c15b1 : ((bt a0 1) != 88) = true := bne_iff_ne.mpr c15
        by_cases c18 : 1 ≤ (a0.size : Int)
        ·rw [if_pos c18] at H
         have c18b0 := eq_true c18
         have c18b1 : decide (1 ≤ (a0.size : Int)) = true := decide_eq_true c18
         clear c18
         replace H := Option.bind_eq_some_iff.mp H
         obtain ⟨t248, A190, H⟩ := H
         replace H : (some (decide ((wrap64 (1 + (t248.size : Int))) < (a0.size : Int)))) = some r := H
         have A19 := Aside0.mk A190
         clear A190
         obtain rfl := Option.some.inj H
         have p10 : 0 ≤ (1 : Int) := (by omega)
         have q10 : 1 < a0.size := (by have : (1 : Int) < (a0.size : Int) := of_decide_eq_true (by first | (with_reducible assumption) | assumption); omega)
         have hx10 : ∀ h : 1 < a0.size, ((a0[1]'h).toNat : Int) = bt a0 1 := bt_at a0 1
         clear p10
         have qi10 : (1 < (a0.size : Int)) = True := eq_true (of_decide_eq_true (by first | (with_reducible assumption) | assumption))
         replace q10 := eq_true q10
         have p14 : 0 ≤ (1 : Int) := (by omega)
         have q14 : 1 < a0.size := (by have : (1 : Int) < (a0.size : Int) := of_decide_eq_true (by first | (with_reducible assumption) | assumption); omega)
         have hx14 : ∀ h : 1 < a0.size, ((a0[1]'h).toNat : Int) = bt a0 1 := bt_at a0 1
         clear p14
         have qi14 : (1 < (a0.size : Int)) = True := eq_true (of_decide_eq_true (by first | (with_reducible assumption) | assumption))
         replace q14 := eq_true q14
         go_wp2_with (first | ((with_reducible refine gate_callee (f := 45) rfl ?_); refine goesL_ (some 35) rfl rfl Try.func45 (by kernel_rfl) rfl #[.string (a0.extract 1 a0.size), .bool false] rfl (by (try simp only [List.map_toArray, List.map_cons, List.map_nil]); first | done | rfl | (simp only [List.length_drop, List.length_take]; rfl) | (simp [*] <;> rfl)) ?_; (with_reducible refine (sieveref06_digitsOf.calls kj2 (a0.extract 1 a0.size) false t248 _ (by have h_ := A19.out; rw [show ((bt a0 1) == 88) = false from by assumption] at h_; exact h_)).mono ?_); rintro e w' ⟨rfl, ⟨nd, rfl⟩⟩; refine ⟨_, rfl, ?_⟩))
         go_ret
         exact ⟨by first | rfl | (simp [errW_none, errW_some] <;> rfl) | (simp [*, errW_none, errW_some] <;> rfl), by repeat (first | (with_reducible first | exact HB.out | apply below_alloc | apply pw_below_drewN | apply below_drew1) | exact HB.out)⟩
        ·rw [if_neg c18] at H
         exact absurd H (by simp)
     ·rw [if_neg c9] at H
      exact absurd H (by simp)
    ·rw [if_neg c8] at H
     have c8b0 : decide (1 < (a0.size : Int)) = false := decide_eq_false c8
     have c8b1 : decide (1 < a0.size) = false := decide_eq_false (by omega)
     clear c8
     by_cases c20 : 1 ≤ (a0.size : Int)
     ·rw [if_pos c20] at H
      have c20b0 := eq_true c20
      have c20b1 : decide (1 ≤ (a0.size : Int)) = true := decide_eq_true c20
      clear c20
      replace H := Option.bind_eq_some_iff.mp H
      obtain ⟨t249, A210, H⟩ := H
      replace H : (some (decide ((wrap64 (1 + (t249.size : Int))) < (a0.size : Int)))) = some r := H
      have A21 := Aside0.mk A210
      clear A210
      obtain rfl := Option.some.inj H
      go_wp2_with (first | ((with_reducible refine gate_callee (f := 45) rfl ?_); refine goesL_ (some 35) rfl rfl Try.func45 (by kernel_rfl) rfl #[.string (a0.extract 1 a0.size), .bool false] rfl (by (try simp only [List.map_toArray, List.map_cons, List.map_nil]); first | done | rfl | (simp only [List.length_drop, List.length_take]; rfl) | (simp [*] <;> rfl)) ?_; (with_reducible refine (sieveref06_digitsOf.calls kj2 (a0.extract 1 a0.size) false t249 _ A21.out).mono ?_); rintro e w' ⟨rfl, ⟨nd, rfl⟩⟩; refine ⟨_, rfl, ?_⟩))
      go_ret
      exact ⟨by first | rfl | (simp [errW_none, errW_some] <;> rfl) | (simp [*, errW_none, errW_some] <;> rfl), by repeat (first | (with_reducible first | exact HB.out | apply below_alloc | apply pw_below_drewN | apply below_drew1) | exact HB.out)⟩
     ·rw [if_neg c20] at H
      exact absurd H (by simp)
   ·replace c7 := Bool.eq_false_iff.mpr c7
    subst c7
    have H1 : ((sieveref05_Begins.f kj2 a0).bind fun t250 => (if t250 = true then (some false) else ((sieveref05_Longest.f kj2 a0).bind fun bt251 => (if a1 = true then (if bt251.1 = 0 then (some true) else (if bt251.1 < (a0.size : Int) then (some true) else (if 0 ≤ (wrap64 (bt251.1 - 1)) then (if (wrap64 (bt251.1 - 1)) < (a0.size : Int) then (some ((bt a0 (wrap64 (bt251.1 - 1))) == 59)) else (none)) else (none)))) else (some true))))) = some r := by rw [if_neg (show ¬ (false = true) by decide)] at H; exact H
    clear H
    have H := H1
    clear H1
    replace H := Option.bind_eq_some_iff.mp H
    obtain ⟨t250, A220, H⟩ := H
    replace H : (if t250 = true then (some false) else ((sieveref05_Longest.f kj2 a0).bind fun bt251 => (if a1 = true then (if bt251.1 = 0 then (some true) else (if bt251.1 < (a0.size : Int) then (some true) else (if 0 ≤ (wrap64 (bt251.1 - 1)) then (if (wrap64 (bt251.1 - 1)) < (a0.size : Int) then (some ((bt a0 (wrap64 (bt251.1 - 1))) == 59)) else (none)) else (none)))) else (some true)))) = some r := H
    have A22 := Aside0.mk A220
    clear A220
    by_cases c23 : t250 = true
    ·subst c23
     have H1 : (some false) = some r := by rw [if_pos rfl] at H; exact H
     clear H
     have H := H1
     clear H1
     obtain rfl := Option.some.inj H
     go_wp2_with (first | ((with_reducible refine gate_callee (f := 46) rfl ?_); refine goesL_ (some 42) rfl rfl Try.func46 (by kernel_rfl) rfl #[.string a0] rfl (by (try simp only [List.map_toArray, List.map_cons, List.map_nil]); first | done | rfl | (simp only [List.length_drop, List.length_take]; rfl) | (simp [*] <;> rfl)) ?_; (with_reducible refine (sieveref05_Begins.calls kj2 a0 true _ A22.out).mono ?_); rintro e w24 ⟨rfl, hb⟩; refine ⟨_, rfl, ?_⟩; have n0_ := Aside0.mk (below_step (by repeat (first | (with_reducible first | exact HB.out | apply below_alloc | apply pw_below_drewN | apply below_drew1) | exact HB.out)) hb); clear HB; have HB := n0_; clear n0_; (try clear hb); (try clear hb2); (try clear hk); (try clear hi)))
     go_ret
     exact ⟨by first | rfl | (simp [errW_none, errW_some] <;> rfl) | (simp [*, errW_none, errW_some] <;> rfl), by repeat (first | (with_reducible first | exact HB.out | apply below_alloc | apply pw_below_drewN | apply below_drew1) | exact HB.out)⟩
    ·replace c23 := Bool.eq_false_iff.mpr c23
     subst c23
     have H1 : ((sieveref05_Longest.f kj2 a0).bind fun bt251 => (if a1 = true then (if bt251.1 = 0 then (some true) else (if bt251.1 < (a0.size : Int) then (some true) else (if 0 ≤ (wrap64 (bt251.1 - 1)) then (if (wrap64 (bt251.1 - 1)) < (a0.size : Int) then (some ((bt a0 (wrap64 (bt251.1 - 1))) == 59)) else (none)) else (none)))) else (some true))) = some r := by rw [if_neg (show ¬ (false = true) by decide)] at H; exact H
     clear H
     have H := H1
     clear H1
     replace H := Option.bind_eq_some_iff.mp H
     obtain ⟨⟨t251, t252⟩, A250, H⟩ := H
     replace H : (if a1 = true then (if t251 = 0 then (some true) else (if t251 < (a0.size : Int) then (some true) else (if 0 ≤ (wrap64 (t251 - 1)) then (if (wrap64 (t251 - 1)) < (a0.size : Int) then (some ((bt a0 (wrap64 (t251 - 1))) == 59)) else (none)) else (none)))) else (some true)) = some r := H
     have A25 := Aside0.mk A250
     clear A250
     by_cases c26 : a1 = true
     ·subst c26
      have H1 : (if t251 = 0 then (some true) else (if t251 < (a0.size : Int) then (some true) else (if 0 ≤ (wrap64 (t251 - 1)) then (if (wrap64 (t251 - 1)) < (a0.size : Int) then (some ((bt a0 (wrap64 (t251 - 1))) == 59)) else (none)) else (none)))) = some r := by rw [if_pos rfl] at H; exact H
      clear H
      have H := H1
      clear H1
      by_cases c27 : t251 = 0
      ·rw [if_pos c27] at H
       have c27b0 : (t251 == 0) = true := beq_iff_eq.mpr c27
       have c27b1 : (t251 != 0) = false := bne_eq_false_iff_eq.mpr c27
       clear c27
       obtain rfl := Option.some.inj H
       go_wp2_with (first | ((with_reducible refine gate_callee (f := 46) rfl ?_); refine goesL_ (some 42) rfl rfl Try.func46 (by kernel_rfl) rfl #[.string a0] rfl (by (try simp only [List.map_toArray, List.map_cons, List.map_nil]); first | done | rfl | (simp only [List.length_drop, List.length_take]; rfl) | (simp [*] <;> rfl)) ?_; (with_reducible refine (sieveref05_Begins.calls kj2 a0 false _ A22.out).mono ?_); rintro e w28 ⟨rfl, hb⟩; refine ⟨_, rfl, ?_⟩; have n0_ := Aside0.mk (below_step (by repeat (first | (with_reducible first | exact HB.out | apply below_alloc | apply pw_below_drewN | apply below_drew1) | exact HB.out)) hb); clear HB; have HB := n0_; clear n0_; (try clear hb); (try clear hb2); (try clear hk); (try clear hi)) | ((with_reducible refine gate_callee (f := 47) rfl ?_); refine goesL_ (some 45) rfl rfl Try.func47 (by kernel_rfl) rfl #[.string a0] rfl (by (try simp only [List.map_toArray, List.map_cons, List.map_nil]); first | done | rfl | (simp only [List.length_drop, List.length_take]; rfl) | (simp [*] <;> rfl)) ?_; (with_reducible refine (sieveref05_Longest.calls kj2 a0 t251 t252 _ A25.out).mono ?_); rintro e w29 ⟨v253, rfl, ho0, hb⟩; refine ⟨_, rfl, ?_⟩; have n0_ := Aside0.mk (Kd.R_lower ho0 (below_size (by repeat (first | (with_reducible first | exact HB.out | apply below_alloc | apply pw_below_drewN | apply below_drew1) | exact HB.out)))); have n1_ := Aside0.mk (below_step (by repeat (first | (with_reducible first | exact HB.out | apply below_alloc | apply pw_below_drewN | apply below_drew1) | exact HB.out)) hb); clear HB; have HO254 := n0_; have HB := n1_; clear n0_ n1_; (try clear hb); (try clear hb2); (try clear hk); (try clear hi); (try clear ho0)))
       go_ret
       exact ⟨by first | rfl | (simp [errW_none, errW_some] <;> rfl) | (simp [*, errW_none, errW_some] <;> rfl), by repeat (first | (with_reducible first | exact HB.out | apply below_alloc | apply pw_below_drewN | apply below_drew1) | exact HB.out)⟩
      ·rw [if_neg c27] at H
       have c27b0 : (t251 == 0) = false := beq_eq_false_iff_ne.mpr c27
       have c27b1 : (t251 != 0) = true := bne_iff_ne.mpr c27
       by_cases c30 : t251 < (a0.size : Int)
       ·rw [if_pos c30] at H
        have c30b0 : decide (t251 < (a0.size : Int)) = true := decide_eq_true c30
        clear c30
        obtain rfl := Option.some.inj H
        go_wp2_with (first | ((with_reducible refine gate_callee (f := 46) rfl ?_); refine goesL_ (some 42) rfl rfl Try.func46 (by kernel_rfl) rfl #[.string a0] rfl (by (try simp only [List.map_toArray, List.map_cons, List.map_nil]); first | done | rfl | (simp only [List.length_drop, List.length_take]; rfl) | (simp [*] <;> rfl)) ?_; (with_reducible refine (sieveref05_Begins.calls kj2 a0 false _ A22.out).mono ?_); rintro e w31 ⟨rfl, hb⟩; refine ⟨_, rfl, ?_⟩; have n0_ := Aside0.mk (below_step (by repeat (first | (with_reducible first | exact HB.out | apply below_alloc | apply pw_below_drewN | apply below_drew1) | exact HB.out)) hb); clear HB; have HB := n0_; clear n0_; (try clear hb); (try clear hb2); (try clear hk); (try clear hi)) | ((with_reducible refine gate_callee (f := 47) rfl ?_); refine goesL_ (some 45) rfl rfl Try.func47 (by kernel_rfl) rfl #[.string a0] rfl (by (try simp only [List.map_toArray, List.map_cons, List.map_nil]); first | done | rfl | (simp only [List.length_drop, List.length_take]; rfl) | (simp [*] <;> rfl)) ?_; (with_reducible refine (sieveref05_Longest.calls kj2 a0 t251 t252 _ A25.out).mono ?_); rintro e w32 ⟨v253, rfl, ho0, hb⟩; refine ⟨_, rfl, ?_⟩; have n0_ := Aside0.mk (Kd.R_lower ho0 (below_size (by repeat (first | (with_reducible first | exact HB.out | apply below_alloc | apply pw_below_drewN | apply below_drew1) | exact HB.out)))); have n1_ := Aside0.mk (below_step (by repeat (first | (with_reducible first | exact HB.out | apply below_alloc | apply pw_below_drewN | apply below_drew1) | exact HB.out)) hb); clear HB; have HO254 := n0_; have HB := n1_; clear n0_ n1_; (try clear hb); (try clear hb2); (try clear hk); (try clear hi); (try clear ho0)))
        go_ret
        exact ⟨by first | rfl | (simp [errW_none, errW_some] <;> rfl) | (simp [*, errW_none, errW_some] <;> rfl), by repeat (first | (with_reducible first | exact HB.out | apply below_alloc | apply pw_below_drewN | apply below_drew1) | exact HB.out)⟩
       ·rw [if_neg c30] at H
        have c30b0 : decide (t251 < (a0.size : Int)) = false := decide_eq_false c30
        clear c30
        obtain ⟨ji33, hji33⟩ : ∃ j_ : Int, (wrap64 (t251 - 1)) = j_ := ⟨_, rfl⟩
        replace H : (if 0 ≤ (ji33) then (if (ji33) < (a0.size : Int) then (some ((bt a0 (ji33)) == 59)) else (none)) else (none)) = some r := by first | (rw [hji33] at H; exact H) | (simp only [hji33] at H ⊢; exact H)
        (try rw [hji33] at A22)
        (try rw [hji33] at A25)
        have hji33w : (IntKind.i64.wrap (t251 - 1)) = ji33 := (i64_w _).trans hji33
        by_cases c34 : 0 ≤ (ji33)
        ·rw [if_pos c34] at H
         have c34b0 : decide (0 ≤ (ji33)) = true := decide_eq_true c34
         clear c34
         by_cases c35 : (ji33) < (a0.size : Int)
         ·rw [if_pos c35] at H
          have c35b0 : decide ((ji33) < (a0.size : Int)) = true := decide_eq_true c35
          clear c35
          obtain rfl := Option.some.inj H
          go_wp2_with (first | ((with_reducible refine gate_callee (f := 46) rfl ?_); refine goesL_ (some 42) rfl rfl Try.func46 (by kernel_rfl) rfl #[.string a0] rfl (by (try simp only [List.map_toArray, List.map_cons, List.map_nil]); first | done | rfl | (simp only [List.length_drop, List.length_take]; rfl) | (simp [*] <;> rfl)) ?_; (with_reducible refine (sieveref05_Begins.calls kj2 a0 false _ A22.out).mono ?_); rintro e w37 ⟨rfl, hb⟩; refine ⟨_, rfl, ?_⟩; have n0_ := Aside0.mk (below_step (by repeat (first | (with_reducible first | exact HB.out | apply below_alloc | apply pw_below_drewN | apply below_drew1) | exact HB.out)) hb); clear HB; have HB := n0_; clear n0_; (try clear hb); (try clear hb2); (try clear hk); (try clear hi)) | ((with_reducible refine gate_callee (f := 47) rfl ?_); refine goesL_ (some 45) rfl rfl Try.func47 (by kernel_rfl) rfl #[.string a0] rfl (by (try simp only [List.map_toArray, List.map_cons, List.map_nil]); first | done | rfl | (simp only [List.length_drop, List.length_take]; rfl) | (simp [*] <;> rfl)) ?_; (with_reducible refine (sieveref05_Longest.calls kj2 a0 t251 t252 _ A25.out).mono ?_); rintro e w38 ⟨v253, rfl, ho0, hb⟩; refine ⟨_, rfl, ?_⟩; have n0_ := Aside0.mk (Kd.R_lower ho0 (below_size (by repeat (first | (with_reducible first | exact HB.out | apply below_alloc | apply pw_below_drewN | apply below_drew1) | exact HB.out)))); have n1_ := Aside0.mk (below_step (by repeat (first | (with_reducible first | exact HB.out | apply below_alloc | apply pw_below_drewN | apply below_drew1) | exact HB.out)) hb); clear HB; have HO254 := n0_; have HB := n1_; clear n0_ n1_; (try clear hb); (try clear hb2); (try clear hk); (try clear hi); (try clear ho0); have p36 : 0 ≤ ((ji33) : Int) := of_decide_eq_true (by first | (with_reducible assumption) | assumption); have q36 : (ji33) < (a0.size : Int) := of_decide_eq_true (by first | (with_reducible assumption) | assumption); have hx36 := bt_at a0 (ji33); replace p36 := eq_true p36; replace q36 := eq_true q36))
          go_ret
          exact ⟨by first | rfl | (simp [errW_none, errW_some] <;> rfl) | (simp only [← hji33]; first | rfl | (simp [errW_none, errW_some] <;> rfl)) | (simp [*, errW_none, errW_some] <;> rfl), by repeat (first | (with_reducible first | exact HB.out | apply below_alloc | apply pw_below_drewN | apply below_drew1) | exact HB.out)⟩
         ·rw [if_neg c35] at H
          exact absurd H (by simp)
        ·rw [if_neg c34] at H
         exact absurd H (by simp)
     ·replace c26 := Bool.eq_false_iff.mpr c26
      subst c26
      have H1 : (some true) = some r := by rw [if_neg (show ¬ (false = true) by decide)] at H; exact H
      clear H
      have H := H1
      clear H1
      obtain rfl := Option.some.inj H
      go_wp2_with (first | ((with_reducible refine gate_callee (f := 46) rfl ?_); refine goesL_ (some 42) rfl rfl Try.func46 (by kernel_rfl) rfl #[.string a0] rfl (by (try simp only [List.map_toArray, List.map_cons, List.map_nil]); first | done | rfl | (simp only [List.length_drop, List.length_take]; rfl) | (simp [*] <;> rfl)) ?_; (with_reducible refine (sieveref05_Begins.calls kj2 a0 false _ A22.out).mono ?_); rintro e w39 ⟨rfl, hb⟩; refine ⟨_, rfl, ?_⟩; have n0_ := Aside0.mk (below_step (by repeat (first | (with_reducible first | exact HB.out | apply below_alloc | apply pw_below_drewN | apply below_drew1) | exact HB.out)) hb); clear HB; have HB := n0_; clear n0_; (try clear hb); (try clear hb2); (try clear hk); (try clear hi)) | ((with_reducible refine gate_callee (f := 47) rfl ?_); refine goesL_ (some 45) rfl rfl Try.func47 (by kernel_rfl) rfl #[.string a0] rfl (by (try simp only [List.map_toArray, List.map_cons, List.map_nil]); first | done | rfl | (simp only [List.length_drop, List.length_take]; rfl) | (simp [*] <;> rfl)) ?_; (with_reducible refine (sieveref05_Longest.calls kj2 a0 t251 t252 _ A25.out).mono ?_); rintro e w40 ⟨v253, rfl, ho0, hb⟩; refine ⟨_, rfl, ?_⟩; have n0_ := Aside0.mk (Kd.R_lower ho0 (below_size (by repeat (first | (with_reducible first | exact HB.out | apply below_alloc | apply pw_below_drewN | apply below_drew1) | exact HB.out)))); have n1_ := Aside0.mk (below_step (by repeat (first | (with_reducible first | exact HB.out | apply below_alloc | apply pw_below_drewN | apply below_drew1) | exact HB.out)) hb); clear HB; have HO254 := n0_; have HB := n1_; clear n0_ n1_; (try clear hb); (try clear hb2); (try clear hk); (try clear hi); (try clear ho0)))
      go_ret
      exact ⟨by first | rfl | (simp [errW_none, errW_some] <;> rfl) | (simp [*, errW_none, errW_some] <;> rfl), by repeat (first | (with_reducible first | exact HB.out | apply below_alloc | apply pw_below_drewN | apply below_drew1) | exact HB.out)⟩

/-! ### sieveref06_Whole: function 29 -/
mutual
def sieveref06_Whole.j0 : Nat → ByteArray → Bool → Bool → Option (ByteArray × Int)
 | 0, _, _, _ => none
 | k + 1, x0, x1, x19 => if x19 = true then (if (x0.size : Int) > 1 then (if 1 < (x0.size : Int) then (if (bt x0 1) = 120 then (sieveref06_Whole.j1 k x0 1 true) else (sieveref06_Whole.j1 k x0 1 ((bt x0 1) == 88))) else (none)) else (sieveref06_Whole.j1 k x0 1 false)) else ((sieveref05_Longest.f k x0).bind fun bt262 => (if bt262.1 = 0 then (some ((⟨#[]⟩ : ByteArray), 0)) else (if x1 = true then (if 0 ≤ (wrap64 (bt262.1 - 1)) then (if (wrap64 (bt262.1 - 1)) < (x0.size : Int) then (if (bt x0 (wrap64 (bt262.1 - 1))) = 59 then (some (Hc_text bt262.2, bt262.1)) else (if bt262.1 < (x0.size : Int) then (if 0 ≤ bt262.1 then (if (bt x0 bt262.1) = 61 then (some ((⟨#[]⟩ : ByteArray), 0)) else ((sieveref04_Letter.f (wrap32 (bt x0 bt262.1))).bind fun t266 => (if t266 = true then (some ((⟨#[]⟩ : ByteArray), 0)) else ((sieveref04_Digit.f (wrap32 (bt x0 bt262.1))).bind fun t267 => (if t267 = true then (some ((⟨#[]⟩ : ByteArray), 0)) else (some (Hc_text bt262.2, bt262.1))))))) else (none)) else (some (Hc_text bt262.2, bt262.1)))) else (none)) else (none)) else (some (Hc_text bt262.2, bt262.1)))))
def sieveref06_Whole.j1 : Nat → ByteArray → Int → Bool → Option (ByteArray × Int)
 | 0, _, _, _ => none
 | k + 1, x0, x6, x7 => if x7 = true then (sieveref06_Whole.j2 k x0 2 x7) else (sieveref06_Whole.j2 k x0 x6 x7)
def sieveref06_Whole.j2 : Nat → ByteArray → Int → Bool → Option (ByteArray × Int)
 | 0, _, _, _ => none
 | k + 1, x0, x6, x7 => if 0 ≤ x6 then (if x6 ≤ (x0.size : Int) then ((sieveref06_digitsOf.f k (x0.extract (x6 : Int).toNat x0.size) x7).bind fun t255 => (if t255.toList = ([] : List UInt8) then (some ((⟨#[]⟩ : ByteArray), 0)) else (if (wrap64 (x6 + (t255.size : Int))) < (x0.size : Int) then (if 0 ≤ (wrap64 (x6 + (t255.size : Int))) then (if (bt x0 (wrap64 (x6 + (t255.size : Int)))) = 59 then ((sieveref06_Number.f k t255 x7).bind fun bt256 => (some (Utf8.encode bt256.1, wrap64 ((wrap64 (x6 + (t255.size : Int))) + 1)))) else ((sieveref06_Number.f k t255 x7).bind fun bt258 => (some (Utf8.encode bt258.1, wrap64 (x6 + (t255.size : Int)))))) else (none)) else ((sieveref06_Number.f k t255 x7).bind fun bt260 => (some (Utf8.encode bt260.1, wrap64 (x6 + (t255.size : Int)))))))) else (none)) else (none)
end
def sieveref06_Whole.f (k : Nat) (a0 : ByteArray) (a1 : Bool) : Option (ByteArray × Int) := if a0.toList = ([] : List UInt8) then (sieveref06_Whole.j0 k a0 a1 false) else (if 0 < (a0.size : Int) then (sieveref06_Whole.j0 k a0 a1 ((bt a0 0) == 35)) else (none))
theorem sieveref06_Whole.mono_l : ∀ k, (∀ y0 y1 y2, LeO (sieveref06_Whole.j0 k y0 y1 y2) (sieveref06_Whole.j0 (k + 1) y0 y1 y2)) ∧ (∀ y0 y1 y2, LeO (sieveref06_Whole.j1 k y0 y1 y2) (sieveref06_Whole.j1 (k + 1) y0 y1 y2)) ∧ (∀ y0 y1 y2, LeO (sieveref06_Whole.j2 k y0 y1 y2) (sieveref06_Whole.j2 (k + 1) y0 y1 y2))
 | 0 => ⟨fun _ _ _ r h => by simp [sieveref06_Whole.j0] at h, fun _ _ _ r h => by simp [sieveref06_Whole.j1] at h, fun _ _ _ r h => by simp [sieveref06_Whole.j2] at h⟩
 | k + 1 => by
  obtain ⟨ih0, ih1, ih2⟩ := sieveref06_Whole.mono_l k
  refine ⟨?_, ?_, ?_⟩
  ·intro y0 y1 y2
   unfold sieveref06_Whole.j0
   repeat' first
   | (with_reducible exact ih0 _ _ _)
   | (with_reducible exact ih1 _ _ _)
   | (with_reducible exact ih2 _ _ _)
   | (with_reducible exact sieveref05_Longest.mono _ _)
   | (with_reducible exact sieveref06_Number.mono _ _ _)
   | (with_reducible exact sieveref06_digitsOf.mono _ _ _)
   | (with_reducible exact LeO.refl _)
   | (with_reducible exact LeO.none _)
   | (with_reducible refine LeO.ite ?_ ?_)
   | (with_reducible refine LeO.bind ?_ (fun _ => ?_))
   | exact ih0 _ _ _
   | exact ih1 _ _ _
   | exact ih2 _ _ _
   | exact sieveref05_Longest.mono _ _
   | exact sieveref06_Number.mono _ _ _
   | exact sieveref06_digitsOf.mono _ _ _
   | exact LeO.none _
   | refine LeO.ite ?_ ?_
   | refine LeO.bind ?_ (fun _ => ?_)
  ·intro y0 y1 y2
   unfold sieveref06_Whole.j1
   repeat' first
   | (with_reducible exact ih0 _ _ _)
   | (with_reducible exact ih1 _ _ _)
   | (with_reducible exact ih2 _ _ _)
   | (with_reducible exact sieveref05_Longest.mono _ _)
   | (with_reducible exact sieveref06_Number.mono _ _ _)
   | (with_reducible exact sieveref06_digitsOf.mono _ _ _)
   | (with_reducible exact LeO.refl _)
   | (with_reducible exact LeO.none _)
   | (with_reducible refine LeO.ite ?_ ?_)
   | (with_reducible refine LeO.bind ?_ (fun _ => ?_))
   | exact ih0 _ _ _
   | exact ih1 _ _ _
   | exact ih2 _ _ _
   | exact sieveref05_Longest.mono _ _
   | exact sieveref06_Number.mono _ _ _
   | exact sieveref06_digitsOf.mono _ _ _
   | exact LeO.none _
   | refine LeO.ite ?_ ?_
   | refine LeO.bind ?_ (fun _ => ?_)
  ·intro y0 y1 y2
   unfold sieveref06_Whole.j2
   repeat' first
   | (with_reducible exact ih0 _ _ _)
   | (with_reducible exact ih1 _ _ _)
   | (with_reducible exact ih2 _ _ _)
   | (with_reducible exact sieveref05_Longest.mono _ _)
   | (with_reducible exact sieveref06_Number.mono _ _ _)
   | (with_reducible exact sieveref06_digitsOf.mono _ _ _)
   | (with_reducible exact LeO.refl _)
   | (with_reducible exact LeO.none _)
   | (with_reducible refine LeO.ite ?_ ?_)
   | (with_reducible refine LeO.bind ?_ (fun _ => ?_))
   | exact ih0 _ _ _
   | exact ih1 _ _ _
   | exact ih2 _ _ _
   | exact sieveref05_Longest.mono _ _
   | exact sieveref06_Number.mono _ _ _
   | exact sieveref06_digitsOf.mono _ _ _
   | exact LeO.none _
   | refine LeO.ite ?_ ?_
   | refine LeO.bind ?_ (fun _ => ?_)
theorem sieveref06_Whole.mono : ∀ a0 a1 k, LeO (sieveref06_Whole.f k a0 a1) (sieveref06_Whole.f (k + 1) a0 a1) := by
 intro a0 a1 k
 obtain ⟨ih0, ih1, ih2⟩ := sieveref06_Whole.mono_l k
 unfold sieveref06_Whole.f
 repeat' first
   | (with_reducible exact ih0 _ _ _)
   | (with_reducible exact ih1 _ _ _)
   | (with_reducible exact ih2 _ _ _)
   | (with_reducible exact sieveref05_Longest.mono _ _)
   | (with_reducible exact sieveref06_Number.mono _ _ _)
   | (with_reducible exact sieveref06_digitsOf.mono _ _ _)
   | (with_reducible exact LeO.refl _)
   | (with_reducible exact LeO.none _)
   | (with_reducible refine LeO.ite ?_ ?_)
   | (with_reducible refine LeO.bind ?_ (fun _ => ?_))
   | exact ih0 _ _ _
   | exact ih1 _ _ _
   | exact ih2 _ _ _
   | exact sieveref05_Longest.mono _ _
   | exact sieveref06_Number.mono _ _ _
   | exact sieveref06_digitsOf.mono _ _ _
   | exact LeO.none _
   | refine LeO.ite ?_ ?_
   | refine LeO.bind ?_ (fun _ => ?_)
set_option maxHeartbeats 8000000 in
set_option maxRecDepth 100000 in
theorem sieveref06_Whole.calls (k : Nat) (a0 : ByteArray) (a1 : Bool) (r1 : ByteArray) (r2 : Int) (w : World) (h : sieveref06_Whole.f k a0 a1 = some (r1, r2)) :
  Calls Try.prog 29 #[.string a0, .bool a1] w fun e w' => e = .returned (.tuple #[.string r1, .int .i64 r2]) ∧ Below w.heap.size w w' := by
 have HB := Aside0.mk (Below.refl w.heap.size w)
 have H : (if a0.toList = ([] : List UInt8) then (sieveref06_Whole.j0 k a0 a1 false) else (if 0 < (a0.size : Int) then (sieveref06_Whole.j0 k a0 a1 ((bt a0 0) == 35)) else (none))) = some (r1, r2) := h
 clear h
 have HC3 := Aside0.mk H
 clear H
 go_enter Try.func29, Try.ntmps29
 go_upto_region 1 with (fail)
 go_cut [19] (fun v19 wc => ∃ (kq : Nat) (x19_2 : Bool), v19 = .bool x19_2 ∧ Aside0 (sieveref06_Whole.j0 kq a0 a1 x19_2 = some (r1, r2)) ∧ Aside0 (kq ≤ k) ∧ Aside0 (Below w.heap.size w wc))
 case first =>
  have H := HC3.out
  clear HC3
  by_cases c4 : a0.toList = ([] : List UInt8)
  ·rw [if_pos c4] at H
   have c4b0 : (a0.toList == ([] : List UInt8)) = true := beq_iff_eq.mpr c4
   have c4b1 : (a0.toList != ([] : List UInt8)) = false := bne_eq_false_iff_eq.mpr c4
   clear c4
   (first | rw [c4b0] | (simp only [i64_w, i32_w]; rw [c4b0]) | skip)
   have H' := Aside0.mk H
   clear H
   go_wp2
   go_meet
   case rel => exact ⟨_, (false), (by first | rfl | (simp; done) | (simp [*]; done) | (unfold bt; split <;> first | rfl | (exfalso; simp_all; done) | (exfalso; simp_all; omega))), H', ⟨by first | omega | exact Nat.le_refl _⟩, ⟨by repeat (first | (with_reducible first | exact HB.out | apply below_alloc | apply pw_below_drewN | apply below_drew1) | exact HB.out)⟩⟩
  ·rw [if_neg c4] at H
   have c4b0 : (a0.toList == ([] : List UInt8)) = false := beq_eq_false_iff_ne.mpr c4
   have c4b1 : (a0.toList != ([] : List UInt8)) = true := bne_iff_ne.mpr c4
   (first | rw [c4b0] | (simp only [i64_w, i32_w]; rw [c4b0]) | skip)
   by_cases c5 : 0 < (a0.size : Int)
   ·rw [if_pos c5] at H
    have c5b0 : decide (0 < (a0.size : Int)) = true := decide_eq_true c5
    have c5b1 : decide (0 < a0.size) = true := decide_eq_true (by omega)
    clear c5
    have H' := Aside0.mk H
    clear H
    have p6 : 0 ≤ (0 : Int) := (by omega)
    have q6 : 0 < a0.size := (by have : (0 : Int) < (a0.size : Int) := of_decide_eq_true (by first | (with_reducible assumption) | assumption); omega)
    have hx6 : ∀ h : 0 < a0.size, ((a0[0]'h).toNat : Int) = bt a0 0 := bt_at a0 0
    clear p6
    have qi6 : (0 < (a0.size : Int)) = True := eq_true (of_decide_eq_true (by first | (with_reducible assumption) | assumption))
    replace q6 := eq_true q6
    go_wp2
    go_meet
    case rel => exact ⟨_, (((bt a0 0) == 35)), (by first | rfl | (simp; done) | (simp [*]; done) | (unfold bt; split <;> first | rfl | (exfalso; simp_all; done) | (exfalso; simp_all; omega))), H', ⟨by first | omega | exact Nat.le_refl _⟩, ⟨by repeat (first | (with_reducible first | exact HB.out | apply below_alloc | apply pw_below_drewN | apply below_drew1) | exact HB.out)⟩⟩
   ·rw [if_neg c5] at H
    exact absurd H (by simp)
 case rest =>
  clear HC3
  try clear c2
  try clear p2
  try clear c4
  try clear c4b0
  try clear c4b1
  try clear c5
  try clear c5b0
  try clear c5b1
  try clear p6
  try clear q6
  try clear hx6
  try clear qi6
  try clear p6
  try clear q6
  obtain ⟨kq, x19_2, rfl, HA, HJ2, HB⟩ := hcut
  cases kq with
  | zero => exact absurd HA.out (by simp [sieveref06_Whole.j0])
  | succ kj2 =>
   have H := HA.out
   clear HA
   simp only [sieveref06_Whole.j0] at H
   by_cases c7 : x19_2 = true
   ·subst c7
    have H1 : (if (a0.size : Int) > 1 then (if 1 < (a0.size : Int) then (if (bt a0 1) = 120 then (sieveref06_Whole.j1 kj2 a0 1 true) else (sieveref06_Whole.j1 kj2 a0 1 ((bt a0 1) == 88))) else (none)) else (sieveref06_Whole.j1 kj2 a0 1 false)) = some (r1, r2) := by rw [if_pos rfl] at H; exact H
    clear H
    have H := H1
    clear H1
    have HC8 := Aside0.mk H
    clear H
    go_upto_region 3 with (fail)
    go_cut [7] (fun v7 wc => ∃ (kq : Nat) (x7_7 : Bool), v7 = .bool x7_7 ∧ Aside0 (sieveref06_Whole.j1 kq a0 1 x7_7 = some (r1, r2)) ∧ Aside0 (kq ≤ kj2) ∧ Aside0 (Below w.heap.size w wc))
    case first =>
     have H := HC8.out
     clear HC8
     by_cases c9 : (a0.size : Int) > 1
     ·rw [if_pos c9] at H
      have c9b0 : decide (1 < (a0.size : Int)) = true := decide_eq_true c9
      have c9b1 : decide (1 < a0.size) = true := decide_eq_true (by omega)
      clear c9
      (first | rw [c9b0] | (simp only [i64_w, i32_w]; rw [c9b0]) | skip)
      by_cases c10 : 1 < (a0.size : Int)
      ·rw [if_pos c10] at H
       have c10b0 : decide (1 < (a0.size : Int)) = true := decide_eq_true c10
       have c10b1 : decide (1 < a0.size) = true := decide_eq_true (by omega)
       clear c10
       by_cases c12 : (bt a0 1) = 120
       ·rw [if_pos c12] at H
        have c12b0 : ((bt a0 1) == 120) = true := beq_iff_eq.mpr c12
        have c12b1 : ((bt a0 1) != 120) = false := bne_eq_false_iff_eq.mpr c12
        clear c12
        have H' := Aside0.mk H
        clear H
        have p11 : 0 ≤ (1 : Int) := (by omega)
        have q11 : 1 < a0.size := (by have : (1 : Int) < (a0.size : Int) := of_decide_eq_true (by first | (with_reducible assumption) | assumption); omega)
        have hx11 : ∀ h : 1 < a0.size, ((a0[1]'h).toNat : Int) = bt a0 1 := bt_at a0 1
        clear p11
        have qi11 : (1 < (a0.size : Int)) = True := eq_true (of_decide_eq_true (by first | (with_reducible assumption) | assumption))
        replace q11 := eq_true q11
        go_wp2
        go_meet
        case rel => exact ⟨_, (true), (by first | rfl | (simp; done) | (simp [*]; done) | (unfold bt; split <;> first | rfl | (exfalso; simp_all; done) | (exfalso; simp_all; omega))), H', ⟨by have := HJ2.out; first | omega | exact Nat.le_refl _⟩, ⟨by repeat (first | (with_reducible first | exact HB.out | apply below_alloc | apply pw_below_drewN | apply below_drew1) | exact HB.out)⟩⟩
       ·rw [if_neg c12] at H
        have c12b0 : ((bt a0 1) == 120) = false := beq_eq_false_iff_ne.mpr c12
        have c12b1 : ((bt a0 1) != 120) = true := bne_iff_ne.mpr c12
        have H' := Aside0.mk H
        clear H
        have p11 : 0 ≤ (1 : Int) := (by omega)
        have q11 : 1 < a0.size := (by have : (1 : Int) < (a0.size : Int) := of_decide_eq_true (by first | (with_reducible assumption) | assumption); omega)
        have hx11 : ∀ h : 1 < a0.size, ((a0[1]'h).toNat : Int) = bt a0 1 := bt_at a0 1
        clear p11
        have qi11 : (1 < (a0.size : Int)) = True := eq_true (of_decide_eq_true (by first | (with_reducible assumption) | assumption))
        replace q11 := eq_true q11
        have p13 : 0 ≤ (1 : Int) := (by omega)
        have q13 : 1 < a0.size := (by have : (1 : Int) < (a0.size : Int) := of_decide_eq_true (by first | (with_reducible assumption) | assumption); omega)
        have hx13 : ∀ h : 1 < a0.size, ((a0[1]'h).toNat : Int) = bt a0 1 := bt_at a0 1
        clear p13
        have qi13 : (1 < (a0.size : Int)) = True := eq_true (of_decide_eq_true (by first | (with_reducible assumption) | assumption))
        replace q13 := eq_true q13
        go_wp2
        go_meet
        case rel => exact ⟨_, (((bt a0 1) == 88)), (by first | rfl | (simp; done) | (simp [*]; done) | (unfold bt; split <;> first | rfl | (exfalso; simp_all; done) | (exfalso; simp_all; omega))), H', ⟨by have := HJ2.out; first | omega | exact Nat.le_refl _⟩, ⟨by repeat (first | (with_reducible first | exact HB.out | apply below_alloc | apply pw_below_drewN | apply below_drew1) | exact HB.out)⟩⟩
      ·rw [if_neg c10] at H
       exact absurd H (by simp)
     ·rw [if_neg c9] at H
      have c9b0 : decide (1 < (a0.size : Int)) = false := decide_eq_false c9
      have c9b1 : decide (1 < a0.size) = false := decide_eq_false (by omega)
      clear c9
      (first | rw [c9b0] | (simp only [i64_w, i32_w]; rw [c9b0]) | skip)
      have H' := Aside0.mk H
      clear H
      go_wp2
      go_meet
      case rel => exact ⟨_, (false), (by first | rfl | (simp; done) | (simp [*]; done) | (unfold bt; split <;> first | rfl | (exfalso; simp_all; done) | (exfalso; simp_all; omega))), H', ⟨by have := HJ2.out; first | omega | exact Nat.le_refl _⟩, ⟨by repeat (first | (with_reducible first | exact HB.out | apply below_alloc | apply pw_below_drewN | apply below_drew1) | exact HB.out)⟩⟩
    case rest =>
     clear HC8
     try clear c1
     try clear p1
     try clear q1
     try clear hx1
     try clear qi1
     try clear c2
     try clear p2
     try clear c4
     try clear c4b0
     try clear c4b1
     try clear c5
     try clear c5b0
     try clear c5b1
     try clear p6
     try clear q6
     try clear hx6
     try clear qi6
     try clear c7
     try clear c9
     try clear c9b0
     try clear c9b1
     try clear c10
     try clear c10b0
     try clear c10b1
     try clear p11
     try clear q11
     try clear hx11
     try clear qi11
     try clear c12
     try clear c12b0
     try clear c12b1
     try clear p13
     try clear q13
     try clear hx13
     try clear qi13
     try clear p11
     try clear p13
     try clear p2
     try clear p6
     try clear q11
     try clear q13
     try clear q6
     obtain ⟨kq, x7_7, rfl, HA, HJ7, HB⟩ := hcut
     cases kq with
     | zero => exact absurd HA.out (by simp [sieveref06_Whole.j1])
     | succ kj7 =>
      have H := HA.out
      clear HA
      simp only [sieveref06_Whole.j1] at H
      have HC14 := Aside0.mk H
      clear H
      go_upto_if 33 with (fail)
      go_cut [6] (fun v6 wc => ∃ (kq : Nat) (x6_13 : Int), v6 = .int .i64 x6_13 ∧ Aside0 (sieveref06_Whole.j2 kq a0 x6_13 x7_7 = some (r1, r2)) ∧ Aside0 (kq ≤ kj7) ∧ Aside0 (Below w.heap.size w wc))
      case first =>
       have H := HC14.out
       clear HC14
       by_cases c15 : x7_7 = true
       ·subst c15
        have H1 : (sieveref06_Whole.j2 kj7 a0 2 true) = some (r1, r2) := by rw [if_pos rfl] at H; exact H
        clear H
        have H := H1
        clear H1
        have H' := Aside0.mk H
        clear H
        go_wp2
        go_meet
        case rel => exact ⟨_, (2), (by first | rfl | (simp; done) | (simp [*]; done) | (unfold bt; split <;> first | rfl | (exfalso; simp_all; done) | (exfalso; simp_all; omega))), H', ⟨by have := HJ2.out; have := HJ7.out; first | omega | exact Nat.le_refl _⟩, ⟨by repeat (first | (with_reducible first | exact HB.out | apply below_alloc | apply pw_below_drewN | apply below_drew1) | exact HB.out)⟩⟩
       ·replace c15 := Bool.eq_false_iff.mpr c15
        subst c15
        have H1 : (sieveref06_Whole.j2 kj7 a0 1 false) = some (r1, r2) := by rw [if_neg (show ¬ (false = true) by decide)] at H; exact H
        clear H
        have H := H1
        clear H1
        have H' := Aside0.mk H
        clear H
        go_wp2
        go_meet
        case rel => exact ⟨_, (1), (by first | rfl | (simp; done) | (simp [*]; done) | (unfold bt; split <;> first | rfl | (exfalso; simp_all; done) | (exfalso; simp_all; omega))), H', ⟨by have := HJ2.out; have := HJ7.out; first | omega | exact Nat.le_refl _⟩, ⟨by repeat (first | (with_reducible first | exact HB.out | apply below_alloc | apply pw_below_drewN | apply below_drew1) | exact HB.out)⟩⟩
      case rest =>
       clear HC14
       try clear c1
       try clear p1
       try clear q1
       try clear hx1
       try clear qi1
       try clear c2
       try clear p2
       try clear c4
       try clear c4b0
       try clear c4b1
       try clear c5
       try clear c5b0
       try clear c5b1
       try clear p6
       try clear q6
       try clear hx6
       try clear qi6
       try clear c7
       try clear c9
       try clear c9b0
       try clear c9b1
       try clear c10
       try clear c10b0
       try clear c10b1
       try clear p11
       try clear q11
       try clear hx11
       try clear qi11
       try clear c12
       try clear c12b0
       try clear c12b1
       try clear p13
       try clear q13
       try clear hx13
       try clear qi13
       try clear c15
       try clear p1
       try clear p11
       try clear p13
       try clear p2
       try clear p6
       try clear q1
       try clear q11
       try clear q13
       try clear q6
       obtain ⟨kq, x6_13, rfl, HA, HJ13, HB⟩ := hcut
       cases kq with
       | zero => exact absurd HA.out (by simp [sieveref06_Whole.j2])
       | succ kj13 =>
        have H := HA.out
        clear HA
        simp only [sieveref06_Whole.j2] at H
        by_cases c16 : 0 ≤ x6_13
        ·rw [if_pos c16] at H
         have c16b0 := eq_true c16
         have c16b1 : decide (0 ≤ x6_13) = true := decide_eq_true c16
         clear c16
         by_cases c17 : x6_13 ≤ (a0.size : Int)
         ·rw [if_pos c17] at H
          have c17b0 := eq_true c17
          have c17b1 : decide (x6_13 ≤ (a0.size : Int)) = true := decide_eq_true c17
          clear c17
          replace H := Option.bind_eq_some_iff.mp H
          obtain ⟨t255, A180, H⟩ := H
          replace H : (if t255.toList = ([] : List UInt8) then (some ((⟨#[]⟩ : ByteArray), 0)) else (if (wrap64 (x6_13 + (t255.size : Int))) < (a0.size : Int) then (if 0 ≤ (wrap64 (x6_13 + (t255.size : Int))) then (if (bt a0 (wrap64 (x6_13 + (t255.size : Int)))) = 59 then ((sieveref06_Number.f kj13 t255 x7_7).bind fun bt256 => (some (Utf8.encode bt256.1, wrap64 ((wrap64 (x6_13 + (t255.size : Int))) + 1)))) else ((sieveref06_Number.f kj13 t255 x7_7).bind fun bt258 => (some (Utf8.encode bt258.1, wrap64 (x6_13 + (t255.size : Int)))))) else (none)) else ((sieveref06_Number.f kj13 t255 x7_7).bind fun bt260 => (some (Utf8.encode bt260.1, wrap64 (x6_13 + (t255.size : Int))))))) = some (r1, r2) := H
          have A18 := Aside0.mk A180
          clear A180
          by_cases c19 : t255.toList = ([] : List UInt8)
          ·rw [if_pos c19] at H
           have c19b0 : (t255.toList == ([] : List UInt8)) = true := beq_iff_eq.mpr c19
           have c19b1 : (t255.toList != ([] : List UInt8)) = false := bne_eq_false_iff_eq.mpr c19
           clear c19
           simp only [Option.some.injEq, Prod.mk.injEq] at H
           obtain ⟨rfl, rfl⟩ := H
           go_wp2_with (first | ((with_reducible refine gate_callee (f := 45) rfl ?_); refine goesL_ (some 38) rfl rfl Try.func45 (by kernel_rfl) rfl #[.string (a0.extract (x6_13 : Int).toNat a0.size), .bool x7_7] rfl (by (try simp only [List.map_toArray, List.map_cons, List.map_nil]); first | done | rfl | (simp only [List.length_drop, List.length_take]; rfl) | (simp [*] <;> rfl)) ?_; (with_reducible refine (sieveref06_digitsOf.calls kj13 (a0.extract (x6_13 : Int).toNat a0.size) x7_7 t255 _ A18.out).mono ?_); rintro e w' ⟨rfl, ⟨nd, rfl⟩⟩; refine ⟨_, rfl, ?_⟩))
           go_ret2
           exact ⟨by first | rfl | (simp [errW_none, errW_some] <;> rfl) | (simp [*, errW_none, errW_some] <;> rfl), by repeat (first | (with_reducible first | exact HB.out | apply below_alloc | apply pw_below_drewN | apply below_drew1) | exact HB.out)⟩
          ·rw [if_neg c19] at H
           have c19b0 : (t255.toList == ([] : List UInt8)) = false := beq_eq_false_iff_ne.mpr c19
           have c19b1 : (t255.toList != ([] : List UInt8)) = true := bne_iff_ne.mpr c19
           by_cases c20 : (wrap64 (x6_13 + (t255.size : Int))) < (a0.size : Int)
           ·rw [if_pos c20] at H
            have c20b0 : decide ((wrap64 (x6_13 + (t255.size : Int))) < (a0.size : Int)) = true := decide_eq_true c20
            clear c20
            obtain ⟨ji21, hji21⟩ : ∃ j_ : Int, (wrap64 (x6_13 + (t255.size : Int))) = j_ := ⟨_, rfl⟩
            replace H : (if 0 ≤ (ji21) then (if (bt a0 (ji21)) = 59 then ((sieveref06_Number.f kj13 t255 x7_7).bind fun bt256 => (some (Utf8.encode bt256.1, wrap64 ((ji21) + 1)))) else ((sieveref06_Number.f kj13 t255 x7_7).bind fun bt258 => (some (Utf8.encode bt258.1, ji21)))) else (none)) = some (r1, r2) := by first | (rw [hji21] at H; exact H) | (simp only [hji21] at H ⊢; exact H)
            (try rw [hji21] at c20b0)
            (try rw [hji21] at A18)
            have hji21w : (IntKind.i64.wrap (x6_13 + (t255.size : Int))) = ji21 := (i64_w _).trans hji21
            by_cases c22 : 0 ≤ (ji21)
            ·rw [if_pos c22] at H
             have c22b0 : decide (0 ≤ (ji21)) = true := decide_eq_true c22
             clear c22
             by_cases c24 : (bt a0 (ji21)) = 59
             ·rw [if_pos c24] at H
              have c24b0 : ((bt a0 (ji21)) == 59) = true := beq_iff_eq.mpr c24
              have c24b1 : ((bt a0 (ji21)) != 59) = false := bne_eq_false_iff_eq.mpr c24
              clear c24
              replace H := Option.bind_eq_some_iff.mp H
              obtain ⟨⟨t256, t257⟩, A250, H⟩ := H
              replace H : (some (Utf8.encode t256, wrap64 ((ji21) + 1))) = some (r1, r2) := H
              have A25 := Aside0.mk A250
              clear A250
              simp only [Option.some.injEq, Prod.mk.injEq] at H
              obtain ⟨rfl, rfl⟩ := H
              go_wp2_with (first | ((with_reducible refine gate_callee (f := 45) rfl ?_); refine goesL_ (some 38) rfl rfl Try.func45 (by kernel_rfl) rfl #[.string (a0.extract (x6_13 : Int).toNat a0.size), .bool x7_7] rfl (by (try simp only [List.map_toArray, List.map_cons, List.map_nil]); first | done | rfl | (simp only [List.length_drop, List.length_take]; rfl) | (simp [*] <;> rfl)) ?_; (with_reducible refine (sieveref06_digitsOf.calls kj13 (a0.extract (x6_13 : Int).toNat a0.size) x7_7 t255 _ A18.out).mono ?_); rintro e w' ⟨rfl, ⟨nd, rfl⟩⟩; refine ⟨_, rfl, ?_⟩; have p23 : 0 ≤ ((ji21) : Int) := of_decide_eq_true (by first | (with_reducible assumption) | assumption); have q23 : (ji21) < (a0.size : Int) := of_decide_eq_true (by first | (with_reducible assumption) | assumption); have hx23 := bt_at a0 (ji21); replace p23 := eq_true p23; replace q23 := eq_true q23) | ((with_reducible refine gate_callee (f := 48) rfl ?_); refine goesL_ (some 60) rfl rfl Try.func48 (by kernel_rfl) rfl #[.string t255, .bool x7_7] rfl (by (try simp only [List.map_toArray, List.map_cons, List.map_nil]); first | done | rfl | (simp only [List.length_drop, List.length_take]; rfl) | (simp [*] <;> rfl)) ?_; (with_reducible refine (sieveref06_Number.calls kj13 t255 x7_7 t256 t257 _ A25.out).mono ?_); rintro e w26 ⟨rfl, hb⟩; refine ⟨_, rfl, ?_⟩; have n0_ := Aside0.mk (below_step (by repeat (first | (with_reducible first | exact HB.out | apply below_alloc | apply pw_below_drewN | apply below_drew1) | exact HB.out)) hb); clear HB; have HB := n0_; clear n0_; (try clear hb); (try clear hb2); (try clear hk); (try clear hi)))
              go_ret2
              exact ⟨by first | rfl | (simp [errW_none, errW_some] <;> rfl) | (simp only [← hji21]; first | rfl | (simp [errW_none, errW_some] <;> rfl)) | (simp [*, errW_none, errW_some] <;> rfl), by repeat (first | (with_reducible first | exact HB.out | apply below_alloc | apply pw_below_drewN | apply below_drew1) | exact HB.out)⟩
             ·rw [if_neg c24] at H
              have c24b0 : ((bt a0 (ji21)) == 59) = false := beq_eq_false_iff_ne.mpr c24
              have c24b1 : ((bt a0 (ji21)) != 59) = true := bne_iff_ne.mpr c24
              replace H := Option.bind_eq_some_iff.mp H
              obtain ⟨⟨t258, t259⟩, A270, H⟩ := H
              replace H : (some (Utf8.encode t258, ji21)) = some (r1, r2) := H
              have A27 := Aside0.mk A270
              clear A270
              simp only [Option.some.injEq, Prod.mk.injEq] at H
              obtain ⟨rfl, rfl⟩ := H
              go_wp2_with (first | ((with_reducible refine gate_callee (f := 45) rfl ?_); refine goesL_ (some 38) rfl rfl Try.func45 (by kernel_rfl) rfl #[.string (a0.extract (x6_13 : Int).toNat a0.size), .bool x7_7] rfl (by (try simp only [List.map_toArray, List.map_cons, List.map_nil]); first | done | rfl | (simp only [List.length_drop, List.length_take]; rfl) | (simp [*] <;> rfl)) ?_; (with_reducible refine (sieveref06_digitsOf.calls kj13 (a0.extract (x6_13 : Int).toNat a0.size) x7_7 t255 _ A18.out).mono ?_); rintro e w' ⟨rfl, ⟨nd, rfl⟩⟩; refine ⟨_, rfl, ?_⟩; have p23 : 0 ≤ ((ji21) : Int) := of_decide_eq_true (by first | (with_reducible assumption) | assumption); have q23 : (ji21) < (a0.size : Int) := of_decide_eq_true (by first | (with_reducible assumption) | assumption); have hx23 := bt_at a0 (ji21); replace p23 := eq_true p23; replace q23 := eq_true q23) | ((with_reducible refine gate_callee (f := 48) rfl ?_); refine goesL_ (some 60) rfl rfl Try.func48 (by kernel_rfl) rfl #[.string t255, .bool x7_7] rfl (by (try simp only [List.map_toArray, List.map_cons, List.map_nil]); first | done | rfl | (simp only [List.length_drop, List.length_take]; rfl) | (simp [*] <;> rfl)) ?_; (with_reducible refine (sieveref06_Number.calls kj13 t255 x7_7 t258 t259 _ A27.out).mono ?_); rintro e w28 ⟨rfl, hb⟩; refine ⟨_, rfl, ?_⟩; have n0_ := Aside0.mk (below_step (by repeat (first | (with_reducible first | exact HB.out | apply below_alloc | apply pw_below_drewN | apply below_drew1) | exact HB.out)) hb); clear HB; have HB := n0_; clear n0_; (try clear hb); (try clear hb2); (try clear hk); (try clear hi)))
              go_ret2
              exact ⟨by first | rfl | (simp [errW_none, errW_some] <;> rfl) | (simp only [← hji21]; first | rfl | (simp [errW_none, errW_some] <;> rfl)) | (simp [*, errW_none, errW_some] <;> rfl), by repeat (first | (with_reducible first | exact HB.out | apply below_alloc | apply pw_below_drewN | apply below_drew1) | exact HB.out)⟩
            ·rw [if_neg c22] at H
             exact absurd H (by simp)
           ·rw [if_neg c20] at H
            have c20b0 : decide ((wrap64 (x6_13 + (t255.size : Int))) < (a0.size : Int)) = false := decide_eq_false c20
            clear c20
            replace H := Option.bind_eq_some_iff.mp H
            obtain ⟨⟨t260, t261⟩, A290, H⟩ := H
            replace H : (some (Utf8.encode t260, wrap64 (x6_13 + (t255.size : Int)))) = some (r1, r2) := H
            have A29 := Aside0.mk A290
            clear A290
            simp only [Option.some.injEq, Prod.mk.injEq] at H
            obtain ⟨rfl, rfl⟩ := H
            go_wp2_with (first | ((with_reducible refine gate_callee (f := 45) rfl ?_); refine goesL_ (some 38) rfl rfl Try.func45 (by kernel_rfl) rfl #[.string (a0.extract (x6_13 : Int).toNat a0.size), .bool x7_7] rfl (by (try simp only [List.map_toArray, List.map_cons, List.map_nil]); first | done | rfl | (simp only [List.length_drop, List.length_take]; rfl) | (simp [*] <;> rfl)) ?_; (with_reducible refine (sieveref06_digitsOf.calls kj13 (a0.extract (x6_13 : Int).toNat a0.size) x7_7 t255 _ A18.out).mono ?_); rintro e w' ⟨rfl, ⟨nd, rfl⟩⟩; refine ⟨_, rfl, ?_⟩) | ((with_reducible refine gate_callee (f := 48) rfl ?_); refine goesL_ (some 60) rfl rfl Try.func48 (by kernel_rfl) rfl #[.string t255, .bool x7_7] rfl (by (try simp only [List.map_toArray, List.map_cons, List.map_nil]); first | done | rfl | (simp only [List.length_drop, List.length_take]; rfl) | (simp [*] <;> rfl)) ?_; (with_reducible refine (sieveref06_Number.calls kj13 t255 x7_7 t260 t261 _ A29.out).mono ?_); rintro e w30 ⟨rfl, hb⟩; refine ⟨_, rfl, ?_⟩; have n0_ := Aside0.mk (below_step (by repeat (first | (with_reducible first | exact HB.out | apply below_alloc | apply pw_below_drewN | apply below_drew1) | exact HB.out)) hb); clear HB; have HB := n0_; clear n0_; (try clear hb); (try clear hb2); (try clear hk); (try clear hi)))
            go_ret2
            exact ⟨by first | rfl | (simp [errW_none, errW_some] <;> rfl) | (simp [*, errW_none, errW_some] <;> rfl), by repeat (first | (with_reducible first | exact HB.out | apply below_alloc | apply pw_below_drewN | apply below_drew1) | exact HB.out)⟩
         ·rw [if_neg c17] at H
          exact absurd H (by simp)
        ·rw [if_neg c16] at H
         exact absurd H (by simp)
   ·replace c7 := Bool.eq_false_iff.mpr c7
    subst c7
    have H1 : ((sieveref05_Longest.f kj2 a0).bind fun bt262 => (if bt262.1 = 0 then (some ((⟨#[]⟩ : ByteArray), 0)) else (if a1 = true then (if 0 ≤ (wrap64 (bt262.1 - 1)) then (if (wrap64 (bt262.1 - 1)) < (a0.size : Int) then (if (bt a0 (wrap64 (bt262.1 - 1))) = 59 then (some (Hc_text bt262.2, bt262.1)) else (if bt262.1 < (a0.size : Int) then (if 0 ≤ bt262.1 then (if (bt a0 bt262.1) = 61 then (some ((⟨#[]⟩ : ByteArray), 0)) else ((sieveref04_Letter.f (wrap32 (bt a0 bt262.1))).bind fun t266 => (if t266 = true then (some ((⟨#[]⟩ : ByteArray), 0)) else ((sieveref04_Digit.f (wrap32 (bt a0 bt262.1))).bind fun t267 => (if t267 = true then (some ((⟨#[]⟩ : ByteArray), 0)) else (some (Hc_text bt262.2, bt262.1))))))) else (none)) else (some (Hc_text bt262.2, bt262.1)))) else (none)) else (none)) else (some (Hc_text bt262.2, bt262.1))))) = some (r1, r2) := by rw [if_neg (show ¬ (false = true) by decide)] at H; exact H
    clear H
    have H := H1
    clear H1
    replace H := Option.bind_eq_some_iff.mp H
    obtain ⟨⟨t262, t263⟩, A310, H⟩ := H
    replace H : (if t262 = 0 then (some ((⟨#[]⟩ : ByteArray), 0)) else (if a1 = true then (if 0 ≤ (wrap64 (t262 - 1)) then (if (wrap64 (t262 - 1)) < (a0.size : Int) then (if (bt a0 (wrap64 (t262 - 1))) = 59 then (some (Hc_text t263, t262)) else (if t262 < (a0.size : Int) then (if 0 ≤ t262 then (if (bt a0 t262) = 61 then (some ((⟨#[]⟩ : ByteArray), 0)) else ((sieveref04_Letter.f (wrap32 (bt a0 t262))).bind fun t266 => (if t266 = true then (some ((⟨#[]⟩ : ByteArray), 0)) else ((sieveref04_Digit.f (wrap32 (bt a0 t262))).bind fun t267 => (if t267 = true then (some ((⟨#[]⟩ : ByteArray), 0)) else (some (Hc_text t263, t262))))))) else (none)) else (some (Hc_text t263, t262)))) else (none)) else (none)) else (some (Hc_text t263, t262)))) = some (r1, r2) := H
    have A31 := Aside0.mk A310
    clear A310
    by_cases c32 : t262 = 0
    ·rw [if_pos c32] at H
     have c32b0 : (t262 == 0) = true := beq_iff_eq.mpr c32
     have c32b1 : (t262 != 0) = false := bne_eq_false_iff_eq.mpr c32
     clear c32
     simp only [Option.some.injEq, Prod.mk.injEq] at H
     obtain ⟨rfl, rfl⟩ := H
     go_wp2_with (first | ((with_reducible refine gate_callee (f := 47) rfl ?_); refine goesL_ (some 68) rfl rfl Try.func47 (by kernel_rfl) rfl #[.string a0] rfl (by (try simp only [List.map_toArray, List.map_cons, List.map_nil]); first | done | rfl | (simp only [List.length_drop, List.length_take]; rfl) | (simp [*] <;> rfl)) ?_; (with_reducible refine (sieveref05_Longest.calls kj2 a0 t262 t263 _ A31.out).mono ?_); rintro e w33 ⟨v264, rfl, ho0, hb⟩; refine ⟨_, rfl, ?_⟩; have n0_ := Aside0.mk (Kd.R_lower ho0 (below_size (by repeat (first | (with_reducible first | exact HB.out | apply below_alloc | apply pw_below_drewN | apply below_drew1) | exact HB.out)))); have n1_ := Aside0.mk (below_step (by repeat (first | (with_reducible first | exact HB.out | apply below_alloc | apply pw_below_drewN | apply below_drew1) | exact HB.out)) hb); clear HB; have HO265 := n0_; have HB := n1_; clear n0_ n1_; (try clear hb); (try clear hb2); (try clear hk); (try clear hi); (try clear ho0)))
     go_ret2
     exact ⟨by first | rfl | (simp [errW_none, errW_some] <;> rfl) | (simp [*, errW_none, errW_some] <;> rfl), by repeat (first | (with_reducible first | exact HB.out | apply below_alloc | apply pw_below_drewN | apply below_drew1) | exact HB.out)⟩
    ·rw [if_neg c32] at H
     have c32b0 : (t262 == 0) = false := beq_eq_false_iff_ne.mpr c32
     have c32b1 : (t262 != 0) = true := bne_iff_ne.mpr c32
     by_cases c34 : a1 = true
     ·subst c34
      have H1 : (if 0 ≤ (wrap64 (t262 - 1)) then (if (wrap64 (t262 - 1)) < (a0.size : Int) then (if (bt a0 (wrap64 (t262 - 1))) = 59 then (some (Hc_text t263, t262)) else (if t262 < (a0.size : Int) then (if 0 ≤ t262 then (if (bt a0 t262) = 61 then (some ((⟨#[]⟩ : ByteArray), 0)) else ((sieveref04_Letter.f (wrap32 (bt a0 t262))).bind fun t266 => (if t266 = true then (some ((⟨#[]⟩ : ByteArray), 0)) else ((sieveref04_Digit.f (wrap32 (bt a0 t262))).bind fun t267 => (if t267 = true then (some ((⟨#[]⟩ : ByteArray), 0)) else (some (Hc_text t263, t262))))))) else (none)) else (some (Hc_text t263, t262)))) else (none)) else (none)) = some (r1, r2) := by rw [if_pos rfl] at H; exact H
      clear H
      have H := H1
      clear H1
      obtain ⟨ji35, hji35⟩ : ∃ j_ : Int, (wrap64 (t262 - 1)) = j_ := ⟨_, rfl⟩
      replace H : (if 0 ≤ (ji35) then (if (ji35) < (a0.size : Int) then (if (bt a0 (ji35)) = 59 then (some (Hc_text t263, t262)) else (if t262 < (a0.size : Int) then (if 0 ≤ t262 then (if (bt a0 t262) = 61 then (some ((⟨#[]⟩ : ByteArray), 0)) else ((sieveref04_Letter.f (wrap32 (bt a0 t262))).bind fun t266 => (if t266 = true then (some ((⟨#[]⟩ : ByteArray), 0)) else ((sieveref04_Digit.f (wrap32 (bt a0 t262))).bind fun t267 => (if t267 = true then (some ((⟨#[]⟩ : ByteArray), 0)) else (some (Hc_text t263, t262))))))) else (none)) else (some (Hc_text t263, t262)))) else (none)) else (none)) = some (r1, r2) := by first | (rw [hji35] at H; exact H) | (simp only [hji35] at H ⊢; exact H)
      (try rw [hji35] at A31)
      have hji35w : (IntKind.i64.wrap (t262 - 1)) = ji35 := (i64_w _).trans hji35
      by_cases c36 : 0 ≤ (ji35)
      ·rw [if_pos c36] at H
       have c36b0 : decide (0 ≤ (ji35)) = true := decide_eq_true c36
       clear c36
       by_cases c37 : (ji35) < (a0.size : Int)
       ·rw [if_pos c37] at H
        have c37b0 : decide ((ji35) < (a0.size : Int)) = true := decide_eq_true c37
        clear c37
        by_cases c39 : (bt a0 (ji35)) = 59
        ·rw [if_pos c39] at H
         have c39b0 : ((bt a0 (ji35)) == 59) = true := beq_iff_eq.mpr c39
         have c39b1 : ((bt a0 (ji35)) != 59) = false := bne_eq_false_iff_eq.mpr c39
         clear c39
         simp only [Option.some.injEq, Prod.mk.injEq] at H
         obtain ⟨rfl, rfl⟩ := H
         go_wp2_with (first | ((with_reducible refine gate_callee (f := 47) rfl ?_); refine goesL_ (some 68) rfl rfl Try.func47 (by kernel_rfl) rfl #[.string a0] rfl (by (try simp only [List.map_toArray, List.map_cons, List.map_nil]); first | done | rfl | (simp only [List.length_drop, List.length_take]; rfl) | (simp [*] <;> rfl)) ?_; (with_reducible refine (sieveref05_Longest.calls kj2 a0 t262 t263 _ A31.out).mono ?_); rintro e w40 ⟨v264, rfl, ho0, hb⟩; refine ⟨_, rfl, ?_⟩; have n0_ := Aside0.mk (Kd.R_lower ho0 (below_size (by repeat (first | (with_reducible first | exact HB.out | apply below_alloc | apply pw_below_drewN | apply below_drew1) | exact HB.out)))); have n1_ := Aside0.mk (below_step (by repeat (first | (with_reducible first | exact HB.out | apply below_alloc | apply pw_below_drewN | apply below_drew1) | exact HB.out)) hb); clear HB; have HO265 := n0_; have HB := n1_; clear n0_ n1_; (try clear hb); (try clear hb2); (try clear hk); (try clear hi); (try clear ho0); have p38 : 0 ≤ ((ji35) : Int) := of_decide_eq_true (by first | (with_reducible assumption) | assumption); have q38 : (ji35) < (a0.size : Int) := of_decide_eq_true (by first | (with_reducible assumption) | assumption); have hx38 := bt_at a0 (ji35); replace p38 := eq_true p38; replace q38 := eq_true q38; have hcv41 := Hc_own_runes (P := Try.prog) Try.underlying29 Try.underlying21 Try.underlying9 (Kd.own_of_R HO265.out)))
         go_ret2
         exact ⟨by first | rfl | (simp [errW_none, errW_some] <;> rfl) | (simp only [← hji35]; first | rfl | (simp [errW_none, errW_some] <;> rfl)) | (simp [*, errW_none, errW_some] <;> rfl), by repeat (first | (with_reducible first | exact HB.out | apply below_alloc | apply pw_below_drewN | apply below_drew1) | exact HB.out)⟩
        ·rw [if_neg c39] at H
         have c39b0 : ((bt a0 (ji35)) == 59) = false := beq_eq_false_iff_ne.mpr c39
         have c39b1 : ((bt a0 (ji35)) != 59) = true := bne_iff_ne.mpr c39
         by_cases c42 : t262 < (a0.size : Int)
         ·rw [if_pos c42] at H
          have c42b0 : decide (t262 < (a0.size : Int)) = true := decide_eq_true c42
          clear c42
          by_cases c43 : 0 ≤ t262
          ·rw [if_pos c43] at H
           have c43b0 : decide (0 ≤ t262) = true := decide_eq_true c43
           clear c43
           by_cases c45 : (bt a0 t262) = 61
           ·rw [if_pos c45] at H
            have c45b0 : ((bt a0 t262) == 61) = true := beq_iff_eq.mpr c45
            have c45b1 : ((bt a0 t262) != 61) = false := bne_eq_false_iff_eq.mpr c45
            clear c45
            simp only [Option.some.injEq, Prod.mk.injEq] at H
            obtain ⟨rfl, rfl⟩ := H
            go_wp2_with (first | ((with_reducible refine gate_callee (f := 47) rfl ?_); refine goesL_ (some 68) rfl rfl Try.func47 (by kernel_rfl) rfl #[.string a0] rfl (by (try simp only [List.map_toArray, List.map_cons, List.map_nil]); first | done | rfl | (simp only [List.length_drop, List.length_take]; rfl) | (simp [*] <;> rfl)) ?_; (with_reducible refine (sieveref05_Longest.calls kj2 a0 t262 t263 _ A31.out).mono ?_); rintro e w46 ⟨v264, rfl, ho0, hb⟩; refine ⟨_, rfl, ?_⟩; have n0_ := Aside0.mk (Kd.R_lower ho0 (below_size (by repeat (first | (with_reducible first | exact HB.out | apply below_alloc | apply pw_below_drewN | apply below_drew1) | exact HB.out)))); have n1_ := Aside0.mk (below_step (by repeat (first | (with_reducible first | exact HB.out | apply below_alloc | apply pw_below_drewN | apply below_drew1) | exact HB.out)) hb); clear HB; have HO265 := n0_; have HB := n1_; clear n0_ n1_; (try clear hb); (try clear hb2); (try clear hk); (try clear hi); (try clear ho0); have p38 : 0 ≤ ((ji35) : Int) := of_decide_eq_true (by first | (with_reducible assumption) | assumption); have q38 : (ji35) < (a0.size : Int) := of_decide_eq_true (by first | (with_reducible assumption) | assumption); have hx38 := bt_at a0 (ji35); replace p38 := eq_true p38; replace q38 := eq_true q38; have p44 : 0 ≤ (t262 : Int) := of_decide_eq_true (by first | (with_reducible assumption) | assumption); have q44 : t262 < (a0.size : Int) := of_decide_eq_true (by first | (with_reducible assumption) | assumption); have hx44 := bt_at a0 t262; replace p44 := eq_true p44; replace q44 := eq_true q44))
            go_ret2
            exact ⟨by first | rfl | (simp [errW_none, errW_some] <;> rfl) | (simp only [← hji35]; first | rfl | (simp [errW_none, errW_some] <;> rfl)) | (simp [*, errW_none, errW_some] <;> rfl), by repeat (first | (with_reducible first | exact HB.out | apply below_alloc | apply pw_below_drewN | apply below_drew1) | exact HB.out)⟩
           ·rw [if_neg c45] at H
            have c45b0 : ((bt a0 t262) == 61) = false := beq_eq_false_iff_ne.mpr c45
            have c45b1 : ((bt a0 t262) != 61) = true := bne_iff_ne.mpr c45
            replace H := Option.bind_eq_some_iff.mp H
            obtain ⟨t266, A480, H⟩ := H
            replace H : (if t266 = true then (some ((⟨#[]⟩ : ByteArray), 0)) else ((sieveref04_Digit.f (wrap32 (bt a0 t262))).bind fun t267 => (if t267 = true then (some ((⟨#[]⟩ : ByteArray), 0)) else (some (Hc_text t263, t262))))) = some (r1, r2) := H
            have A48 := Aside0.mk A480
            clear A480
            by_cases c49 : t266 = true
            ·subst c49
             have H1 : (some ((⟨#[]⟩ : ByteArray), 0)) = some (r1, r2) := by rw [if_pos rfl] at H; exact H
             clear H
             have H := H1
             clear H1
             simp only [Option.some.injEq, Prod.mk.injEq] at H
             obtain ⟨rfl, rfl⟩ := H
             go_wp2_with (first | ((with_reducible refine gate_callee (f := 47) rfl ?_); refine goesL_ (some 68) rfl rfl Try.func47 (by kernel_rfl) rfl #[.string a0] rfl (by (try simp only [List.map_toArray, List.map_cons, List.map_nil]); first | done | rfl | (simp only [List.length_drop, List.length_take]; rfl) | (simp [*] <;> rfl)) ?_; (with_reducible refine (sieveref05_Longest.calls kj2 a0 t262 t263 _ A31.out).mono ?_); rintro e w50 ⟨v264, rfl, ho0, hb⟩; refine ⟨_, rfl, ?_⟩; have n0_ := Aside0.mk (Kd.R_lower ho0 (below_size (by repeat (first | (with_reducible first | exact HB.out | apply below_alloc | apply pw_below_drewN | apply below_drew1) | exact HB.out)))); have n1_ := Aside0.mk (below_step (by repeat (first | (with_reducible first | exact HB.out | apply below_alloc | apply pw_below_drewN | apply below_drew1) | exact HB.out)) hb); clear HB; have HO265 := n0_; have HB := n1_; clear n0_ n1_; (try clear hb); (try clear hb2); (try clear hk); (try clear hi); (try clear ho0); have p38 : 0 ≤ ((ji35) : Int) := of_decide_eq_true (by first | (with_reducible assumption) | assumption); have q38 : (ji35) < (a0.size : Int) := of_decide_eq_true (by first | (with_reducible assumption) | assumption); have hx38 := bt_at a0 (ji35); replace p38 := eq_true p38; replace q38 := eq_true q38; have p44 : 0 ≤ (t262 : Int) := of_decide_eq_true (by first | (with_reducible assumption) | assumption); have q44 : t262 < (a0.size : Int) := of_decide_eq_true (by first | (with_reducible assumption) | assumption); have hx44 := bt_at a0 t262; replace p44 := eq_true p44; replace q44 := eq_true q44; have p47 : 0 ≤ (t262 : Int) := of_decide_eq_true (by first | (with_reducible assumption) | assumption); have q47 : t262 < (a0.size : Int) := of_decide_eq_true (by first | (with_reducible assumption) | assumption); have hx47 := bt_at a0 t262; replace p47 := eq_true p47; replace q47 := eq_true q47) | (go_at_call 49; (with_reducible refine (sieveref04_Letter.calls (wrap32 (bt a0 t262)) true _ A48.out).mono ?_); rintro e w' ⟨rfl, ⟨nd, rfl⟩⟩))
             go_ret2
             exact ⟨by first | rfl | (simp [errW_none, errW_some] <;> rfl) | (simp only [← hji35]; first | rfl | (simp [errW_none, errW_some] <;> rfl)) | (simp [*, errW_none, errW_some] <;> rfl), by repeat (first | (with_reducible first | exact HB.out | apply below_alloc | apply pw_below_drewN | apply below_drew1) | exact HB.out)⟩
            ·replace c49 := Bool.eq_false_iff.mpr c49
             subst c49
             have H1 : ((sieveref04_Digit.f (wrap32 (bt a0 t262))).bind fun t267 => (if t267 = true then (some ((⟨#[]⟩ : ByteArray), 0)) else (some (Hc_text t263, t262)))) = some (r1, r2) := by rw [if_neg (show ¬ (false = true) by decide)] at H; exact H
             clear H
             have H := H1
             clear H1
             replace H := Option.bind_eq_some_iff.mp H
             obtain ⟨t267, A520, H⟩ := H
             replace H : (if t267 = true then (some ((⟨#[]⟩ : ByteArray), 0)) else (some (Hc_text t263, t262))) = some (r1, r2) := H
             have A52 := Aside0.mk A520
             clear A520
             by_cases c53 : t267 = true
             ·subst c53
              have H1 : (some ((⟨#[]⟩ : ByteArray), 0)) = some (r1, r2) := by rw [if_pos rfl] at H; exact H
              clear H
              have H := H1
              clear H1
              simp only [Option.some.injEq, Prod.mk.injEq] at H
              obtain ⟨rfl, rfl⟩ := H
              go_wp2_with (first | ((with_reducible refine gate_callee (f := 47) rfl ?_); refine goesL_ (some 68) rfl rfl Try.func47 (by kernel_rfl) rfl #[.string a0] rfl (by (try simp only [List.map_toArray, List.map_cons, List.map_nil]); first | done | rfl | (simp only [List.length_drop, List.length_take]; rfl) | (simp [*] <;> rfl)) ?_; (with_reducible refine (sieveref05_Longest.calls kj2 a0 t262 t263 _ A31.out).mono ?_); rintro e w54 ⟨v264, rfl, ho0, hb⟩; refine ⟨_, rfl, ?_⟩; have n0_ := Aside0.mk (Kd.R_lower ho0 (below_size (by repeat (first | (with_reducible first | exact HB.out | apply below_alloc | apply pw_below_drewN | apply below_drew1) | exact HB.out)))); have n1_ := Aside0.mk (below_step (by repeat (first | (with_reducible first | exact HB.out | apply below_alloc | apply pw_below_drewN | apply below_drew1) | exact HB.out)) hb); clear HB; have HO265 := n0_; have HB := n1_; clear n0_ n1_; (try clear hb); (try clear hb2); (try clear hk); (try clear hi); (try clear ho0); have p38 : 0 ≤ ((ji35) : Int) := of_decide_eq_true (by first | (with_reducible assumption) | assumption); have q38 : (ji35) < (a0.size : Int) := of_decide_eq_true (by first | (with_reducible assumption) | assumption); have hx38 := bt_at a0 (ji35); replace p38 := eq_true p38; replace q38 := eq_true q38; have p44 : 0 ≤ (t262 : Int) := of_decide_eq_true (by first | (with_reducible assumption) | assumption); have q44 : t262 < (a0.size : Int) := of_decide_eq_true (by first | (with_reducible assumption) | assumption); have hx44 := bt_at a0 t262; replace p44 := eq_true p44; replace q44 := eq_true q44; have p47 : 0 ≤ (t262 : Int) := of_decide_eq_true (by first | (with_reducible assumption) | assumption); have q47 : t262 < (a0.size : Int) := of_decide_eq_true (by first | (with_reducible assumption) | assumption); have hx47 := bt_at a0 t262; replace p47 := eq_true p47; replace q47 := eq_true q47) | (go_at_call 49; (with_reducible refine (sieveref04_Letter.calls (wrap32 (bt a0 t262)) false _ A48.out).mono ?_); rintro e w' ⟨rfl, ⟨nd, rfl⟩⟩; have p51 : 0 ≤ (t262 : Int) := of_decide_eq_true (by first | (with_reducible assumption) | assumption); have q51 : t262 < (a0.size : Int) := of_decide_eq_true (by first | (with_reducible assumption) | assumption); have hx51 := bt_at a0 t262; replace p51 := eq_true p51; replace q51 := eq_true q51) | (go_at_call 50; (with_reducible refine (sieveref04_Digit.calls (wrap32 (bt a0 t262)) true _ A52.out).mono ?_); rintro e w' ⟨rfl, ⟨nd, rfl⟩⟩))
              go_ret2
              exact ⟨by first | rfl | (simp [errW_none, errW_some] <;> rfl) | (simp only [← hji35]; first | rfl | (simp [errW_none, errW_some] <;> rfl)) | (simp [*, errW_none, errW_some] <;> rfl), by repeat (first | (with_reducible first | exact HB.out | apply below_alloc | apply pw_below_drewN | apply below_drew1) | exact HB.out)⟩
             ·replace c53 := Bool.eq_false_iff.mpr c53
              subst c53
              have H1 : (some (Hc_text t263, t262)) = some (r1, r2) := by rw [if_neg (show ¬ (false = true) by decide)] at H; exact H
              clear H
              have H := H1
              clear H1
              simp only [Option.some.injEq, Prod.mk.injEq] at H
              obtain ⟨rfl, rfl⟩ := H
              go_wp2_with (first | ((with_reducible refine gate_callee (f := 47) rfl ?_); refine goesL_ (some 68) rfl rfl Try.func47 (by kernel_rfl) rfl #[.string a0] rfl (by (try simp only [List.map_toArray, List.map_cons, List.map_nil]); first | done | rfl | (simp only [List.length_drop, List.length_take]; rfl) | (simp [*] <;> rfl)) ?_; (with_reducible refine (sieveref05_Longest.calls kj2 a0 t262 t263 _ A31.out).mono ?_); rintro e w55 ⟨v264, rfl, ho0, hb⟩; refine ⟨_, rfl, ?_⟩; have n0_ := Aside0.mk (Kd.R_lower ho0 (below_size (by repeat (first | (with_reducible first | exact HB.out | apply below_alloc | apply pw_below_drewN | apply below_drew1) | exact HB.out)))); have n1_ := Aside0.mk (below_step (by repeat (first | (with_reducible first | exact HB.out | apply below_alloc | apply pw_below_drewN | apply below_drew1) | exact HB.out)) hb); clear HB; have HO265 := n0_; have HB := n1_; clear n0_ n1_; (try clear hb); (try clear hb2); (try clear hk); (try clear hi); (try clear ho0); have p38 : 0 ≤ ((ji35) : Int) := of_decide_eq_true (by first | (with_reducible assumption) | assumption); have q38 : (ji35) < (a0.size : Int) := of_decide_eq_true (by first | (with_reducible assumption) | assumption); have hx38 := bt_at a0 (ji35); replace p38 := eq_true p38; replace q38 := eq_true q38; have p44 : 0 ≤ (t262 : Int) := of_decide_eq_true (by first | (with_reducible assumption) | assumption); have q44 : t262 < (a0.size : Int) := of_decide_eq_true (by first | (with_reducible assumption) | assumption); have hx44 := bt_at a0 t262; replace p44 := eq_true p44; replace q44 := eq_true q44; have p47 : 0 ≤ (t262 : Int) := of_decide_eq_true (by first | (with_reducible assumption) | assumption); have q47 : t262 < (a0.size : Int) := of_decide_eq_true (by first | (with_reducible assumption) | assumption); have hx47 := bt_at a0 t262; replace p47 := eq_true p47; replace q47 := eq_true q47) | (go_at_call 49; (with_reducible refine (sieveref04_Letter.calls (wrap32 (bt a0 t262)) false _ A48.out).mono ?_); rintro e w' ⟨rfl, ⟨nd1, rfl⟩⟩; have p51 : 0 ≤ (t262 : Int) := of_decide_eq_true (by first | (with_reducible assumption) | assumption); have q51 : t262 < (a0.size : Int) := of_decide_eq_true (by first | (with_reducible assumption) | assumption); have hx51 := bt_at a0 t262; replace p51 := eq_true p51; replace q51 := eq_true q51) | (go_at_call 50; (with_reducible refine (sieveref04_Digit.calls (wrap32 (bt a0 t262)) false _ A52.out).mono ?_); rintro e w' ⟨rfl, ⟨nd2, rfl⟩⟩; have hcv56 := Hc_own_runes (P := Try.prog) Try.underlying29 Try.underlying21 Try.underlying9 (Kd.own_of_R (Kd.R_drewN HO265.out (nd1 + nd2)))))
              go_ret2
              exact ⟨by first | rfl | (simp [errW_none, errW_some] <;> rfl) | (simp only [← hji35]; first | rfl | (simp [errW_none, errW_some] <;> rfl)) | (simp [*, errW_none, errW_some] <;> rfl), by repeat (first | (with_reducible first | exact HB.out | apply below_alloc | apply pw_below_drewN | apply below_drew1) | exact HB.out)⟩
          ·rw [if_neg c43] at H
           exact absurd H (by simp)
         ·rw [if_neg c42] at H
          have c42b0 : decide (t262 < (a0.size : Int)) = false := decide_eq_false c42
          clear c42
          simp only [Option.some.injEq, Prod.mk.injEq] at H
          obtain ⟨rfl, rfl⟩ := H
          go_wp2_with (first | ((with_reducible refine gate_callee (f := 47) rfl ?_); refine goesL_ (some 68) rfl rfl Try.func47 (by kernel_rfl) rfl #[.string a0] rfl (by (try simp only [List.map_toArray, List.map_cons, List.map_nil]); first | done | rfl | (simp only [List.length_drop, List.length_take]; rfl) | (simp [*] <;> rfl)) ?_; (with_reducible refine (sieveref05_Longest.calls kj2 a0 t262 t263 _ A31.out).mono ?_); rintro e w57 ⟨v264, rfl, ho0, hb⟩; refine ⟨_, rfl, ?_⟩; have n0_ := Aside0.mk (Kd.R_lower ho0 (below_size (by repeat (first | (with_reducible first | exact HB.out | apply below_alloc | apply pw_below_drewN | apply below_drew1) | exact HB.out)))); have n1_ := Aside0.mk (below_step (by repeat (first | (with_reducible first | exact HB.out | apply below_alloc | apply pw_below_drewN | apply below_drew1) | exact HB.out)) hb); clear HB; have HO265 := n0_; have HB := n1_; clear n0_ n1_; (try clear hb); (try clear hb2); (try clear hk); (try clear hi); (try clear ho0); have p38 : 0 ≤ ((ji35) : Int) := of_decide_eq_true (by first | (with_reducible assumption) | assumption); have q38 : (ji35) < (a0.size : Int) := of_decide_eq_true (by first | (with_reducible assumption) | assumption); have hx38 := bt_at a0 (ji35); replace p38 := eq_true p38; replace q38 := eq_true q38; have hcv58 := Hc_own_runes (P := Try.prog) Try.underlying29 Try.underlying21 Try.underlying9 (Kd.own_of_R HO265.out)))
          go_ret2
          exact ⟨by first | rfl | (simp [errW_none, errW_some] <;> rfl) | (simp only [← hji35]; first | rfl | (simp [errW_none, errW_some] <;> rfl)) | (simp [*, errW_none, errW_some] <;> rfl), by repeat (first | (with_reducible first | exact HB.out | apply below_alloc | apply pw_below_drewN | apply below_drew1) | exact HB.out)⟩
       ·rw [if_neg c37] at H
        exact absurd H (by simp)
      ·rw [if_neg c36] at H
       exact absurd H (by simp)
     ·replace c34 := Bool.eq_false_iff.mpr c34
      subst c34
      have H1 : (some (Hc_text t263, t262)) = some (r1, r2) := by rw [if_neg (show ¬ (false = true) by decide)] at H; exact H
      clear H
      have H := H1
      clear H1
      simp only [Option.some.injEq, Prod.mk.injEq] at H
      obtain ⟨rfl, rfl⟩ := H
      go_wp2_with (first | ((with_reducible refine gate_callee (f := 47) rfl ?_); refine goesL_ (some 68) rfl rfl Try.func47 (by kernel_rfl) rfl #[.string a0] rfl (by (try simp only [List.map_toArray, List.map_cons, List.map_nil]); first | done | rfl | (simp only [List.length_drop, List.length_take]; rfl) | (simp [*] <;> rfl)) ?_; (with_reducible refine (sieveref05_Longest.calls kj2 a0 t262 t263 _ A31.out).mono ?_); rintro e w59 ⟨v264, rfl, ho0, hb⟩; refine ⟨_, rfl, ?_⟩; have n0_ := Aside0.mk (Kd.R_lower ho0 (below_size (by repeat (first | (with_reducible first | exact HB.out | apply below_alloc | apply pw_below_drewN | apply below_drew1) | exact HB.out)))); have n1_ := Aside0.mk (below_step (by repeat (first | (with_reducible first | exact HB.out | apply below_alloc | apply pw_below_drewN | apply below_drew1) | exact HB.out)) hb); clear HB; have HO265 := n0_; have HB := n1_; clear n0_ n1_; (try clear hb); (try clear hb2); (try clear hk); (try clear hi); (try clear ho0); have hcv60 := Hc_own_runes (P := Try.prog) Try.underlying29 Try.underlying21 Try.underlying9 (Kd.own_of_R HO265.out)))
      go_ret2
      exact ⟨by first | rfl | (simp [errW_none, errW_some] <;> rfl) | (simp [*, errW_none, errW_some] <;> rfl), by repeat (first | (with_reducible first | exact HB.out | apply below_alloc | apply pw_below_drewN | apply below_drew1) | exact HB.out)⟩

/-! ### sieveref06_Parts: function 20 -/
def sieveref06_Parts.l0 : Nat → ByteArray → Bool → List (S40) → Int → Int → Option ((List (S40)))
 | 0, _, _, _, _, _ => none
 | k + 1, x0, x1, x5, x6, x7 => if x7 < (x0.size : Int) then (if 0 ≤ x7 then (if (bt x0 x7) = 38 then (if 0 ≤ (wrap64 (x7 + 1)) then (if (wrap64 (x7 + 1)) ≤ (x0.size : Int) then ((sieveref06_Whole.f k (x0.extract ((wrap64 (x7 + 1)) : Int).toNat x0.size) x1).bind fun bt276 => (if bt276.2 > 0 then (if x7 > x6 then (if 0 ≤ x6 then (if x6 ≤ x7 then (if x7 ≤ (x0.size : Int) then (if x5.length < 2932031007402 then ((some (x5 ++ [(⟨x6, x0.extract (x6 : Int).toNat (x7 : Int).toNat, x0.extract (x6 : Int).toNat (x7 : Int).toNat, false⟩ : S40)] : List (S40))).bind fun y278 => (if x7 ≤ (wrap64 ((wrap64 (x7 + 1)) + bt276.2)) then (if (wrap64 ((wrap64 (x7 + 1)) + bt276.2)) ≤ (x0.size : Int) then (if y278.length < 2932031007402 then (sieveref06_Parts.l0 k x0 x1 (y278 ++ [(⟨x7, x0.extract (x7 : Int).toNat ((wrap64 ((wrap64 (x7 + 1)) + bt276.2)) : Int).toNat, bt276.1, true⟩ : S40)]) (wrap64 (x7 + (wrap64 (1 + bt276.2)))) (wrap64 (x7 + (wrap64 (1 + bt276.2))))) else (none)) else (none)) else (none))) else (none)) else (none)) else (none)) else (none)) else (if x7 ≤ (wrap64 ((wrap64 (x7 + 1)) + bt276.2)) then (if (wrap64 ((wrap64 (x7 + 1)) + bt276.2)) ≤ (x0.size : Int) then (if x5.length < 2932031007402 then (sieveref06_Parts.l0 k x0 x1 (x5 ++ [(⟨x7, x0.extract (x7 : Int).toNat ((wrap64 ((wrap64 (x7 + 1)) + bt276.2)) : Int).toNat, bt276.1, true⟩ : S40)]) (wrap64 (x7 + (wrap64 (1 + bt276.2)))) (wrap64 (x7 + (wrap64 (1 + bt276.2))))) else (none)) else (none)) else (none))) else (sieveref06_Parts.l0 k x0 x1 x5 x6 (wrap64 (x7 + 1))))) else (none)) else (none)) else (sieveref06_Parts.l0 k x0 x1 x5 x6 (wrap64 (x7 + 1)))) else (none)) else (if x6 < (x0.size : Int) then (if 0 ≤ x6 then (if x6 ≤ (x0.size : Int) then (if x5.length < 2932031007402 then (some (x5 ++ [(⟨x6, x0.extract (x6 : Int).toNat x0.size, x0.extract (x6 : Int).toNat x0.size, false⟩ : S40)])) else (none)) else (none)) else (none)) else (some x5))
def sieveref06_Parts.f (k : Nat) (a0 : ByteArray) (a1 : Bool) : Option ((List (S40))) := sieveref06_Parts.l0 k a0 a1 ([] : List (S40)) 0 0
theorem sieveref06_Parts.mono_l : ∀ k, (∀ y0 y1 y2 y3 y4, LeO (sieveref06_Parts.l0 k y0 y1 y2 y3 y4) (sieveref06_Parts.l0 (k + 1) y0 y1 y2 y3 y4))
 | 0 => fun _ _ _ _ _ r h => by simp [sieveref06_Parts.l0] at h
 | k + 1 => by
  have ih0 := sieveref06_Parts.mono_l k
  ·intro y0 y1 y2 y3 y4
   unfold sieveref06_Parts.l0
   repeat' first
   | (with_reducible exact ih0 _ _ _ _ _)
   | (with_reducible exact sieveref06_Whole.mono _ _ _)
   | (with_reducible exact LeO.refl _)
   | (with_reducible exact LeO.none _)
   | (with_reducible refine LeO.ite ?_ ?_)
   | (with_reducible refine LeO.bind ?_ (fun _ => ?_))
   | exact ih0 _ _ _ _ _
   | exact sieveref06_Whole.mono _ _ _
   | exact LeO.none _
   | refine LeO.ite ?_ ?_
   | refine LeO.bind ?_ (fun _ => ?_)
theorem sieveref06_Parts.mono : ∀ a0 a1 k, LeO (sieveref06_Parts.f k a0 a1) (sieveref06_Parts.f (k + 1) a0 a1) := by
 intro a0 a1 k
 have ih0 := sieveref06_Parts.mono_l k
 unfold sieveref06_Parts.f
 repeat' first
   | (with_reducible exact ih0 _ _ _ _ _)
   | (with_reducible exact sieveref06_Whole.mono _ _ _)
   | (with_reducible exact LeO.refl _)
   | (with_reducible exact LeO.none _)
   | (with_reducible refine LeO.ite ?_ ?_)
   | (with_reducible refine LeO.bind ?_ (fun _ => ?_))
   | exact ih0 _ _ _ _ _
   | exact sieveref06_Whole.mono _ _ _
   | exact LeO.none _
   | refine LeO.ite ?_ ?_
   | refine LeO.bind ?_ (fun _ => ?_)
def sieveref06_Parts.T9 : Bool × List (List Nat × List Nat) := (true, [([], []), ([], []), ([], []), ([], []), ([], []), ([2, 3, 4], [2, 3, 4]), ([], []), ([], []), ([], []), ([6, 7, 8], [6, 7, 8]), ([1, 5, 9], [1, 5, 9]), ([10], [10]), ([0, 11], [0, 11]), ([12, 12, 0, 1, 2, 3, 4, 5, 6, 7, 8, 9, 10, 11, 12], [0, 12])])
def sieveref06_Parts.B9 : List Nat := [0, 0, 0, 0, 0, 28, 0, 0, 0, 448, 1022, 2046, 4095, 8191]
theorem sieveref06_Parts.tab9 : rtab .any (opsOf Try.f20 9) = sieveref06_Parts.T9 := by kernel_rfl
theorem sieveref06_Parts.bits9 : waitsOk sieveref06_Parts.T9.2 sieveref06_Parts.B9 = true := by kernel_rfl
def sieveref06_Parts.T15 : Bool × List (List Nat × List Nat) := (true, [([], []), ([], []), ([], []), ([], []), ([2, 3], [2, 3]), ([], []), ([], []), ([5, 6], [5, 6]), ([1, 4, 7], [1, 4, 7]), ([8], [8]), ([0, 9], [0, 9]), ([10, 10, 0, 1, 2, 3, 4, 5, 6, 7, 8, 9, 10], [0, 10])])
def sieveref06_Parts.B15 : List Nat := [0, 0, 0, 0, 12, 0, 0, 96, 254, 510, 1023, 2047]
theorem sieveref06_Parts.tab15 : rtab .any (opsOf Try.f20 15) = sieveref06_Parts.T15 := by kernel_rfl
theorem sieveref06_Parts.bits15 : waitsOk sieveref06_Parts.T15.2 sieveref06_Parts.B15 = true := by kernel_rfl
set_option maxHeartbeats 8000000 in
set_option maxRecDepth 100000 in
theorem sieveref06_Parts.calls (k : Nat) (a0 : ByteArray) (a1 : Bool) (r : List (S40)) (w : World) (h : sieveref06_Parts.f k a0 a1 = some r) :
  Calls Try.prog 20 #[.string a0, .bool a1] w fun e w' => ∃ v0_ : Value, e = .returned (v0_) ∧ Kd.R k40 40 w' w.heap.size (fun _ => True) v0_ r ∧ Below w.heap.size w w' := by
 have hu40 := Try.underlying40
 have HB := Aside0.mk (Below.refl w.heap.size w)
 have H : (sieveref06_Parts.l0 k a0 a1 ([] : List (S40)) 0 0) = some r := h
 clear h
 have H' := Aside0.mk H
 clear H
 go_enter Try.func20, Try.ntmps20
 go_wp2
 go_loopg [5, 6, 7] k (fun kq v5 v6 v7 w' => ∃ (x5_1 : List (S40)) (x6_1 : Int) (x7_1 : Int), v6 = .int .i64 x6_1 ∧ v7 = .int .i64 x7_1 ∧ Aside0 (sieveref06_Parts.l0 kq a0 a1 x5_1 x6_1 x7_1 = some r) ∧ Aside0 (kq ≤ k) ∧ Aside0 (Kd.R k40 40 w' w.heap.size (fun _ => True) v5 x5_1) ∧ Aside0 (Below w.heap.size w w'))
 case atStart => exact ⟨(([] : List (S40))), (0), (0), (by first | rfl | (simp; done) | (simp [*]; done) | (unfold bt; split <;> first | rfl | (exfalso; simp_all; done) | (exfalso; simp_all; omega))), (by first | rfl | (simp; done) | (simp [*]; done) | (unfold bt; split <;> first | rfl | (exfalso; simp_all; done) | (exfalso; simp_all; omega))), H', ⟨Nat.le_refl _⟩, ⟨by first | exact Kd.R_nil _ _ _ _ _ | exact Kd.N_nil _ _ _ _ _ | exact Kd.V_nil _ _ _ _ _ | exact Kd.Q_nil _ _ _ _ _ | exact Kd.S_nil _ _ _ _ _⟩, ⟨by repeat (first | (with_reducible first | exact HB.out | apply below_alloc | apply pw_below_drewN | apply below_drew1) | exact HB.out)⟩⟩
 case round =>
  clear H'
  try clear c2
  try clear p2
  obtain ⟨x5_1, x6_1, x7_1, rfl, rfl, HA, HK1, HO_5, HB⟩ := hrel
  cases gk with
  | zero => exact absurd HA.out (by simp [sieveref06_Parts.l0])
  | succ k1 =>
   have H := HA.out
   clear HA
   simp only [sieveref06_Parts.l0] at H
   by_cases c3 : x7_1 < (a0.size : Int)
   ·rw [if_pos c3] at H
    have c3b0 : decide (x7_1 < (a0.size : Int)) = true := decide_eq_true c3
    clear c3
    by_cases c4 : 0 ≤ x7_1
    ·rw [if_pos c4] at H
     have c4b0 : decide (0 ≤ x7_1) = true := decide_eq_true c4
     clear c4
     by_cases c6 : (bt a0 x7_1) = 38
     ·rw [if_pos c6] at H
      have c6b0 : ((bt a0 x7_1) == 38) = true := beq_iff_eq.mpr c6
      have c6b1 : ((bt a0 x7_1) != 38) = false := bne_eq_false_iff_eq.mpr c6
      clear c6
      obtain ⟨ji7, hji7⟩ : ∃ j_ : Int, (wrap64 (x7_1 + 1)) = j_ := ⟨_, rfl⟩
      replace H : (if 0 ≤ (ji7) then (if (ji7) ≤ (a0.size : Int) then ((sieveref06_Whole.f k1 (a0.extract ((ji7) : Int).toNat a0.size) a1).bind fun bt276 => (if bt276.2 > 0 then (if x7_1 > x6_1 then (if 0 ≤ x6_1 then (if x6_1 ≤ x7_1 then (if x7_1 ≤ (a0.size : Int) then (if x5_1.length < 2932031007402 then ((some (x5_1 ++ [(⟨x6_1, a0.extract (x6_1 : Int).toNat (x7_1 : Int).toNat, a0.extract (x6_1 : Int).toNat (x7_1 : Int).toNat, false⟩ : S40)] : List (S40))).bind fun y278 => (if x7_1 ≤ (wrap64 ((ji7) + bt276.2)) then (if (wrap64 ((ji7) + bt276.2)) ≤ (a0.size : Int) then (if y278.length < 2932031007402 then (sieveref06_Parts.l0 k1 a0 a1 (y278 ++ [(⟨x7_1, a0.extract (x7_1 : Int).toNat ((wrap64 ((ji7) + bt276.2)) : Int).toNat, bt276.1, true⟩ : S40)]) (wrap64 (x7_1 + (wrap64 (1 + bt276.2)))) (wrap64 (x7_1 + (wrap64 (1 + bt276.2))))) else (none)) else (none)) else (none))) else (none)) else (none)) else (none)) else (none)) else (if x7_1 ≤ (wrap64 ((ji7) + bt276.2)) then (if (wrap64 ((ji7) + bt276.2)) ≤ (a0.size : Int) then (if x5_1.length < 2932031007402 then (sieveref06_Parts.l0 k1 a0 a1 (x5_1 ++ [(⟨x7_1, a0.extract (x7_1 : Int).toNat ((wrap64 ((ji7) + bt276.2)) : Int).toNat, bt276.1, true⟩ : S40)]) (wrap64 (x7_1 + (wrap64 (1 + bt276.2)))) (wrap64 (x7_1 + (wrap64 (1 + bt276.2))))) else (none)) else (none)) else (none))) else (sieveref06_Parts.l0 k1 a0 a1 x5_1 x6_1 ji7))) else (none)) else (none)) = some r := by first | (rw [hji7] at H; exact H) | (simp only [hji7] at H ⊢; exact H)
      have hji7w : (IntKind.i64.wrap (x7_1 + 1)) = ji7 := (i64_w _).trans hji7
      by_cases c8 : 0 ≤ (ji7)
      ·rw [if_pos c8] at H
       have c8b0 := eq_true c8
       have c8b1 : decide (0 ≤ (ji7)) = true := decide_eq_true c8
       clear c8
       by_cases c9 : (ji7) ≤ (a0.size : Int)
       ·rw [if_pos c9] at H
        have c9b0 := eq_true c9
        have c9b1 : decide ((ji7) ≤ (a0.size : Int)) = true := decide_eq_true c9
        clear c9
        replace H := Option.bind_eq_some_iff.mp H
        obtain ⟨⟨t276, t277⟩, A100, H⟩ := H
        replace H : (if t277 > 0 then (if x7_1 > x6_1 then (if 0 ≤ x6_1 then (if x6_1 ≤ x7_1 then (if x7_1 ≤ (a0.size : Int) then (if x5_1.length < 2932031007402 then ((some (x5_1 ++ [(⟨x6_1, a0.extract (x6_1 : Int).toNat (x7_1 : Int).toNat, a0.extract (x6_1 : Int).toNat (x7_1 : Int).toNat, false⟩ : S40)] : List (S40))).bind fun y278 => (if x7_1 ≤ (wrap64 ((ji7) + t277)) then (if (wrap64 ((ji7) + t277)) ≤ (a0.size : Int) then (if y278.length < 2932031007402 then (sieveref06_Parts.l0 k1 a0 a1 (y278 ++ [(⟨x7_1, a0.extract (x7_1 : Int).toNat ((wrap64 ((ji7) + t277)) : Int).toNat, t276, true⟩ : S40)]) (wrap64 (x7_1 + (wrap64 (1 + t277)))) (wrap64 (x7_1 + (wrap64 (1 + t277))))) else (none)) else (none)) else (none))) else (none)) else (none)) else (none)) else (none)) else (if x7_1 ≤ (wrap64 ((ji7) + t277)) then (if (wrap64 ((ji7) + t277)) ≤ (a0.size : Int) then (if x5_1.length < 2932031007402 then (sieveref06_Parts.l0 k1 a0 a1 (x5_1 ++ [(⟨x7_1, a0.extract (x7_1 : Int).toNat ((wrap64 ((ji7) + t277)) : Int).toNat, t276, true⟩ : S40)]) (wrap64 (x7_1 + (wrap64 (1 + t277)))) (wrap64 (x7_1 + (wrap64 (1 + t277))))) else (none)) else (none)) else (none))) else (sieveref06_Parts.l0 k1 a0 a1 x5_1 x6_1 ji7)) = some r := H
        have A10 := Aside0.mk A100
        clear A100
        by_cases c11 : t277 > 0
        ·rw [if_pos c11] at H
         have c11b0 : decide (0 < t277) = true := decide_eq_true c11
         clear c11
         by_cases c12 : x7_1 > x6_1
         ·rw [if_pos c12] at H
          have c12b0 : decide (x6_1 < x7_1) = true := decide_eq_true c12
          clear c12
          by_cases c13 : 0 ≤ x6_1
          ·rw [if_pos c13] at H
           have c13b0 := eq_true c13
           have c13b1 : decide (0 ≤ x6_1) = true := decide_eq_true c13
           clear c13
           by_cases c14 : x6_1 ≤ x7_1
           ·rw [if_pos c14] at H
            have c14b0 := eq_true c14
            have c14b1 : decide (x6_1 ≤ x7_1) = true := decide_eq_true c14
            clear c14
            by_cases c15 : x7_1 ≤ (a0.size : Int)
            ·rw [if_pos c15] at H
             have c15b0 := eq_true c15
             have c15b1 : decide (x7_1 ≤ (a0.size : Int)) = true := decide_eq_true c15
             clear c15
             have c16b0 := eq_true (of_decide_eq_true (by first | (with_reducible assumption) | assumption) : 0 ≤ x6_1)
             have c17b0 := eq_true (of_decide_eq_true (by first | (with_reducible assumption) | assumption) : x6_1 ≤ x7_1)
             have c18b0 := eq_true (of_decide_eq_true (by first | (with_reducible assumption) | assumption) : x7_1 ≤ (a0.size : Int))
             by_cases c19 : x5_1.length < 2932031007402
             ·rw [if_pos c19] at H
              have LMc19 := Aside0.mk c19
              clear c19
              obtain ⟨y278, hy278⟩ : ∃ y_ : List (S40), y_ = (x5_1 ++ [(⟨x6_1, a0.extract (x6_1 : Int).toNat (x7_1 : Int).toNat, a0.extract (x6_1 : Int).toNat (x7_1 : Int).toNat, false⟩ : S40)]) := ⟨_, rfl⟩
              replace H : (if x7_1 ≤ (wrap64 ((ji7) + t277)) then (if (wrap64 ((ji7) + t277)) ≤ (a0.size : Int) then (if y278.length < 2932031007402 then (sieveref06_Parts.l0 k1 a0 a1 (y278 ++ [(⟨x7_1, a0.extract (x7_1 : Int).toNat ((wrap64 ((ji7) + t277)) : Int).toNat, t276, true⟩ : S40)]) (wrap64 (x7_1 + (wrap64 (1 + t277)))) (wrap64 (x7_1 + (wrap64 (1 + t277))))) else (none)) else (none)) else (none)) = some r := by first | (rw [hy278]; with_reducible exact H) | (have H2_ := (Option.bind_some _ _).symm.trans H; rw [hy278]; with_reducible exact H2_) | (have H2_ := (Option.bind_some _ _).symm.trans H; with_reducible exact H2_) | with_reducible exact H | (rw [hy278]; exact H) | exact H
              have Ny278 := Aside0.mk hy278
              clear hy278
              have c20b0 := eq_true (of_decide_eq_true (by first | (with_reducible assumption) | assumption) : 0 ≤ x7_1)
              by_cases c21 : x7_1 ≤ (wrap64 ((ji7) + t277))
              ·rw [if_pos c21] at H
               have c21b0 := eq_true c21
               have c21b1 : decide (x7_1 ≤ (wrap64 ((ji7) + t277))) = true := decide_eq_true c21
               by_cases c22 : (wrap64 ((ji7) + t277)) ≤ (a0.size : Int)
               ·rw [if_pos c22] at H
                have c22b0 := eq_true c22
                have c22b1 : decide ((wrap64 ((ji7) + t277)) ≤ (a0.size : Int)) = true := decide_eq_true c22
                by_cases c23 : y278.length < 2932031007402
                ·rw [if_pos c23] at H
                 have LMc23 := Aside0.mk c23
                 clear c23
                 obtain ⟨y281, hy281⟩ : ∃ y_ : List (S40), y_ = (y278 ++ [(⟨x7_1, a0.extract (x7_1 : Int).toNat ((wrap64 ((ji7) + t277)) : Int).toNat, t276, true⟩ : S40)]) := ⟨_, rfl⟩
                 replace H : (sieveref06_Parts.l0 k1 a0 a1 y281 (wrap64 (x7_1 + (wrap64 (1 + t277)))) (wrap64 (x7_1 + (wrap64 (1 + t277))))) = some r := by first | (rw [hy281]; with_reducible exact H) | (have H2_ := (Option.bind_some _ _).symm.trans H; rw [hy281]; with_reducible exact H2_) | (have H2_ := (Option.bind_some _ _).symm.trans H; with_reducible exact H2_) | with_reducible exact H | (rw [hy281]; exact H) | exact H
                 have Ny281 := Aside0.mk hy281
                 clear hy281
                 have H' := Aside0.mk H
                 clear H
                 have p5 : 0 ≤ (x7_1 : Int) := of_decide_eq_true (by first | (with_reducible assumption) | assumption)
                 have q5 : x7_1 < (a0.size : Int) := of_decide_eq_true (by first | (with_reducible assumption) | assumption)
                 have hx5 := bt_at a0 x7_1
                 replace p5 := eq_true p5
                 replace q5 := eq_true q5
                 try go_wp2_with (first | ((with_reducible refine gate_callee (f := 29) rfl ?_); refine goesL_ (some 24) rfl rfl Try.func29 (by kernel_rfl) rfl #[.string (a0.extract ((ji7) : Int).toNat a0.size), .bool a1] rfl (by (try simp only [List.map_toArray, List.map_cons, List.map_nil]); first | done | (simp only [hji7]; rfl) | rfl | (simp only [List.length_drop, List.length_take]; rfl)) ?_; (with_reducible refine (sieveref06_Whole.calls k1 (a0.extract ((ji7) : Int).toNat a0.size) a1 t276 t277 _ A10.out).mono ?_); rintro e w24 ⟨rfl, hb⟩; refine ⟨_, rfl, ?_⟩; have n0_ := Aside0.mk (Kd.R_below (by (with_reducible repeat (first | apply Kd.R_alloc | apply Kd.R_drewN | apply Kd.R_drew)); exact HO_5.out) hb); have n1_ := Aside0.mk (below_step (by repeat (first | (with_reducible first | exact HB.out | apply below_alloc | apply pw_below_drewN | apply below_drew1) | exact HB.out)) hb); clear HO_5; clear HB; have HO_5 := n0_; have HB := n1_; clear n0_ n1_; (try clear hb); (try clear hb2); (try clear hk); (try clear hi)))
                 have n0_ := Aside0.mk (Kd.R_drew HO_5.out)
                 have n1_ := Aside0.mk (below_drew1 HB.out)
                 clear HO_5
                 clear HB
                 have HO_5 := n0_
                 have HB := n1_
                 clear n0_ n1_
                 refine start_ (n := 14) (S := fun w' => True) (ds := []) #[false, false, false, false, false, false, false, false, false, false, false, false, false, false] (by kernel_rfl) rfl rfl trivial (fun hHeld => ?_); refine with_tabW sieveref06_Parts.tab9 sieveref06_Parts.bits9 (fun HT_ HW_ => ?_)
                 generalize w24.drew = w25 at HO_5 HB hHeld ⊢
                 refine pure_ (i := 0) (N := some 32) (v := ?_) (a' := ?_) #[true, false, false, false, false, false, false, false, false, false, false, false, false, false] rfl rfl (any_of HT_.out (by kernel_rfl)) (fun _ _ _ h => h) (Or.inl ⟨by rfl, ?_⟩) ?_ ?_
                 rotate_left
                 ·intro w'
                  go_simp
                  with_reducible rfl
                 rotate_left
                 ·simp only [Act.put, List.setIfInBounds_toArray, List.set_cons_zero, List.set_cons_succ, i64_w, i32_w]
                  rfl
                 refine pure_ (i := 1) (N := some 33) (v := ?_) (a' := ?_) #[true, true, false, false, false, false, false, false, false, false, false, false, false, false] rfl rfl (any_of HT_.out (by kernel_rfl)) (fun _ _ _ h => h) (Or.inl ⟨by rfl, ?_⟩) ?_ ?_
                 rotate_left
                 ·intro w'
                  go_simp
                  with_reducible rfl
                 rotate_left
                 ·simp only [Act.put, List.setIfInBounds_toArray, List.set_cons_zero, List.set_cons_succ, i64_w, i32_w]
                  rfl
                 refine pure_ (i := 2) (N := some 34) (v := ?_) (a' := ?_) #[true, true, true, false, false, false, false, false, false, false, false, false, false, false] rfl rfl (any_of HT_.out (by kernel_rfl)) (fun _ _ _ h => h) (Or.inl ⟨by rfl, ?_⟩) ?_ ?_
                 rotate_left
                 ·intro w'
                  go_simp
                  with_reducible rfl
                 rotate_left
                 ·simp only [Act.put, List.setIfInBounds_toArray, List.set_cons_zero, List.set_cons_succ, i64_w, i32_w]
                  rfl
                 refine pure_ (i := 3) (N := some 35) (v := ?_) (a' := ?_) #[true, true, true, true, false, false, false, false, false, false, false, false, false, false] rfl rfl (any_of HT_.out (by kernel_rfl)) (fun _ _ _ h => h) (Or.inl ⟨by rfl, ?_⟩) ?_ ?_
                 rotate_left
                 ·intro w'
                  go_simp
                  with_reducible rfl
                 rotate_left
                 ·simp only [Act.put, List.setIfInBounds_toArray, List.set_cons_zero, List.set_cons_succ, i64_w, i32_w]
                  rfl
                 refine pure_ (i := 4) (N := some 36) (v := ?_) (a' := ?_) #[true, true, true, true, true, false, false, false, false, false, false, false, false, false] rfl rfl (any_of HT_.out (by kernel_rfl)) (fun _ _ _ h => h) (Or.inl ⟨by rfl, ?_⟩) ?_ ?_
                 rotate_left
                 ·intro w'
                  go_simp
                  with_reducible rfl
                 rotate_left
                 ·simp only [Act.put, List.setIfInBounds_toArray, List.set_cons_zero, List.set_cons_succ, i64_w, i32_w]
                  rfl
                 refine pure_ (i := 5) (N := some 37) (v := ?_) (a' := ?_) #[true, true, true, true, true, true, false, false, false, false, false, false, false, false] rfl rfl (any_of HT_.out (by kernel_rfl)) (fun _ _ _ h => h) (Or.inl ⟨by rfl, ?_⟩) ?_ ?_
                 rotate_left
                 ·intro w'
                  go_simp
                  with_reducible rfl
                 rotate_left
                 ·simp only [Act.put, List.setIfInBounds_toArray, List.set_cons_zero, List.set_cons_succ, i64_w, i32_w]
                  rfl
                 refine pure_ (i := 6) (N := some 38) (v := ?_) (a' := ?_) #[true, true, true, true, true, true, true, false, false, false, false, false, false, false] rfl rfl (any_of HT_.out (by kernel_rfl)) (fun _ _ _ h => h) (Or.inl ⟨by rfl, ?_⟩) ?_ ?_
                 rotate_left
                 ·intro w'
                  go_simp
                  with_reducible rfl
                 rotate_left
                 ·simp only [Act.put, List.setIfInBounds_toArray, List.set_cons_zero, List.set_cons_succ, i64_w, i32_w]
                  rfl
                 refine pure_ (i := 7) (N := some 39) (v := ?_) (a' := ?_) #[true, true, true, true, true, true, true, true, false, false, false, false, false, false] rfl rfl (any_of HT_.out (by kernel_rfl)) (fun _ _ _ h => h) (Or.inl ⟨by rfl, ?_⟩) ?_ ?_
                 rotate_left
                 ·intro w'
                  go_simp
                  with_reducible rfl
                 rotate_left
                 ·simp only [Act.put, List.setIfInBounds_toArray, List.set_cons_zero, List.set_cons_succ, i64_w, i32_w]
                  rfl
                 refine pure_ (i := 8) (N := some 40) (v := ?_) (a' := ?_) #[true, true, true, true, true, true, true, true, true, false, false, false, false, false] rfl rfl (any_of HT_.out (by kernel_rfl)) (fun _ _ _ h => h) (Or.inl ⟨by rfl, ?_⟩) ?_ ?_
                 rotate_left
                 ·intro w'
                  go_simp
                  with_reducible rfl
                 rotate_left
                 ·simp only [Act.put, List.setIfInBounds_toArray, List.set_cons_zero, List.set_cons_succ, i64_w, i32_w]
                  rfl
                 refine pure_ (i := 9) (N := some 41) (v := ?_) (a' := ?_) #[true, true, true, true, true, true, true, true, true, true, false, false, false, false] rfl rfl (any_of HT_.out (by kernel_rfl)) (fun _ _ _ h => h) (Or.inl ⟨by rfl, ?_⟩) ?_ ?_
                 rotate_left
                 ·intro w'
                  go_simp
                  with_reducible rfl
                 rotate_left
                 ·simp only [Act.put, List.setIfInBounds_toArray, List.set_cons_zero, List.set_cons_succ, i64_w, i32_w]
                  rfl
                 refine pure_ (i := 10) (N := some 42) (v := ?_) (a' := ?_) #[true, true, true, true, true, true, true, true, true, true, true, false, false, false] rfl rfl (any_of HT_.out (by kernel_rfl)) (fun _ _ _ h => h) (Or.inl ⟨by rfl, ?_⟩) ?_ ?_
                 rotate_left
                 ·intro w'
                  go_simp
                  with_reducible rfl
                 rotate_left
                 ·simp only [Act.put, List.setIfInBounds_toArray, List.set_cons_zero, List.set_cons_succ, i64_w, i32_w]
                  rfl
                 refine one_ (i := 11) (N := some 43) #[true, true, true, true, true, true, true, true, true, true, true, true, false, false] rfl rfl (one_of HT_.out (by kernel_rfl)) (by decide) (fun K hK => ?_)
                 refine value_ (w1 := ?_) (v := ?_) (by rfl) rfl ?_ ?_
                 rotate_left 2
                 ·go_simp
                  constructor
                  ·rfl
                  ·rfl
                 refine hK.out _ _ trivial (fun hHeld => ?_)
                 clear hK K
                 refine norm_ (a' := ?_) ?_ ?_
                 rotate_left
                 ·show Act.put _ (some 43) _ = _
                  simp only [Act.put, List.setIfInBounds_toArray, List.set_cons_zero, List.set_cons_succ, i64_w, i32_w]
                  rfl
                 refine one_ (i := 12) (N := some 44) #[true, true, true, true, true, true, true, true, true, true, true, true, true, false] rfl rfl (one_of HT_.out (by kernel_rfl)) (by decide) (fun K hK => ?_)
                 refine Kd.R_append_step k40 (w0 := w) w.heap.size (by rfl) (.tmp 32) (.tmp 43) 37 40 (.agg #[(.int .i64 0), (.string ⟨#[]⟩), (.string ⟨#[]⟩), (.bool false)]) 48 rfl Try.underlying37 info40 rfl (by decide) (by omega) u5 x5_1 (⟨x6_1, a0.extract (x6_1 : Int).toNat (x7_1 : Int).toNat, a0.extract (x6_1 : Int).toNat (x7_1 : Int).toNat, false⟩ : S40) [.int .i64 x6_1, .string (a0.extract (x6_1 : Int).toNat (x7_1 : Int).toNat), .string (a0.extract (x6_1 : Int).toNat (x7_1 : Int).toNat), .bool false] (fun _ => True) (fun _ => False) rfl rfl ?aP (fun _ hk => hk.elim) ?aF ?aO ?aB ?aS ?aL ?_
                 (case aP => exact k40_mkM _ _ _ (⟨x6_1, a0.extract (x6_1 : Int).toNat (x7_1 : Int).toNat, a0.extract (x6_1 : Int).toNat (x7_1 : Int).toNat, false⟩ : S40))
                 (case aB => exact (by repeat (first | (with_reducible first | exact HB.out | apply below_alloc | apply pw_below_drewN | apply below_drew1) | exact HB.out)))
                 (case aF => exact (fun _ _ => trivial))
                 (case aO => exact (by (with_reducible repeat (first | apply Kd.R_alloc | apply Kd.R_drewN | apply Kd.R_drew)); exact HO_5.out))
                 (case aS => exact (below_size (by repeat (first | (with_reducible first | exact HB.out | apply below_alloc | apply pw_below_drewN | apply below_drew1) | exact HB.out))))
                 (case aL => have := LMc19.out; omega)
                 intro v279 w26 ho hb hg hat
                 rw [← Ny278.out] at ho
                 have n0_ := Aside0.mk (hb)
                 have n1_ := Aside0.mk (ho)
                 clear HB
                 clear HO_5
                 have HB := n0_
                 have HO280 := n1_
                 clear n0_ n1_
                 clear ho hb hg hat
                 refine hK.out _ _ trivial (fun hHeld => ?_)
                 clear hK K
                 refine norm_ (a' := ?_) ?_ ?_
                 rotate_left
                 ·show Act.put _ (some 44) _ = _
                  simp only [Act.put, List.setIfInBounds_toArray, List.set_cons_zero, List.set_cons_succ, i64_w, i32_w]
                  rfl
                 refine pure_ (i := 13) (N := some 5) (v := ?_) (a' := ?_) #[true, true, true, true, true, true, true, true, true, true, true, true, true, true] rfl rfl (any_of HT_.out (by kernel_rfl)) (fun _ _ _ h => h) (Or.inl ⟨by rfl, ?_⟩) ?_ ?_
                 rotate_left
                 ·intro w'
                  go_simp
                  with_reducible rfl
                 rotate_left
                 ·simp only [Act.put, List.setIfInBounds_toArray, List.set_cons_zero, List.set_cons_succ, i64_w, i32_w]
                  rfl
                 refine done_ (done_of HT_.out (by kernel_rfl)) ?_
                 try go_wp2_with (first | ((with_reducible refine gate_builtin (b := .append) (xs := #[.tmp 45, .tmp 56]) rfl ?_); at_builtin; refine Kd.R_append k40 (w0 := w) w.heap.size rfl (.tmp 45) (.tmp 56) 37 40 (.agg #[(.int .i64 0), (.string ⟨#[]⟩), (.string ⟨#[]⟩), (.bool false)]) 48 rfl Try.underlying37 info40 rfl (by decide) (by omega) v279 y278 (⟨x7_1, a0.extract (x7_1 : Int).toNat ((wrap64 ((ji7) + t277)) : Int).toNat, t276, true⟩ : S40) [.int .i64 x7_1, .string (a0.extract (x7_1 : Int).toNat ((wrap64 ((ji7) + t277)) : Int).toNat), .string t276, .bool true] (fun _ => True) (fun _ => False) rfl rfl ?aP (fun _ hk => hk.elim) ?aF ?aO ?aB ?aS ?aL ?_; (case aP => exact k40_mkM _ _ _ (⟨x7_1, a0.extract (x7_1 : Int).toNat ((wrap64 ((ji7) + t277)) : Int).toNat, t276, true⟩ : S40)); (case aB => exact (by repeat (first | (with_reducible first | exact HB.out | apply below_alloc | apply pw_below_drewN | apply below_drew1) | exact HB.out))); (case aF => exact (fun _ _ => trivial)); (case aO => exact (by (with_reducible repeat (first | apply Kd.R_alloc | apply Kd.R_drewN | apply Kd.R_drew)); exact HO280.out)); (case aS => exact (below_size (by repeat (first | (with_reducible first | exact HB.out | apply below_alloc | apply pw_below_drewN | apply below_drew1) | exact HB.out)))); (case aL => have := LMc23.out; omega); intro v282 w27 ho hb hg hat; rw [← Ny281.out] at ho; have n0_ := Aside0.mk (hb); have n1_ := Aside0.mk (ho); clear HB; clear HO280; have HB := n0_; have HO283 := n1_; clear n0_ n1_; clear ho hb hg hat))
                 go_roundg k1
                 case measure => have := HK1.out; omega
                 case rel => exact ⟨(y281), (wrap64 (x7_1 + (wrap64 (1 + t277)))), (wrap64 (x7_1 + (wrap64 (1 + t277)))), (by first | rfl | (simp; done) | (simp [*]; done) | (unfold bt; split <;> first | rfl | (exfalso; simp_all; done) | (exfalso; simp_all; omega))), (by first | rfl | (simp; done) | (simp [*]; done) | (unfold bt; split <;> first | rfl | (exfalso; simp_all; done) | (exfalso; simp_all; omega))), H', ⟨by have := HK1.out; omega⟩, ⟨by (with_reducible repeat (first | apply Kd.R_alloc | apply Kd.R_drewN | apply Kd.R_drew)); exact HO283.out⟩, ⟨by repeat (first | (with_reducible first | exact HB.out | apply below_alloc | apply pw_below_drewN | apply below_drew1) | exact HB.out)⟩⟩
                ·rw [if_neg c23] at H
                 exact absurd H (by simp)
               ·rw [if_neg c22] at H
                exact absurd H (by simp)
              ·rw [if_neg c21] at H
               exact absurd H (by simp)
             ·rw [if_neg c19] at H
              exact absurd H (by simp)
            ·rw [if_neg c15] at H
             exact absurd H (by simp)
           ·rw [if_neg c14] at H
            exact absurd H (by simp)
          ·rw [if_neg c13] at H
           exact absurd H (by simp)
         ·rw [if_neg c12] at H
          have c12b0 : decide (x6_1 < x7_1) = false := decide_eq_false c12
          clear c12
          have c28b0 := eq_true (of_decide_eq_true (by first | (with_reducible assumption) | assumption) : 0 ≤ x7_1)
          by_cases c29 : x7_1 ≤ (wrap64 ((ji7) + t277))
          ·rw [if_pos c29] at H
           have c29b0 := eq_true c29
           have c29b1 : decide (x7_1 ≤ (wrap64 ((ji7) + t277))) = true := decide_eq_true c29
           by_cases c30 : (wrap64 ((ji7) + t277)) ≤ (a0.size : Int)
           ·rw [if_pos c30] at H
            have c30b0 := eq_true c30
            have c30b1 : decide ((wrap64 ((ji7) + t277)) ≤ (a0.size : Int)) = true := decide_eq_true c30
            by_cases c31 : x5_1.length < 2932031007402
            ·rw [if_pos c31] at H
             have LMc31 := Aside0.mk c31
             clear c31
             obtain ⟨y284, hy284⟩ : ∃ y_ : List (S40), y_ = (x5_1 ++ [(⟨x7_1, a0.extract (x7_1 : Int).toNat ((wrap64 ((ji7) + t277)) : Int).toNat, t276, true⟩ : S40)]) := ⟨_, rfl⟩
             replace H : (sieveref06_Parts.l0 k1 a0 a1 y284 (wrap64 (x7_1 + (wrap64 (1 + t277)))) (wrap64 (x7_1 + (wrap64 (1 + t277))))) = some r := by first | (rw [hy284]; with_reducible exact H) | (have H2_ := (Option.bind_some _ _).symm.trans H; rw [hy284]; with_reducible exact H2_) | (have H2_ := (Option.bind_some _ _).symm.trans H; with_reducible exact H2_) | with_reducible exact H | (rw [hy284]; exact H) | exact H
             have Ny284 := Aside0.mk hy284
             clear hy284
             have H' := Aside0.mk H
             clear H
             have p5 : 0 ≤ (x7_1 : Int) := of_decide_eq_true (by first | (with_reducible assumption) | assumption)
             have q5 : x7_1 < (a0.size : Int) := of_decide_eq_true (by first | (with_reducible assumption) | assumption)
             have hx5 := bt_at a0 x7_1
             replace p5 := eq_true p5
             replace q5 := eq_true q5
             go_wp2_with (first | ((with_reducible refine gate_callee (f := 29) rfl ?_); refine goesL_ (some 24) rfl rfl Try.func29 (by kernel_rfl) rfl #[.string (a0.extract ((ji7) : Int).toNat a0.size), .bool a1] rfl (by (try simp only [List.map_toArray, List.map_cons, List.map_nil]); first | done | (simp only [hji7]; rfl) | rfl | (simp only [List.length_drop, List.length_take]; rfl)) ?_; (with_reducible refine (sieveref06_Whole.calls k1 (a0.extract ((ji7) : Int).toNat a0.size) a1 t276 t277 _ A10.out).mono ?_); rintro e w32 ⟨rfl, hb⟩; refine ⟨_, rfl, ?_⟩; have n0_ := Aside0.mk (Kd.R_below (by (with_reducible repeat (first | apply Kd.R_alloc | apply Kd.R_drewN | apply Kd.R_drew)); exact HO_5.out) hb); have n1_ := Aside0.mk (below_step (by repeat (first | (with_reducible first | exact HB.out | apply below_alloc | apply pw_below_drewN | apply below_drew1) | exact HB.out)) hb); clear HO_5; clear HB; have HO_5 := n0_; have HB := n1_; clear n0_ n1_; (try clear hb); (try clear hb2); (try clear hk); (try clear hi)) | ((with_reducible refine gate_builtin (b := .append) (xs := #[.tmp 45, .tmp 56]) rfl ?_); at_builtin; refine Kd.R_append k40 (w0 := w) w.heap.size rfl (.tmp 45) (.tmp 56) 37 40 (.agg #[(.int .i64 0), (.string ⟨#[]⟩), (.string ⟨#[]⟩), (.bool false)]) 48 rfl Try.underlying37 info40 rfl (by decide) (by omega) u5 x5_1 (⟨x7_1, a0.extract (x7_1 : Int).toNat ((wrap64 ((ji7) + t277)) : Int).toNat, t276, true⟩ : S40) [.int .i64 x7_1, .string (a0.extract (x7_1 : Int).toNat ((wrap64 ((ji7) + t277)) : Int).toNat), .string t276, .bool true] (fun _ => True) (fun _ => False) rfl rfl ?aP (fun _ hk => hk.elim) ?aF ?aO ?aB ?aS ?aL ?_; (case aP => exact k40_mkM _ _ _ (⟨x7_1, a0.extract (x7_1 : Int).toNat ((wrap64 ((ji7) + t277)) : Int).toNat, t276, true⟩ : S40)); (case aB => exact (by repeat (first | (with_reducible first | exact HB.out | apply below_alloc | apply pw_below_drewN | apply below_drew1) | exact HB.out))); (case aF => exact (fun _ _ => trivial)); (case aO => exact (by (with_reducible repeat (first | apply Kd.R_alloc | apply Kd.R_drewN | apply Kd.R_drew)); exact HO_5.out)); (case aS => exact (below_size (by repeat (first | (with_reducible first | exact HB.out | apply below_alloc | apply pw_below_drewN | apply below_drew1) | exact HB.out)))); (case aL => have := LMc31.out; omega); intro v285 w33 ho hb hg hat; rw [← Ny284.out] at ho; have n0_ := Aside0.mk (hb); have n1_ := Aside0.mk (ho); clear HB; clear HO_5; have HB := n0_; have HO286 := n1_; clear n0_ n1_; clear ho hb hg hat))
             go_roundg k1
             case measure => have := HK1.out; omega
             case rel => exact ⟨(y284), (wrap64 (x7_1 + (wrap64 (1 + t277)))), (wrap64 (x7_1 + (wrap64 (1 + t277)))), (by first | rfl | (simp; done) | (simp [*]; done) | (unfold bt; split <;> first | rfl | (exfalso; simp_all; done) | (exfalso; simp_all; omega))), (by first | rfl | (simp; done) | (simp [*]; done) | (unfold bt; split <;> first | rfl | (exfalso; simp_all; done) | (exfalso; simp_all; omega))), H', ⟨by have := HK1.out; omega⟩, ⟨by (with_reducible repeat (first | apply Kd.R_alloc | apply Kd.R_drewN | apply Kd.R_drew)); exact HO286.out⟩, ⟨by repeat (first | (with_reducible first | exact HB.out | apply below_alloc | apply pw_below_drewN | apply below_drew1) | exact HB.out)⟩⟩
            ·rw [if_neg c31] at H
             exact absurd H (by simp)
           ·rw [if_neg c30] at H
            exact absurd H (by simp)
          ·rw [if_neg c29] at H
           exact absurd H (by simp)
        ·rw [if_neg c11] at H
         have c11b0 : decide (0 < t277) = false := decide_eq_false c11
         clear c11
         have H' := Aside0.mk H
         clear H
         have p5 : 0 ≤ (x7_1 : Int) := of_decide_eq_true (by first | (with_reducible assumption) | assumption)
         have q5 : x7_1 < (a0.size : Int) := of_decide_eq_true (by first | (with_reducible assumption) | assumption)
         have hx5 := bt_at a0 x7_1
         replace p5 := eq_true p5
         replace q5 := eq_true q5
         go_wp2_with (first | ((with_reducible refine gate_callee (f := 29) rfl ?_); refine goesL_ (some 24) rfl rfl Try.func29 (by kernel_rfl) rfl #[.string (a0.extract ((ji7) : Int).toNat a0.size), .bool a1] rfl (by (try simp only [List.map_toArray, List.map_cons, List.map_nil]); first | done | (simp only [hji7]; rfl) | rfl | (simp only [List.length_drop, List.length_take]; rfl)) ?_; (with_reducible refine (sieveref06_Whole.calls k1 (a0.extract ((ji7) : Int).toNat a0.size) a1 t276 t277 _ A10.out).mono ?_); rintro e w34 ⟨rfl, hb⟩; refine ⟨_, rfl, ?_⟩; have n0_ := Aside0.mk (Kd.R_below (by (with_reducible repeat (first | apply Kd.R_alloc | apply Kd.R_drewN | apply Kd.R_drew)); exact HO_5.out) hb); have n1_ := Aside0.mk (below_step (by repeat (first | (with_reducible first | exact HB.out | apply below_alloc | apply pw_below_drewN | apply below_drew1) | exact HB.out)) hb); clear HO_5; clear HB; have HO_5 := n0_; have HB := n1_; clear n0_ n1_; (try clear hb); (try clear hb2); (try clear hk); (try clear hi)))
         go_roundg k1
         case measure => have := HK1.out; omega
         case rel => exact ⟨(x5_1), (x6_1), (ji7), (by first | rfl | (simp; done) | (simp [*]; done) | (unfold bt; split <;> first | rfl | (exfalso; simp_all; done) | (exfalso; simp_all; omega))), (by first | rfl | (simp; done) | (simp only [← hji7] <;> (first | rfl | simp)) | (simp [*]; done)), H', ⟨by have := HK1.out; omega⟩, ⟨by (with_reducible repeat (first | apply Kd.R_alloc | apply Kd.R_drewN | apply Kd.R_drew)); exact HO_5.out⟩, ⟨by repeat (first | (with_reducible first | exact HB.out | apply below_alloc | apply pw_below_drewN | apply below_drew1) | exact HB.out)⟩⟩
       ·rw [if_neg c9] at H
        exact absurd H (by simp)
      ·rw [if_neg c8] at H
       exact absurd H (by simp)
     ·rw [if_neg c6] at H
      have c6b0 : ((bt a0 x7_1) == 38) = false := beq_eq_false_iff_ne.mpr c6
      have c6b1 : ((bt a0 x7_1) != 38) = true := bne_iff_ne.mpr c6
      have H' := Aside0.mk H
      clear H
      have p5 : 0 ≤ (x7_1 : Int) := of_decide_eq_true (by first | (with_reducible assumption) | assumption)
      have q5 : x7_1 < (a0.size : Int) := of_decide_eq_true (by first | (with_reducible assumption) | assumption)
      have hx5 := bt_at a0 x7_1
      replace p5 := eq_true p5
      replace q5 := eq_true q5
      go_wp2
      go_roundg k1
      case measure => have := HK1.out; omega
      case rel => exact ⟨(x5_1), (x6_1), (wrap64 (x7_1 + 1)), (by first | rfl | (simp; done) | (simp [*]; done) | (unfold bt; split <;> first | rfl | (exfalso; simp_all; done) | (exfalso; simp_all; omega))), (by first | rfl | (simp; done) | (simp [*]; done) | (unfold bt; split <;> first | rfl | (exfalso; simp_all; done) | (exfalso; simp_all; omega))), H', ⟨by have := HK1.out; omega⟩, ⟨by (with_reducible repeat (first | apply Kd.R_alloc | apply Kd.R_drewN | apply Kd.R_drew)); exact HO_5.out⟩, ⟨by repeat (first | (with_reducible first | exact HB.out | apply below_alloc | apply pw_below_drewN | apply below_drew1) | exact HB.out)⟩⟩
    ·rw [if_neg c4] at H
     exact absurd H (by simp)
   ·rw [if_neg c3] at H
    have c3b0 : decide (x7_1 < (a0.size : Int)) = false := decide_eq_false c3
    clear c3
    by_cases c35 : x6_1 < (a0.size : Int)
    ·rw [if_pos c35] at H
     have c35b0 : decide (x6_1 < (a0.size : Int)) = true := decide_eq_true c35
     clear c35
     by_cases c36 : 0 ≤ x6_1
     ·rw [if_pos c36] at H
      have c36b0 := eq_true c36
      have c36b1 : decide (0 ≤ x6_1) = true := decide_eq_true c36
      clear c36
      by_cases c37 : x6_1 ≤ (a0.size : Int)
      ·rw [if_pos c37] at H
       have c37b0 := eq_true c37
       have c37b1 : decide (x6_1 ≤ (a0.size : Int)) = true := decide_eq_true c37
       clear c37
       have c38b0 := eq_true (of_decide_eq_true (by first | (with_reducible assumption) | assumption) : 0 ≤ x6_1)
       have c39b0 := eq_true (of_decide_eq_true (by first | (with_reducible assumption) | assumption) : x6_1 ≤ (a0.size : Int))
       by_cases c40 : x5_1.length < 2932031007402
       ·rw [if_pos c40] at H
        have LMc40 := Aside0.mk c40
        clear c40
        obtain ⟨y273, hy273⟩ : ∃ y_ : List (S40), y_ = (x5_1 ++ [(⟨x6_1, a0.extract (x6_1 : Int).toNat a0.size, a0.extract (x6_1 : Int).toNat a0.size, false⟩ : S40)]) := ⟨_, rfl⟩
        replace H : (some y273) = some r := by first | (rw [hy273]; with_reducible exact H) | (have H2_ := (Option.bind_some _ _).symm.trans H; rw [hy273]; with_reducible exact H2_) | (have H2_ := (Option.bind_some _ _).symm.trans H; with_reducible exact H2_) | with_reducible exact H | (rw [hy273]; exact H) | exact H
        have Ny273 := Aside0.mk hy273
        clear hy273
        obtain rfl := Option.some.inj H
        try go_wp2
        have n0_ := Aside0.mk (Kd.R_drew HO_5.out)
        have n1_ := Aside0.mk (below_drew1 HB.out)
        clear HO_5
        clear HB
        have HO_5 := n0_
        have HB := n1_
        clear n0_ n1_
        refine start_ (n := 12) (S := fun w' => True) (ds := []) #[false, false, false, false, false, false, false, false, false, false, false, false] (by kernel_rfl) rfl rfl trivial (fun hHeld => ?_); refine with_tabW sieveref06_Parts.tab15 sieveref06_Parts.bits15 (fun HT_ HW_ => ?_)
        generalize wr.drew = w41 at HO_5 HB hHeld ⊢
        refine pure_ (i := 0) (N := some 69) (v := ?_) (a' := ?_) #[true, false, false, false, false, false, false, false, false, false, false, false] rfl rfl (any_of HT_.out (by kernel_rfl)) (fun _ _ _ h => h) (Or.inl ⟨by rfl, ?_⟩) ?_ ?_
        rotate_left
        ·intro w'
         go_simp
         with_reducible rfl
        rotate_left
        ·simp only [Act.put, List.setIfInBounds_toArray, List.set_cons_zero, List.set_cons_succ, i64_w, i32_w]
         rfl
        refine pure_ (i := 1) (N := some 70) (v := ?_) (a' := ?_) #[true, true, false, false, false, false, false, false, false, false, false, false] rfl rfl (any_of HT_.out (by kernel_rfl)) (fun _ _ _ h => h) (Or.inl ⟨by rfl, ?_⟩) ?_ ?_
        rotate_left
        ·intro w'
         go_simp
         with_reducible rfl
        rotate_left
        ·simp only [Act.put, List.setIfInBounds_toArray, List.set_cons_zero, List.set_cons_succ, i64_w, i32_w]
         rfl
        refine pure_ (i := 2) (N := some 71) (v := ?_) (a' := ?_) #[true, true, true, false, false, false, false, false, false, false, false, false] rfl rfl (any_of HT_.out (by kernel_rfl)) (fun _ _ _ h => h) (Or.inl ⟨by rfl, ?_⟩) ?_ ?_
        rotate_left
        ·intro w'
         go_simp
         with_reducible rfl
        rotate_left
        ·simp only [Act.put, List.setIfInBounds_toArray, List.set_cons_zero, List.set_cons_succ, i64_w, i32_w]
         rfl
        refine pure_ (i := 3) (N := some 72) (v := ?_) (a' := ?_) #[true, true, true, true, false, false, false, false, false, false, false, false] rfl rfl (any_of HT_.out (by kernel_rfl)) (fun _ _ _ h => h) (Or.inl ⟨by rfl, ?_⟩) ?_ ?_
        rotate_left
        ·intro w'
         go_simp
         with_reducible rfl
        rotate_left
        ·simp only [Act.put, List.setIfInBounds_toArray, List.set_cons_zero, List.set_cons_succ, i64_w, i32_w]
         rfl
        refine pure_ (i := 4) (N := some 73) (v := ?_) (a' := ?_) #[true, true, true, true, true, false, false, false, false, false, false, false] rfl rfl (any_of HT_.out (by kernel_rfl)) (fun _ _ _ h => h) (Or.inl ⟨by rfl, ?_⟩) ?_ ?_
        rotate_left
        ·intro w'
         go_simp
         with_reducible rfl
        rotate_left
        ·simp only [Act.put, List.setIfInBounds_toArray, List.set_cons_zero, List.set_cons_succ, i64_w, i32_w]
         rfl
        refine pure_ (i := 5) (N := some 74) (v := ?_) (a' := ?_) #[true, true, true, true, true, true, false, false, false, false, false, false] rfl rfl (any_of HT_.out (by kernel_rfl)) (fun _ _ _ h => h) (Or.inl ⟨by rfl, ?_⟩) ?_ ?_
        rotate_left
        ·intro w'
         go_simp
         with_reducible rfl
        rotate_left
        ·simp only [Act.put, List.setIfInBounds_toArray, List.set_cons_zero, List.set_cons_succ, i64_w, i32_w]
         rfl
        refine pure_ (i := 6) (N := some 75) (v := ?_) (a' := ?_) #[true, true, true, true, true, true, true, false, false, false, false, false] rfl rfl (any_of HT_.out (by kernel_rfl)) (fun _ _ _ h => h) (Or.inl ⟨by rfl, ?_⟩) ?_ ?_
        rotate_left
        ·intro w'
         go_simp
         with_reducible rfl
        rotate_left
        ·simp only [Act.put, List.setIfInBounds_toArray, List.set_cons_zero, List.set_cons_succ, i64_w, i32_w]
         rfl
        refine pure_ (i := 7) (N := some 76) (v := ?_) (a' := ?_) #[true, true, true, true, true, true, true, true, false, false, false, false] rfl rfl (any_of HT_.out (by kernel_rfl)) (fun _ _ _ h => h) (Or.inl ⟨by rfl, ?_⟩) ?_ ?_
        rotate_left
        ·intro w'
         go_simp
         with_reducible rfl
        rotate_left
        ·simp only [Act.put, List.setIfInBounds_toArray, List.set_cons_zero, List.set_cons_succ, i64_w, i32_w]
         rfl
        refine pure_ (i := 8) (N := some 77) (v := ?_) (a' := ?_) #[true, true, true, true, true, true, true, true, true, false, false, false] rfl rfl (any_of HT_.out (by kernel_rfl)) (fun _ _ _ h => h) (Or.inl ⟨by rfl, ?_⟩) ?_ ?_
        rotate_left
        ·intro w'
         go_simp
         with_reducible rfl
        rotate_left
        ·simp only [Act.put, List.setIfInBounds_toArray, List.set_cons_zero, List.set_cons_succ, i64_w, i32_w]
         rfl
        refine one_ (i := 9) (N := some 78) #[true, true, true, true, true, true, true, true, true, true, false, false] rfl rfl (one_of HT_.out (by kernel_rfl)) (by decide) (fun K hK => ?_)
        refine value_ (w1 := ?_) (v := ?_) (by rfl) rfl ?_ ?_
        rotate_left 2
        ·go_simp
         constructor
         ·rfl
         ·rfl
        refine hK.out _ _ trivial (fun hHeld => ?_)
        clear hK K
        refine norm_ (a' := ?_) ?_ ?_
        rotate_left
        ·show Act.put _ (some 78) _ = _
         simp only [Act.put, List.setIfInBounds_toArray, List.set_cons_zero, List.set_cons_succ, i64_w, i32_w]
         rfl
        refine one_ (i := 10) (N := some 79) #[true, true, true, true, true, true, true, true, true, true, true, false] rfl rfl (one_of HT_.out (by kernel_rfl)) (by decide) (fun K hK => ?_)
        refine Kd.R_append_step k40 (w0 := w) w.heap.size (by rfl) (.tmp 69) (.tmp 78) 37 40 (.agg #[(.int .i64 0), (.string ⟨#[]⟩), (.string ⟨#[]⟩), (.bool false)]) 48 rfl Try.underlying37 info40 rfl (by decide) (by omega) u5 x5_1 (⟨x6_1, a0.extract (x6_1 : Int).toNat a0.size, a0.extract (x6_1 : Int).toNat a0.size, false⟩ : S40) [.int .i64 x6_1, .string (a0.extract (x6_1 : Int).toNat a0.size), .string (a0.extract (x6_1 : Int).toNat a0.size), .bool false] (fun _ => True) (fun _ => False) rfl rfl ?aP (fun _ hk => hk.elim) ?aF ?aO ?aB ?aS ?aL ?_
        (case aP => exact k40_mkM _ _ _ (⟨x6_1, a0.extract (x6_1 : Int).toNat a0.size, a0.extract (x6_1 : Int).toNat a0.size, false⟩ : S40))
        (case aB => exact (by repeat (first | (with_reducible first | exact HB.out | apply below_alloc | apply pw_below_drewN | apply below_drew1) | exact HB.out)))
        (case aF => exact (fun _ _ => trivial))
        (case aO => exact (by (with_reducible repeat (first | apply Kd.R_alloc | apply Kd.R_drewN | apply Kd.R_drew)); exact HO_5.out))
        (case aS => exact (below_size (by repeat (first | (with_reducible first | exact HB.out | apply below_alloc | apply pw_below_drewN | apply below_drew1) | exact HB.out))))
        (case aL => have := LMc40.out; omega)
        intro v274 w42 ho hb hg hat
        rw [← Ny273.out] at ho
        have n0_ := Aside0.mk (hb)
        have n1_ := Aside0.mk (ho)
        clear HB
        clear HO_5
        have HB := n0_
        have HO275 := n1_
        clear n0_ n1_
        clear ho hb hg hat
        refine hK.out _ _ trivial (fun hHeld => ?_)
        clear hK K
        refine norm_ (a' := ?_) ?_ ?_
        rotate_left
        ·show Act.put _ (some 79) _ = _
         simp only [Act.put, List.setIfInBounds_toArray, List.set_cons_zero, List.set_cons_succ, i64_w, i32_w]
         rfl
        refine pure_ (i := 11) (N := some 5) (v := ?_) (a' := ?_) #[true, true, true, true, true, true, true, true, true, true, true, true] rfl rfl (any_of HT_.out (by kernel_rfl)) (fun _ _ _ h => h) (Or.inl ⟨by rfl, ?_⟩) ?_ ?_
        rotate_left
        ·intro w'
         go_simp
         with_reducible rfl
        rotate_left
        ·simp only [Act.put, List.setIfInBounds_toArray, List.set_cons_zero, List.set_cons_succ, i64_w, i32_w]
         rfl
        refine done_ (done_of HT_.out (by kernel_rfl)) ?_
        try go_wp2
        go_ret
        exact ⟨_, by first | rfl | (simp [errW_none, errW_some] <;> rfl) | (simp [*, errW_none, errW_some] <;> rfl), by (with_reducible repeat (first | apply Kd.R_alloc | apply Kd.R_drewN | apply Kd.R_drew)); exact HO275.out, by repeat (first | (with_reducible first | exact HB.out | apply below_alloc | apply pw_below_drewN | apply below_drew1) | exact HB.out)⟩
       ·rw [if_neg c40] at H
        exact absurd H (by simp)
      ·rw [if_neg c37] at H
       exact absurd H (by simp)
     ·rw [if_neg c36] at H
      exact absurd H (by simp)
    ·rw [if_neg c35] at H
     have c35b0 : decide (x6_1 < (a0.size : Int)) = false := decide_eq_false c35
     clear c35
     obtain rfl := Option.some.inj H
     go_wp2
     go_ret
     exact ⟨_, by first | rfl | (simp [errW_none, errW_some] <;> rfl) | (simp [*, errW_none, errW_some] <;> rfl), by (with_reducible repeat (first | apply Kd.R_alloc | apply Kd.R_drewN | apply Kd.R_drew)); exact HO_5.out, by repeat (first | (with_reducible first | exact HB.out | apply below_alloc | apply pw_below_drewN | apply below_drew1) | exact HB.out)⟩

/-! ### sieveref06_Decode: function 19 -/
def sieveref06_Decode.l0 : Nat → ByteArray → List (S40) → Int → Int → Option (ByteArray)
 | 0, _, _, _, _ => none
 | k + 1, x5, x11, x12, x13 => if x13 < x12 then (if 0 ≤ x13 then (if x13 < (x11.length : Int) then (if x5.size + ((rd_T40 x11 x13).f2).size ≤ 9223372036854775807 then (sieveref06_Decode.l0 k (x5 ++ ((rd_T40 x11 x13).f2)) x11 x12 (wrap64 (x13 + 1))) else (none)) else (none)) else (none)) else (some x5)
def sieveref06_Decode.f (k : Nat) (a0 : ByteArray) (a1 : Bool) : Option (ByteArray) := (sieveref01_Mend.f a0).bind fun t287 => ((sieveref06_Parts.f k t287 a1).bind fun t288 => (sieveref06_Decode.l0 k (⟨#[]⟩ : ByteArray) t288 (t288.length : Int) 0))
theorem sieveref06_Decode.mono_l : ∀ k, (∀ y0 y1 y2 y3, LeO (sieveref06_Decode.l0 k y0 y1 y2 y3) (sieveref06_Decode.l0 (k + 1) y0 y1 y2 y3))
 | 0 => fun _ _ _ _ r h => by simp [sieveref06_Decode.l0] at h
 | k + 1 => by
  have ih0 := sieveref06_Decode.mono_l k
  ·intro y0 y1 y2 y3
   unfold sieveref06_Decode.l0
   repeat' first
   | (with_reducible exact ih0 _ _ _ _)
   | (with_reducible exact sieveref06_Parts.mono _ _ _)
   | (with_reducible exact LeO.refl _)
   | (with_reducible exact LeO.none _)
   | (with_reducible refine LeO.ite ?_ ?_)
   | (with_reducible refine LeO.bind ?_ (fun _ => ?_))
   | exact ih0 _ _ _ _
   | exact sieveref06_Parts.mono _ _ _
   | exact LeO.none _
   | refine LeO.ite ?_ ?_
   | refine LeO.bind ?_ (fun _ => ?_)
theorem sieveref06_Decode.mono : ∀ a0 a1 k, LeO (sieveref06_Decode.f k a0 a1) (sieveref06_Decode.f (k + 1) a0 a1) := by
 intro a0 a1 k
 have ih0 := sieveref06_Decode.mono_l k
 unfold sieveref06_Decode.f
 repeat' first
   | (with_reducible exact ih0 _ _ _ _)
   | (with_reducible exact sieveref06_Parts.mono _ _ _)
   | (with_reducible exact LeO.refl _)
   | (with_reducible exact LeO.none _)
   | (with_reducible refine LeO.ite ?_ ?_)
   | (with_reducible refine LeO.bind ?_ (fun _ => ?_))
   | exact ih0 _ _ _ _
   | exact sieveref06_Parts.mono _ _ _
   | exact LeO.none _
   | refine LeO.ite ?_ ?_
   | refine LeO.bind ?_ (fun _ => ?_)
set_option maxHeartbeats 8000000 in
set_option maxRecDepth 100000 in
theorem sieveref06_Decode.calls (k : Nat) (a0 : ByteArray) (a1 : Bool) (r : ByteArray) (w : World) (h : sieveref06_Decode.f k a0 a1 = some r) :
  Calls Try.prog 19 #[.string a0, .bool a1] w fun e w' => e = .returned (.string r) ∧ Below w.heap.size w w' := by
 have hu40 := Try.underlying40
 have HB := Aside0.mk (Below.refl w.heap.size w)
 have H : ((sieveref01_Mend.f a0).bind fun t287 => ((sieveref06_Parts.f k t287 a1).bind fun t288 => (sieveref06_Decode.l0 k (⟨#[]⟩ : ByteArray) t288 (t288.length : Int) 0))) = some r := h
 clear h
 replace H := Option.bind_eq_some_iff.mp H
 obtain ⟨t287, A30, H⟩ := H
 replace H : ((sieveref06_Parts.f k t287 a1).bind fun t288 => (sieveref06_Decode.l0 k (⟨#[]⟩ : ByteArray) t288 (t288.length : Int) 0)) = some r := H
 have A3 := Aside0.mk A30
 clear A30
 replace H := Option.bind_eq_some_iff.mp H
 obtain ⟨t288, A40, H⟩ := H
 replace H : (sieveref06_Decode.l0 k (⟨#[]⟩ : ByteArray) t288 (t288.length : Int) 0) = some r := H
 have A4 := Aside0.mk A40
 clear A40
 have H' := Aside0.mk H
 clear H
 go_enter Try.func19, Try.ntmps19
 go_wp2_with (first | ((with_reducible refine gate_callee (f := 14) rfl ?_); refine goesL_ (some 9) rfl rfl Try.func14 (by kernel_rfl) rfl #[.string a0] rfl (by (try simp only [List.map_toArray, List.map_cons, List.map_nil]); first | done | rfl | (simp only [List.length_drop, List.length_take]; rfl) | (simp [*] <;> rfl)) ?_; (with_reducible refine (sieveref01_Mend.calls a0 t287 _ A3.out).mono ?_); rintro e w5 ⟨rfl, hb⟩; refine ⟨_, rfl, ?_⟩; have n0_ := Aside0.mk (below_step (by repeat (first | (with_reducible first | exact HB.out | apply below_alloc | apply pw_below_drewN | apply below_drew1) | exact HB.out)) hb); clear HB; have HB := n0_; clear n0_; (try clear hb); (try clear hb2); (try clear hk); (try clear hi)) | ((with_reducible refine gate_callee (f := 20) rfl ?_); refine goesL_ (some 11) rfl rfl Try.func20 (by kernel_rfl) rfl #[.string t287, .bool a1] rfl (by (try simp only [List.map_toArray, List.map_cons, List.map_nil]); first | done | rfl | (simp only [List.length_drop, List.length_take]; rfl) | (simp [*] <;> rfl)) ?_; (with_reducible refine (sieveref06_Parts.calls k t287 a1 t288 _ A4.out).mono ?_); rintro e w6 ⟨v289, rfl, ho0, hb⟩; refine ⟨_, rfl, ?_⟩; have n0_ := Aside0.mk (Kd.R_lower ho0 (below_size (by repeat (first | (with_reducible first | exact HB.out | apply below_alloc | apply pw_below_drewN | apply below_drew1) | exact HB.out)))); have n1_ := Aside0.mk (below_step (by repeat (first | (with_reducible first | exact HB.out | apply below_alloc | apply pw_below_drewN | apply below_drew1) | exact HB.out)) hb); clear HB; have HO290 := n0_; have HB := n1_; clear n0_ n1_; (try clear hb); (try clear hb2); (try clear hk); (try clear hi); (try clear ho0); obtain ⟨Ao7, co7, eo7⟩ := Kd.R_slice HO290.out; subst eo7))
 go_loopg [5, 13] k (fun kq v5 v13 w' => ∃ (x5_1 : ByteArray) (x13_1 : Int), v5 = .string x5_1 ∧ v13 = .int .i64 x13_1 ∧ Aside0 (sieveref06_Decode.l0 kq x5_1 t288 (t288.length : Int) x13_1 = some r) ∧ Aside0 (kq ≤ k) ∧ Aside0 (Kd.R k40 40 w' w.heap.size (fun _ => True) (.slice Ao7 t288.length co7) t288) ∧ Aside0 (Below w.heap.size w w'))
 case atStart => exact ⟨((⟨#[]⟩ : ByteArray)), (0), (by first | rfl | (simp; done) | (simp [*]; done) | (unfold bt; split <;> first | rfl | (exfalso; simp_all; done) | (exfalso; simp_all; omega))), (by first | rfl | (simp; done) | (simp [*]; done) | (unfold bt; split <;> first | rfl | (exfalso; simp_all; done) | (exfalso; simp_all; omega))), H', ⟨Nat.le_refl _⟩, ⟨by (with_reducible repeat (first | apply Kd.R_alloc | apply Kd.R_drewN | apply Kd.R_drew)); exact HO290.out⟩, ⟨by repeat (first | (with_reducible first | exact HB.out | apply below_alloc | apply pw_below_drewN | apply below_drew1) | exact HB.out)⟩⟩
 case round =>
  clear H'
  try clear c1
  try clear c2
  try clear p2
  obtain ⟨x5_1, x13_1, rfl, rfl, HA, HK1, HO_11, HB⟩ := hrel
  cases gk with
  | zero => exact absurd HA.out (by simp [sieveref06_Decode.l0])
  | succ k1 =>
   have H := HA.out
   clear HA
   simp only [sieveref06_Decode.l0] at H
   by_cases c8 : x13_1 < (t288.length : Int)
   ·rw [if_pos c8] at H
    have c8b0 : decide (x13_1 < (t288.length : Int)) = true := decide_eq_true c8
    clear c8
    by_cases c9 : 0 ≤ x13_1
    ·rw [if_pos c9] at H
     have c9b0 : decide (0 ≤ x13_1) = true := decide_eq_true c9
     clear c9
     by_cases c10 : x13_1 < (t288.length : Int)
     ·rw [if_pos c10] at H
      have c10b0 : decide (x13_1 < (t288.length : Int)) = true := decide_eq_true c10
      clear c10
      by_cases c11 : x5_1.size + ((rd_T40 t288 x13_1).f2).size ≤ 9223372036854775807
      ·rw [if_pos c11] at H
       have c11b0 := eq_true c11
       have c11b1 : decide (x5_1.size + ((rd_T40 t288 x13_1).f2).size ≤ 9223372036854775807) = true := decide_eq_true c11
       try have c11b2 : (9223372036854775807 < x5_1.size + ((rd_T40 t288 x13_1).f2).size) = False := eq_false (Nat.not_lt.2 c11)
       have H' := Aside0.mk H
       clear H
       have p291 : 0 ≤ (x13_1 : Int) := of_decide_eq_true (by first | (with_reducible assumption) | assumption)
       have q291 : x13_1 < (t288.length : Int) := of_decide_eq_true (by first | (with_reducible assumption) | assumption)
       obtain ⟨ad291, e291, hx291_0, hx291_1, hx291_2, hx291_3⟩ := at_T40 (Kd.R_reads' HO_11.out).2.2 x13_1 p291 q291
       cases e291
       replace p291 := eq_true p291
       replace q291 := eq_true q291
       go_wp2_with (first | ((with_reducible refine gate_dst (N := 7) rfl ?_); refine box_event ?hg (N := 7) ?hd (cs := #[.int .i64 0, .string (⟨#[]⟩ : ByteArray), .string (⟨#[]⟩ : ByteArray), .bool false]) (t := 40) ?hr ?_; (case hd => rfl); (case hg => rfl); (case hr => first | (go_simp; done) | (go_simp; rfl)); intro gb292 hg w12 hbox hb; have n0_ := Aside0.mk (Kd.R_below (Kd.R_elderB (by (with_reducible repeat (first | apply Kd.R_alloc | apply Kd.R_drewN | apply Kd.R_drew)); exact HO_11.out) gb292 (Nat.le_of_eq hg.symm)) hb); have n1_ := Aside0.mk (below_step (by repeat (first | (with_reducible first | exact HB.out | apply below_alloc | apply pw_below_drewN | apply below_drew1) | exact HB.out)) hb); have n2_ := Aside0.mk (hbox); have n3_ := Aside0.mk ((by rw [hg]; exact (below_size (by repeat (first | (with_reducible first | exact HB.out | apply below_alloc | apply pw_below_drewN | apply below_drew1) | exact HB.out))) : w.heap.size ≤ gb292)); have n4_ := Aside0.mk ((by rw [hg]; exact (below_size (by repeat (first | (with_reducible first | exact HB.out | apply below_alloc | apply pw_below_drewN | apply below_drew1) | exact HB.out))) : w.heap.size ≤ gb292)); clear HO_11; clear HB; have HO_11 := n0_; have HB := n1_; have BK292 := n2_; have GW292 := n3_; have GE292 := n4_; clear n0_ n1_ n2_ n3_ n4_; clear hb hbox hg; have hcz13_0 : w12.cell? ⟨gb292, 0, none⟩ = some (.int .i64 0) := (blk_cell BK292.out 0).trans rfl; have hcz13_1 : w12.cell? ⟨gb292, 1, none⟩ = some (.string (⟨#[]⟩ : ByteArray)) := (blk_cell BK292.out 1).trans rfl; have hcz13_2 : w12.cell? ⟨gb292, 2, none⟩ = some (.string (⟨#[]⟩ : ByteArray)) := (blk_cell BK292.out 2).trans rfl; have hcz13_3 : w12.cell? ⟨gb292, 3, none⟩ = some (.bool false) := (blk_cell BK292.out 3).trans rfl; have hfz13_0 := blk_frozen BK292.out 0; have hfz13_1 := blk_frozen BK292.out 1; have hfz13_2 := blk_frozen BK292.out 2; have hfz13_3 := blk_frozen BK292.out 3))
       go_roundg k1
       case measure => have := HK1.out; omega
       case rel => exact ⟨(x5_1 ++ ((rd_T40 t288 x13_1).f2)), (wrap64 (x13_1 + 1)), (by first | rfl | (simp; done) | (simp [*]; done) | (unfold bt; split <;> first | rfl | (exfalso; simp_all; done) | (exfalso; simp_all; omega))), (by first | rfl | (simp; done) | (simp [*]; done) | (unfold bt; split <;> first | rfl | (exfalso; simp_all; done) | (exfalso; simp_all; omega))), H', ⟨by have := HK1.out; omega⟩, ⟨by (with_reducible repeat (first | apply Kd.R_alloc | apply Kd.R_drewN | apply Kd.R_drew)); exact Kd.R_mono (Kd.R_far (p := ⟨gb292, 3, none⟩) (Kd.R_far (p := ⟨gb292, 2, none⟩) (Kd.R_far (p := ⟨gb292, 1, none⟩) (Kd.R_far (p := ⟨gb292, 0, none⟩) (Kd.R_mono HO_11.out (fun k_ hk => (⟨hk, hk.2⟩ : _ ∧ k_ ≠ gb292))) (fun _ hk => hk.2) (.int .i64 ((rd_T40 t288 x13_1).f0))) (fun _ hk => hk.2) (.string ((rd_T40 t288 x13_1).f1))) (fun _ hk => hk.2) (.string ((rd_T40 t288 x13_1).f2))) (fun _ hk => hk.2) (.bool ((rd_T40 t288 x13_1).f3))) (fun _ hk => trivial)⟩, ⟨by repeat (first | (with_reducible first | exact HB.out | apply below_alloc | apply pw_below_drewN | apply below_drew1 | refine below_set ?_ GE292.out) | exact HB.out)⟩⟩
      ·rw [if_neg c11] at H
       exact absurd H (by simp)
     ·rw [if_neg c10] at H
      exact absurd H (by simp)
    ·rw [if_neg c9] at H
     exact absurd H (by simp)
   ·rw [if_neg c8] at H
    have c8b0 : decide (x13_1 < (t288.length : Int)) = false := decide_eq_false c8
    clear c8
    obtain rfl := Option.some.inj H
    go_wp2
    go_ret
    exact ⟨by first | rfl | (simp [errW_none, errW_some] <;> rfl) | (simp [*, errW_none, errW_some] <;> rfl), by repeat (first | (with_reducible first | exact HB.out | apply below_alloc | apply pw_below_drewN | apply below_drew1) | exact HB.out)⟩

/-! ### sieveref06_Held: function 26 -/
def sieveref06_Held.l0 : Nat → ByteArray → Bool → Int → Option (Int)
 | 0, _, _, _ => none
 | k + 1, x0, x1, x5 => if x5 < (x0.size : Int) then (if 0 ≤ x5 then (if (bt x0 x5) = 38 then (if 0 ≤ (wrap64 (x5 + 1)) then (if (wrap64 (x5 + 1)) ≤ (x0.size : Int) then ((sieveref06_Sure.f k (x0.extract ((wrap64 (x5 + 1)) : Int).toNat x0.size) x1).bind fun t293 => (if t293 = true then ((sieveref06_Whole.f k (x0.extract ((wrap64 (x5 + 1)) : Int).toNat x0.size) x1).bind fun bt294 => (sieveref06_Held.l0 k x0 x1 (wrap64 (x5 + (wrap64 (1 + bt294.2)))))) else (some x5))) else (none)) else (none)) else (sieveref06_Held.l0 k x0 x1 (wrap64 (x5 + 1)))) else (none)) else (some (x0.size : Int))
def sieveref06_Held.f (k : Nat) (a0 : ByteArray) (a1 : Bool) : Option (Int) := sieveref06_Held.l0 k a0 a1 0
theorem sieveref06_Held.mono_l : ∀ k, (∀ y0 y1 y2, LeO (sieveref06_Held.l0 k y0 y1 y2) (sieveref06_Held.l0 (k + 1) y0 y1 y2))
 | 0 => fun _ _ _ r h => by simp [sieveref06_Held.l0] at h
 | k + 1 => by
  have ih0 := sieveref06_Held.mono_l k
  ·intro y0 y1 y2
   unfold sieveref06_Held.l0
   repeat' first
   | (with_reducible exact ih0 _ _ _)
   | (with_reducible exact sieveref06_Sure.mono _ _ _)
   | (with_reducible exact sieveref06_Whole.mono _ _ _)
   | (with_reducible exact LeO.refl _)
   | (with_reducible exact LeO.none _)
   | (with_reducible refine LeO.ite ?_ ?_)
   | (with_reducible refine LeO.bind ?_ (fun _ => ?_))
   | exact ih0 _ _ _
   | exact sieveref06_Sure.mono _ _ _
   | exact sieveref06_Whole.mono _ _ _
   | exact LeO.none _
   | refine LeO.ite ?_ ?_
   | refine LeO.bind ?_ (fun _ => ?_)
theorem sieveref06_Held.mono : ∀ a0 a1 k, LeO (sieveref06_Held.f k a0 a1) (sieveref06_Held.f (k + 1) a0 a1) := by
 intro a0 a1 k
 have ih0 := sieveref06_Held.mono_l k
 unfold sieveref06_Held.f
 repeat' first
   | (with_reducible exact ih0 _ _ _)
   | (with_reducible exact sieveref06_Sure.mono _ _ _)
   | (with_reducible exact sieveref06_Whole.mono _ _ _)
   | (with_reducible exact LeO.refl _)
   | (with_reducible exact LeO.none _)
   | (with_reducible refine LeO.ite ?_ ?_)
   | (with_reducible refine LeO.bind ?_ (fun _ => ?_))
   | exact ih0 _ _ _
   | exact sieveref06_Sure.mono _ _ _
   | exact sieveref06_Whole.mono _ _ _
   | exact LeO.none _
   | refine LeO.ite ?_ ?_
   | refine LeO.bind ?_ (fun _ => ?_)
set_option maxHeartbeats 8000000 in
set_option maxRecDepth 100000 in
theorem sieveref06_Held.calls (k : Nat) (a0 : ByteArray) (a1 : Bool) (r : Int) (w : World) (h : sieveref06_Held.f k a0 a1 = some r) :
  Calls Try.prog 26 #[.string a0, .bool a1] w fun e w' => e = .returned (.int .i64 r) ∧ Below w.heap.size w w' := by
 have HB := Aside0.mk (Below.refl w.heap.size w)
 have H : (sieveref06_Held.l0 k a0 a1 0) = some r := h
 clear h
 have H' := Aside0.mk H
 clear H
 go_enter Try.func26, Try.ntmps26
 go_wp2
 go_loopg [5] k (fun kq v5 w' => ∃ (x5_1 : Int), v5 = .int .i64 x5_1 ∧ Aside0 (sieveref06_Held.l0 kq a0 a1 x5_1 = some r) ∧ Aside0 (kq ≤ k) ∧ Aside0 (Below w.heap.size w w'))
 case atStart => exact ⟨(0), (by first | rfl | (simp; done) | (simp [*]; done) | (unfold bt; split <;> first | rfl | (exfalso; simp_all; done) | (exfalso; simp_all; omega))), H', ⟨Nat.le_refl _⟩, ⟨by repeat (first | (with_reducible first | exact HB.out | apply below_alloc | apply pw_below_drewN | apply below_drew1) | exact HB.out)⟩⟩
 case round =>
  clear H'
  try clear c2
  try clear p2
  obtain ⟨x5_1, rfl, HA, HK1, HB⟩ := hrel
  cases gk with
  | zero => exact absurd HA.out (by simp [sieveref06_Held.l0])
  | succ k1 =>
   have H := HA.out
   clear HA
   simp only [sieveref06_Held.l0] at H
   by_cases c3 : x5_1 < (a0.size : Int)
   ·rw [if_pos c3] at H
    have c3b0 : decide (x5_1 < (a0.size : Int)) = true := decide_eq_true c3
    clear c3
    by_cases c4 : 0 ≤ x5_1
    ·rw [if_pos c4] at H
     have c4b0 : decide (0 ≤ x5_1) = true := decide_eq_true c4
     clear c4
     by_cases c6 : (bt a0 x5_1) = 38
     ·rw [if_pos c6] at H
      have c6b0 : ((bt a0 x5_1) == 38) = true := beq_iff_eq.mpr c6
      have c6b1 : ((bt a0 x5_1) != 38) = false := bne_eq_false_iff_eq.mpr c6
      clear c6
      obtain ⟨ji7, hji7⟩ : ∃ j_ : Int, (wrap64 (x5_1 + 1)) = j_ := ⟨_, rfl⟩
      replace H : (if 0 ≤ (ji7) then (if (ji7) ≤ (a0.size : Int) then ((sieveref06_Sure.f k1 (a0.extract ((ji7) : Int).toNat a0.size) a1).bind fun t293 => (if t293 = true then ((sieveref06_Whole.f k1 (a0.extract ((ji7) : Int).toNat a0.size) a1).bind fun bt294 => (sieveref06_Held.l0 k1 a0 a1 (wrap64 (x5_1 + (wrap64 (1 + bt294.2)))))) else (some x5_1))) else (none)) else (none)) = some r := by first | (rw [hji7] at H; exact H) | (simp only [hji7] at H ⊢; exact H)
      have hji7w : (IntKind.i64.wrap (x5_1 + 1)) = ji7 := (i64_w _).trans hji7
      by_cases c8 : 0 ≤ (ji7)
      ·rw [if_pos c8] at H
       have c8b0 := eq_true c8
       have c8b1 : decide (0 ≤ (ji7)) = true := decide_eq_true c8
       clear c8
       by_cases c9 : (ji7) ≤ (a0.size : Int)
       ·rw [if_pos c9] at H
        have c9b0 := eq_true c9
        have c9b1 : decide ((ji7) ≤ (a0.size : Int)) = true := decide_eq_true c9
        clear c9
        replace H := Option.bind_eq_some_iff.mp H
        obtain ⟨t293, A100, H⟩ := H
        replace H : (if t293 = true then ((sieveref06_Whole.f k1 (a0.extract ((ji7) : Int).toNat a0.size) a1).bind fun bt294 => (sieveref06_Held.l0 k1 a0 a1 (wrap64 (x5_1 + (wrap64 (1 + bt294.2)))))) else (some x5_1)) = some r := H
        have A10 := Aside0.mk A100
        clear A100
        by_cases c11 : t293 = true
        ·subst c11
         have H1 : ((sieveref06_Whole.f k1 (a0.extract ((ji7) : Int).toNat a0.size) a1).bind fun bt294 => (sieveref06_Held.l0 k1 a0 a1 (wrap64 (x5_1 + (wrap64 (1 + bt294.2)))))) = some r := by rw [if_pos rfl] at H; exact H
         clear H
         have H := H1
         clear H1
         have c12b0 := eq_true (of_decide_eq_true (by first | (with_reducible assumption) | assumption) : 0 ≤ (ji7))
         have c13b0 := eq_true (of_decide_eq_true (by first | (with_reducible assumption) | assumption) : (ji7) ≤ (a0.size : Int))
         replace H := Option.bind_eq_some_iff.mp H
         obtain ⟨⟨t294, t295⟩, A140, H⟩ := H
         replace H : (sieveref06_Held.l0 k1 a0 a1 (wrap64 (x5_1 + (wrap64 (1 + t295))))) = some r := H
         have A14 := Aside0.mk A140
         clear A140
         have H' := Aside0.mk H
         clear H
         have p5 : 0 ≤ (x5_1 : Int) := of_decide_eq_true (by first | (with_reducible assumption) | assumption)
         have q5 : x5_1 < (a0.size : Int) := of_decide_eq_true (by first | (with_reducible assumption) | assumption)
         have hx5 := bt_at a0 x5_1
         replace p5 := eq_true p5
         replace q5 := eq_true q5
         go_wp2_with (first | ((with_reducible refine gate_callee (f := 28) rfl ?_); refine goesL_ (some 23) rfl rfl Try.func28 (by kernel_rfl) rfl #[.string (a0.extract ((ji7) : Int).toNat a0.size), .bool a1] rfl (by (try simp only [List.map_toArray, List.map_cons, List.map_nil]); first | done | (simp only [hji7]; rfl) | rfl | (simp only [List.length_drop, List.length_take]; rfl)) ?_; (with_reducible refine (sieveref06_Sure.calls k1 (a0.extract ((ji7) : Int).toNat a0.size) a1 true _ A10.out).mono ?_); rintro e w15 ⟨rfl, hb⟩; refine ⟨_, rfl, ?_⟩; have n0_ := Aside0.mk (below_step (by repeat (first | (with_reducible first | exact HB.out | apply below_alloc | apply pw_below_drewN | apply below_drew1) | exact HB.out)) hb); clear HB; have HB := n0_; clear n0_; (try clear hb); (try clear hb2); (try clear hk); (try clear hi)) | ((with_reducible refine gate_callee (f := 29) rfl ?_); refine goesL_ (some 32) rfl rfl Try.func29 (by kernel_rfl) rfl #[.string (a0.extract ((ji7) : Int).toNat a0.size), .bool a1] rfl (by (try simp only [List.map_toArray, List.map_cons, List.map_nil]); first | done | (simp only [hji7]; rfl) | rfl | (simp only [List.length_drop, List.length_take]; rfl)) ?_; (with_reducible refine (sieveref06_Whole.calls k1 (a0.extract ((ji7) : Int).toNat a0.size) a1 t294 t295 _ A14.out).mono ?_); rintro e w16 ⟨rfl, hb⟩; refine ⟨_, rfl, ?_⟩; have n0_ := Aside0.mk (below_step (by repeat (first | (with_reducible first | exact HB.out | apply below_alloc | apply pw_below_drewN | apply below_drew1) | exact HB.out)) hb); clear HB; have HB := n0_; clear n0_; (try clear hb); (try clear hb2); (try clear hk); (try clear hi)))
         go_roundg k1
         case measure => have := HK1.out; omega
         case rel => exact ⟨(wrap64 (x5_1 + (wrap64 (1 + t295)))), (by first | rfl | (simp; done) | (simp [*]; done) | (unfold bt; split <;> first | rfl | (exfalso; simp_all; done) | (exfalso; simp_all; omega))), H', ⟨by have := HK1.out; omega⟩, ⟨by repeat (first | (with_reducible first | exact HB.out | apply below_alloc | apply pw_below_drewN | apply below_drew1) | exact HB.out)⟩⟩
        ·replace c11 := Bool.eq_false_iff.mpr c11
         subst c11
         have H1 : (some x5_1) = some r := by rw [if_neg (show ¬ (false = true) by decide)] at H; exact H
         clear H
         have H := H1
         clear H1
         obtain rfl := Option.some.inj H
         have p5 : 0 ≤ (x5_1 : Int) := of_decide_eq_true (by first | (with_reducible assumption) | assumption)
         have q5 : x5_1 < (a0.size : Int) := of_decide_eq_true (by first | (with_reducible assumption) | assumption)
         have hx5 := bt_at a0 x5_1
         replace p5 := eq_true p5
         replace q5 := eq_true q5
         go_wp2_with (first | ((with_reducible refine gate_callee (f := 28) rfl ?_); refine goesL_ (some 23) rfl rfl Try.func28 (by kernel_rfl) rfl #[.string (a0.extract ((ji7) : Int).toNat a0.size), .bool a1] rfl (by (try simp only [List.map_toArray, List.map_cons, List.map_nil]); first | done | (simp only [hji7]; rfl) | rfl | (simp only [List.length_drop, List.length_take]; rfl)) ?_; (with_reducible refine (sieveref06_Sure.calls k1 (a0.extract ((ji7) : Int).toNat a0.size) a1 false _ A10.out).mono ?_); rintro e w17 ⟨rfl, hb⟩; refine ⟨_, rfl, ?_⟩; have n0_ := Aside0.mk (below_step (by repeat (first | (with_reducible first | exact HB.out | apply below_alloc | apply pw_below_drewN | apply below_drew1) | exact HB.out)) hb); clear HB; have HB := n0_; clear n0_; (try clear hb); (try clear hb2); (try clear hk); (try clear hi)))
         go_ret
         exact ⟨by first | rfl | (simp [errW_none, errW_some] <;> rfl) | (simp only [← hji7]; first | rfl | (simp [errW_none, errW_some] <;> rfl)) | (simp [*, errW_none, errW_some] <;> rfl), by repeat (first | (with_reducible first | exact HB.out | apply below_alloc | apply pw_below_drewN | apply below_drew1) | exact HB.out)⟩
       ·rw [if_neg c9] at H
        exact absurd H (by simp)
      ·rw [if_neg c8] at H
       exact absurd H (by simp)
     ·rw [if_neg c6] at H
      have c6b0 : ((bt a0 x5_1) == 38) = false := beq_eq_false_iff_ne.mpr c6
      have c6b1 : ((bt a0 x5_1) != 38) = true := bne_iff_ne.mpr c6
      have H' := Aside0.mk H
      clear H
      have p5 : 0 ≤ (x5_1 : Int) := of_decide_eq_true (by first | (with_reducible assumption) | assumption)
      have q5 : x5_1 < (a0.size : Int) := of_decide_eq_true (by first | (with_reducible assumption) | assumption)
      have hx5 := bt_at a0 x5_1
      replace p5 := eq_true p5
      replace q5 := eq_true q5
      go_wp2
      go_roundg k1
      case measure => have := HK1.out; omega
      case rel => exact ⟨(wrap64 (x5_1 + 1)), (by first | rfl | (simp; done) | (simp [*]; done) | (unfold bt; split <;> first | rfl | (exfalso; simp_all; done) | (exfalso; simp_all; omega))), H', ⟨by have := HK1.out; omega⟩, ⟨by repeat (first | (with_reducible first | exact HB.out | apply below_alloc | apply pw_below_drewN | apply below_drew1) | exact HB.out)⟩⟩
    ·rw [if_neg c4] at H
     exact absurd H (by simp)
   ·rw [if_neg c3] at H
    have c3b0 : decide (x5_1 < (a0.size : Int)) = false := decide_eq_false c3
    clear c3
    obtain rfl := Option.some.inj H
    go_wp2
    go_ret
    exact ⟨by first | rfl | (simp [errW_none, errW_some] <;> rfl) | (simp [*, errW_none, errW_some] <;> rfl), by repeat (first | (with_reducible first | exact HB.out | apply below_alloc | apply pw_below_drewN | apply below_drew1) | exact HB.out)⟩

end Go.Proofs.Ytilpbfbnnmclhaa.P
end
section
/-
  What a number says: the contract of 'charref.says' (numbers from 0 on), over the array of 'charref.windows'.
-/
namespace Go.Proofs.Ytilpbfbnnmclhaa.P
open Go.RowKit Go.Proofs.YtilpbfbnnmclhaaW.PrintWords Go.Proofs.YtilpbfbnnmclhaaW.PrintLast Go.Proofs.YtilpbfbnnmclhaaW.PrintMore
set_option linter.unusedVariables false
set_option linter.unusedSimpArgs false

def winL : List Int := [8364, 129, 8218, 402, 8222, 8230, 8224, 8225, 710, 8240, 352, 8249, 338, 141, 381, 143, 144, 8216, 8217, 8220, 8221, 8226, 8211, 8212, 732, 8482, 353, 8250, 339, 157, 382, 376]
def winC : Array Value := #[.int .i32 8364, .int .i32 129, .int .i32 8218, .int .i32 402, .int .i32 8222, .int .i32 8230, .int .i32 8224, .int .i32 8225, .int .i32 710, .int .i32 8240, .int .i32 352, .int .i32 8249, .int .i32 338, .int .i32 141, .int .i32 381, .int .i32 143, .int .i32 144, .int .i32 8216, .int .i32 8217, .int .i32 8220, .int .i32 8221, .int .i32 8226, .int .i32 8211, .int .i32 8212, .int .i32 732, .int .i32 8482, .int .i32 353, .int .i32 8250, .int .i32 339, .int .i32 157, .int .i32 382, .int .i32 376]
def winZ : Array Value := #[.int .i32 0, .int .i32 0, .int .i32 0, .int .i32 0, .int .i32 0, .int .i32 0, .int .i32 0, .int .i32 0, .int .i32 0, .int .i32 0, .int .i32 0, .int .i32 0, .int .i32 0, .int .i32 0, .int .i32 0, .int .i32 0, .int .i32 0, .int .i32 0, .int .i32 0, .int .i32 0, .int .i32 0, .int .i32 0, .int .i32 0, .int .i32 0, .int .i32 0, .int .i32 0, .int .i32 0, .int .i32 0, .int .i32 0, .int .i32 0, .int .i32 0, .int .i32 0]
def winP : Array (Nat × Value) := #[(0, .int .i32 8364), (1, .int .i32 129), (2, .int .i32 8218), (3, .int .i32 402), (4, .int .i32 8222), (5, .int .i32 8230), (6, .int .i32 8224), (7, .int .i32 8225), (8, .int .i32 710), (9, .int .i32 8240), (10, .int .i32 352), (11, .int .i32 8249), (12, .int .i32 338), (13, .int .i32 141), (14, .int .i32 381), (15, .int .i32 143), (16, .int .i32 144), (17, .int .i32 8216), (18, .int .i32 8217), (19, .int .i32 8220), (20, .int .i32 8221), (21, .int .i32 8226), (22, .int .i32 8211), (23, .int .i32 8212), (24, .int .i32 732), (25, .int .i32 8482), (26, .int .i32 353), (27, .int .i32 8250), (28, .int .i32 339), (29, .int .i32 157), (30, .int .i32 382), (31, .int .i32 376)]
def winV : Value := .agg winC
theorem win_size : winC.size = 32 := rfl
theorem winZ_size : winZ.size = 32 := rfl
theorem win_one : winC.all (·.oneCell') = true := by kernel_rfl
theorem win_info : (Try.prog.info? 115).map (fun i => (i.zero, i.size)) = some (some (.agg winZ), 32) := by kernel_rfl
theorem win_under : Try.prog.underlying 115 = some (.array 32 21) := by kernel_rfl
theorem run_build_win (w : World) : (Instr.build 115 winP).run Try.prog w = .ok winV w := by kernel_rfl
theorem win_alloc (w : World) : (Instr.alloc 115 true (.tuple #[])).run Try.prog w = .ok (.pointer (some ⟨w.heap.size, 0, none⟩)) (w.alloc (.cells winZ 115)) := by
  have hz := (zero_of_info win_info).1 w
  simp [Instr.alloc, hz, go_sem, newVar, newRow, newObj, Value.cells]
  rfl

noncomputable def winOps1 : Array Oper := match Try.f86.body with
  | some (.seq (.region _ ops _) _) => ops
  | _ => #[]
noncomputable def winOps2 : Array Oper := match Try.f86.body with
  | some (.seq _ (.seq (.region _ ops _) _)) => ops
  | _ => #[]
theorem win_body : Try.f86.body = some (.seq (.region 0 winOps1 false) (.seq (.region 1 winOps2 false) .ret)) := by kernel_rfl
def winChk1 (l : List Oper) : Bool := match l with
  | [⟨some d, .alloc t, _, _, _, none⟩] => d == 0 && t == 115
  | _ => false
def winChk2 (l : List Oper) : Option (Array (Nat × Operand)) := match l with
  | [⟨some d, .build t ps, _, _, _, none⟩, ⟨none, .store t' (.tmp x) (.tmp y), _, _, _, none⟩] => if (d == 1 && t == 115 && t' == 115 && x == 0 && y == 1) = true then some ps else none
  | _ => none
theorem winChk1_ok : winChk1 winOps1.toList = true := by kernel_rfl
noncomputable def winPs : Array (Nat × Operand) := match winOps2.toList with
  | ⟨_, .build _ ps, _, _, _, _⟩ :: _ => ps
  | _ => #[]
theorem winChk2_ok : winChk2 winOps2.toList = some winPs := by kernel_rfl
theorem winPs_val (a : Act) : winPs.map (fun (i, x) => (i, a.eval x)) = winP := by kernel_rfl
theorem winChk1_some {l : List Oper} (h : winChk1 l = true) : ∃ ty pos after, l = [⟨some 0, .alloc 115, ty, pos, after, none⟩] := by
  unfold winChk1 at h
  split at h
  · rename_i d t ty pos after
    simp only [Bool.and_eq_true, beq_iff_eq] at h
    obtain ⟨rfl, rfl⟩ := h
    exact ⟨_, _, _, rfl⟩
  · cases h
theorem winChk2_some {l : List Oper} {ps : Array (Nat × Operand)} (h : winChk2 l = some ps) :
    ∃ ty pos after ty' pos' after', l = [⟨some 1, .build 115 ps, ty, pos, after, none⟩, ⟨none, .store 115 (.tmp 0) (.tmp 1), ty', pos', after', none⟩] := by
  unfold winChk2 at h
  split at h
  · rename_i d t ps' ty pos after t' x y ty' pos' after'
    split at h
    · rename_i hc
      simp only [Bool.and_eq_true, beq_iff_eq] at hc
      obtain ⟨⟨⟨⟨rfl, rfl⟩, rfl⟩, rfl⟩, rfl⟩ := hc
      injection h with h
      subst h
      exact ⟨_, _, _, _, _, _, rfl⟩
    · cases h
  · cases h

theorem win_calls (w : World) : Calls Try.prog 86 #[] w fun e w' => e = .returned winV ∧ Below w.heap.size w w' := by
  have hsz := win_size
  have hszZ := winZ_size
  have hone := win_one
  have hbld := run_build_win
  have hal := win_alloc w
  have hpv := winPs_val
  have hinf := (zero_of_info win_info).2
  have hun := win_under
  unfold winV at hbld ⊢
  generalize winC = C at hsz hone hbld ⊢
  generalize winZ = Z at hszZ hal
  generalize winP = PP at hbld hpv
  refine calls_of_wp Try.func86 win_body ?_
  refine (fun (h : ∀ a0 : Act, a0.tmps.size = 2 → a0.defers = [] → Code.wp _ _ _ a0 w) => h _ (by simp [Try.ntmps86]) rfl) ?_
  intro a0 hs0 hd0
  apply wp_seq_k; intro K1 hK1
  refine wp_region_list ?_
  obtain ⟨ty, pos, after, h1⟩ := winChk1_some winChk1_ok
  rw [h1]
  refine wpList_plain rfl fun K hK => ?_
  unfold Oper.wp
  simp only [execOp, Sem.run_bind, hal, Result.andThen_ok, Sem.run_pure]
  refine hK _ _ (wpList_nil (hK1 _ _ ?_))
  clear hK hK1 K K1
  apply wp_seq_k; intro K1 hK1
  refine wp_region_list ?_
  obtain ⟨ty2, pos2, after2, ty3, pos3, after3, h2⟩ := winChk2_some winChk2_ok
  rw [h2]
  refine wpList_plain rfl fun K hK => ?_
  unfold Oper.wp
  simp only [execOp, Sem.run_bind, hpv, hbld, Result.andThen_ok, Sem.run_pure]
  refine hK _ _ ?_
  clear hK K
  refine wpList_plain rfl fun K hK => ?_
  have e0 : Act.eval (Act.put (Act.put a0 (some 0) (Value.pointer (some ⟨w.heap.size, 0, none⟩))) (some 1) (Value.agg C)) (.tmp 0) = Value.pointer (some ⟨w.heap.size, 0, none⟩) := by
    simp [Act.eval, Act.put, hs0, Array.getD_eq_getD_getElem?, Array.getElem?_setIfInBounds]
  have e1 : Act.eval (Act.put (Act.put a0 (some 0) (Value.pointer (some ⟨w.heap.size, 0, none⟩))) (some 1) (Value.agg C)) (.tmp 1) = Value.agg C := by
    simp [Act.eval, Act.put, hs0, Array.getD_eq_getD_getElem?, Array.getElem?_setIfInBounds]
  have hst := run_storeAt_new (P := Try.prog) w 115 Z C (by rw [hinf, hsz]) (by rw [hszZ, hsz]) hone
  unfold Oper.wp
  simp only [execOp, e0, e1, Sem.run_bind, hst, Result.andThen_ok, Sem.run_pure]
  refine hK _ _ (wpList_nil (hK1 _ _ ?_))
  apply wp_ret
  refine bodyPost_ret (v := .agg C) ?_ ?_ ⟨rfl, (Below.refl _ _).alloc (Nat.le_refl _) _⟩
  · refine results_cell_row Try.results86 _ _ w.heap.size 115 C (0, 0) _ ?_ (heap_alloc_new w _) hun rfl (by rw [hinf, hsz])
    simp [Act.put, hs0, Array.getD_eq_getD_getElem?, Array.getElem?_setIfInBounds]
  · simp [Act.put, hd0]

theorem win_index (k : Nat) (hk : k < 32) (w : World) : (Instr.index 115 winV (.int .i64 (k : Int))).run Try.prog w = .ok (.int .i32 (winL.getD k 0)) w := by
  rcases (show k = 0 ∨ k = 1 ∨ k = 2 ∨ k = 3 ∨ k = 4 ∨ k = 5 ∨ k = 6 ∨ k = 7 ∨ k = 8 ∨ k = 9 ∨ k = 10 ∨ k = 11 ∨ k = 12 ∨ k = 13 ∨ k = 14 ∨ k = 15 ∨ k = 16 ∨ k = 17 ∨ k = 18 ∨ k = 19 ∨ k = 20 ∨ k = 21 ∨ k = 22 ∨ k = 23 ∨ k = 24 ∨ k = 25 ∨ k = 26 ∨ k = 27 ∨ k = 28 ∨ k = 29 ∨ k = 30 ∨ k = 31 from by omega) with rfl | rfl | rfl | rfl | rfl | rfl | rfl | rfl | rfl | rfl | rfl | rfl | rfl | rfl | rfl | rfl | rfl | rfl | rfl | rfl | rfl | rfl | rfl | rfl | rfl | rfl | rfl | rfl | rfl | rfl | rfl | rfl
  all_goals kernel_rfl

def saysF (n : Int) : Int × Bool :=
  if n = 0 ∨ n > 1114111 ∨ (n ≥ 55296 ∧ n ≤ 57343) then (65533, false)
  else if n ≥ 128 ∧ n ≤ 159 then (winL.getD (n - 128).toNat 0, winL.getD (n - 128).toNat 0 == n)
  else (n, true)
def charref_says.f (n : Int) : Option (Int × Bool) := if 0 ≤ n ∧ n ≤ 9223372036854775807 then some (saysF n) else none


theorem win_at (n : Int) (h0 : 128 ≤ n) (h1 : n ≤ 159) (w : World) : (Instr.index 115 winV (.int .i64 (n - 128))).run Try.prog w = .ok (.int .i32 (winL.getD (n - 128).toNat 0)) w := by
  obtain ⟨k, hk⟩ : ∃ k : Nat, n - 128 = (k : Int) := ⟨(n - 128).toNat, by omega⟩
  rw [hk, Int.toNat_natCast]
  exact win_index k (by omega) w

set_option maxHeartbeats 1000000 in
theorem charref_says.calls (a0 : Int) (r1 : Int) (r2 : Bool) (w : World) (h : charref_says.f a0 = some (r1, r2)) :
    Calls Try.prog 78 #[.int .i64 a0] w fun e w' => e = .returned (.tuple #[.int .i32 r1, .bool r2]) ∧ Below w.heap.size w w' := by
  unfold charref_says.f at h
  split at h
  · rename_i hd
    obtain ⟨h0, h63⟩ := hd
    have h := Option.some.inj h
    unfold saysF at h
    split at h
    · rename_i hc
      injection h with e1 e2
      subst e1 e2
      have hB : Below w.heap.size w w := Below.refl _ _
      rcases hc with hc | hc | ⟨hc, hc'⟩
      · subst hc
        go_enter Try.func78, Try.ntmps78
        go_wp2
        go_ret2
        exact ⟨rfl, hB⟩
      · have d0 : (a0 == 0) = false := by simp; omega
        have d1 : decide (1114111 < a0) = true := by simpa using hc
        go_enter Try.func78, Try.ntmps78
        go_wp2
        go_ret2
        exact ⟨rfl, hB⟩
      · have d0 : (a0 == 0) = false := by simp; omega
        have d1 : decide (1114111 < a0) = false := by simp; omega
        go_enter Try.func78, Try.ntmps78
        go_wp2
        go_ret2
        exact ⟨rfl, hB⟩
    · rename_i hc
      have d0 : (a0 == 0) = false := by simp; omega
      have d1 : decide (1114111 < a0) = false := by simp; omega
      have hwr : wrap32 a0 = a0 := by unfold wrap32; omega
      split at h
      · rename_i hw
        obtain ⟨hw1, hw2⟩ := hw
        injection h with e1 e2
        have hat := win_at a0 hw1 hw2
        generalize winL.getD (a0 - 128).toNat 0 = r at e1 e2 hat
        subst e1
        have d2 : decide (55296 ≤ a0) = false := by simp; omega
        go_enter Try.func78, Try.ntmps78
        go_wp2_with (go_at_call 86; refine (win_calls _).mono ?_; rintro e w' ⟨rfl, hb⟩)
        go_ret2
        exact ⟨by rw [← e2]; simp [hwr], by assumption⟩
      · rename_i hw
        injection h with e1 e2
        subst e1 e2
        have hB : Below w.heap.size w w := Below.refl _ _
        by_cases hlo : 55296 ≤ a0
        · have d3 : decide (a0 ≤ 57343) = false := by simp; omega
          go_enter Try.func78, Try.ntmps78
          go_wp2
          go_ret2
          exact ⟨by simp [hwr], hB⟩
        · have d2 : decide (55296 ≤ a0) = false := by simp; omega
          by_cases h8 : 128 ≤ a0
          · have d3 : decide (a0 ≤ 159) = false := by simp; omega
            go_enter Try.func78, Try.ntmps78
            go_wp2
            go_ret2
            exact ⟨by simp [hwr], hB⟩
          · go_enter Try.func78, Try.ntmps78
            go_wp2
            go_ret2
            exact ⟨by simp [hwr], hB⟩
  · cases h
end Go.Proofs.Ytilpbfbnnmclhaa.P
end
