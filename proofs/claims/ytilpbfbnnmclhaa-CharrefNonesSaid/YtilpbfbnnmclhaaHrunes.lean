/-
  utf.Runes: the runes of bytes: a loop over the iterator that collects.
-/
import Derived.Test.YtilpbfbnnmclhaaHall
import Derived.Maps.AppendAt
namespace Go.Proofs.Ytilpbfbnnmclhaa.P
open Go.RowKit Go.Shelf Go.Proofs.YtilpbfbnnmclhaaW.PrintWords Go.Proofs.YtilpbfbnnmclhaaW.PrintLast Go.Proofs.YtilpbfbnnmclhaaW.PrintMore
set_option linter.unusedVariables false
set_option linter.unusedSimpArgs false
attribute [local go_sem] Oper.semAt_some

theorem mid_append {m0 n0 B : Nat} {W w1 : World} {e : TypeId} {v v' : Value} {k : Nat} {xs : List Value} {tmp : Obj} (hB : B < m0) (hn0 : n0 ≤ W.heap.size) (hrow : W.ownsRow n0 e 1 v k xs)
    (hgrow : (W.alloc tmp).grownBy w1 v.ownBlock) : Mid m0 n0 W (w1.setCell ⟨B, 0, none⟩ v') := by
  refine ((Mid.below ((Below.refl n0 W).alloc hn0 tmp)).trans (Mid.grown hgrow (by simp; omega) (fun r hr => .inr (own_base hrow r hr)))).trans ?_
  intro i h1 h2
  exact Below.heap_setCell _ _ _ i (by show i ≠ B; omega)

set_option maxRecDepth 100000 in
set_option maxHeartbeats 4000000 in
theorem utf_Runes_calls (hrd : ReadTells) (A : Option Addr) (c0 : Nat) (bs : List UInt8) (w : World) (hr : Kd.C (Kd.int .u8) w A (zs bs).length (zs bs)) (hlen : bs.length ≤ 35184372088831) :
    Calls Try.prog 56 #[.slice A (zs bs).length c0] w fun e w' => ∃ v : Value, e = .returned v ∧ w'.ownsRow w.heap.size 21 1 v (runes bs).length (nums .i32 (runes bs)) ∧ Below w.heap.size w w' := by
  have HR := Aside0.mk hr
  have HRD := Aside0.mk hrd
  have hzl : (zs bs).length = bs.length := zs_length bs
  have HZL := Aside0.mk hzl
  have hpl : ∀ n (l : List UInt8) p, l.length ≤ n → (pcs p l).length ≤ l.length := by
    intro n
    induction n with
    | zero =>
      intro l p h
      obtain rfl : l = [] := List.eq_nil_of_length_eq_zero (by omega)
      simp [pcs_nil]
    | succ n ih =>
      intro l p h
      by_cases hne : l = []
      · subst hne; simp [pcs_nil]
      · have hw := (rdL_facts l hne).1
        have hl : 0 < l.length := List.length_pos_iff.2 hne
        rw [pcs_step p l hne]
        have := ih (l.drop (rdL l).2.1) (p + (rdL l).2.1) (by rw [List.length_drop]; omega)
        rw [List.length_drop] at this
        simp only [List.length_cons]
        omega
  have HPL := Aside0.mk (hpl _ bs 0 (Nat.le_refl _))
  clear hr hrd hzl hpl
  obtain ⟨i0, hi, hz0, hz1, hz2⟩ := info_parts info21
  refine (callsIn_wide (n := 4)).1 ?_
  refine callsIn_of_wp_marks Try.func56 rfl trivial ?_ rfl
  simp only [Try.ntmps56, List.size_toArray, List.length_cons, List.length_nil, Nat.reduceAdd, Nat.reduceSub, Array.replicate_succ, Array.replicate_zero, List.push_toArray, List.append_toArray, List.nil_append, List.cons_append]
  generalize hL : zs bs = L at HR HZL ⊢
  have HL := Aside0.mk hL
  clear hL
  gi_wp2_with (refine ⟨trivial, ?_⟩; gi_at_call 76; refine (callsIn_wide.2 (utf_All_calls A c0 L _ (Kd.C_alloc HR.out _) (by have := HZL.out; omega))).mono ?_; rintro e w1 ⟨rfl, ⟨v, hbox, hR⟩, hB⟩)
  simp only [World.size_alloc] at hbox hR hB ⊢
  obtain ⟨A', cap', rfl⟩ := Kd.R_slice hR
  have hR' := BytesAt.of_R hR
  have hbO : Boxed w1 w.heap.size 29 (.slice none 0 0) := (hB.block w.heap.size (by omega)).trans (heap_alloc_new w _)
  have hB0 : Below w.heap.size w w1 := ((Below.refl _ w).alloc (Nat.le_refl _) _).trans (hB.mono (by omega))
  have hbN : w1.cell? ⟨w.heap.size + 1, 0, none⟩ = some (.slice A' L.length cap') := (blk_cell hbox 0).trans rfl
  have hsz : w.heap.size + 1 < w1.heap.size := (Array.getElem?_eq_some_iff.1 hbox).1
  rw [HZL.out] at hbN hR'
  clear hR hbox
  have hBY : BytesAt (w.heap.size + 1) w1.heap.size w1 A' (zs bs) := by rw [HL.out]; exact hR'.1
  have hcap' := hR'.2
  clear hR'
  generalize hn0 : w1.heap.size = n0 at hsz hBY
  have HN0 := Aside0.mk hn0
  clear hn0
  refine wpIn_rangeFunc_ownG rfl (by omega) (gf := 84) (lb := #[.pointer (some ⟨w.heap.size + 1, 0, none⟩)]) rfl trivial (enters_of Try.func84 (by kernel_rfl) rfl)
    (all_stops HRD.out _ (by omega) (w.heap.size + 1) (w.heap.size + 1) n0 A' cap' bs (by omega) hcap' w1 ⟨Nat.le_refl _, hsz⟩ (by rw [HN0.out]; exact Nat.le_refl _) hbN hBY) Mid.trans
    (fun W l o o' hl h _ _ => Mid.putObj (by rw [← HN0.out]; exact hl) h) (Below.refl _ _) (fun _ => rfl)
    (fun pre W => (∃ v, Boxed W w.heap.size 29 v ∧ W.ownsRow n0 21 1 v pre.length (pre.map fun p => Value.int .i32 p.2) ∧ True) ∧ (Below w.heap.size w W ∧ n0 ≤ W.heap.size))
    (fun _ _ _ => False)
    (OwnFrom.and (Own.from (holdsRow_own n0 w.heap.size 29 21 1 (fun pre : List (Nat × Int) => pre.length) (fun pre => pre.map fun p => Value.int .i32 p.2) (fun _ _ => True)) _) (OwnFrom.and (ownFrom_below (Nat.le_refl _) (by rw [HN0.out]; omega)) (fun _ _ _ _ hs hg _ => Nat.le_trans hs hg.size)))
    (fun _ _ _ _ _ hs _ _ => hs)
    ⟨⟨_, hbO, World.ownsRow_nil _ _ _ _, trivial⟩, hB0, by rw [HN0.out]; exact Nat.le_refl _⟩
    (fun x => { tmps := #[.slice A L.length c0, undef, .slice none 0 0, .pointer (some ⟨w.heap.size, 0, none⟩), undef, .int .i32 x.2, .slice A L.length c0, .func (.func 84) #[] #[.pointer (some ⟨w.heap.size + 1, 0, none⟩)], .int .i64 (x.1 : Nat), .int .i32 x.2, undef, undef, undef, undef, undef], defers := [] }) ?assign ?body ?done ?stop
  case assign =>
    intro l x W K hK
    gi_wp2
    exact hK
  case body =>
    rintro l pre x W ⟨⟨v, hv, hrow, _⟩, hB, hn0W⟩ hlt
    have hplm := HPL.out
    have hc := hv.cell
    have hrow' := own_less hrow (show w.heap.size ≤ n0 by omega)
    gi_wp2_with (gi_at_builtin; refine wpListIn_append_own _ rfl _ _ 29 rfl n0 21 i0 (.int .i32 0) 1 4 Try.underlying29 hi hz0 hz1 hz2 rfl (by decide) _ _ _ rfl (hrow.alloc _) ⟨W.heap.size, 0, none⟩ 1 1 [.int .i32 x.2] rfl rfl (cell_one_new _ _ _) (by simp [Value.oneCell']) (by simp only [maxLen]; omega) (by omega) (by simp; omega) ?_; intro v' w2 hown' hgrow _; obtain ⟨g', cap2, rfl⟩ := ownsRow_succ hown'; obtain ⟨hv1, hv2, hr2, hk2, hb2⟩ := hv.appended (by decide) hrow' (by have := hB.size; omega) (Nat.le_refl _) (own_less hown' (show w.heap.size ≤ n0 by omega)) hgrow; have hc1 := hv1.cell; have hf1 := hv1.frozen)
    have hmid := mid_append (m0 := w.heap.size + 1) (B := w.heap.size) (e := 21) (v' := .slice (some ⟨g', 0, none⟩) (pre.length + 1) cap2) (by omega) hn0W hrow hgrow
    have hr3 := hown'.kept (grownBy_setCell' w2 w.heap.size (.slice (some ⟨g', 0, none⟩) (pre.length + 1) cap2)) (.inr (hv1.not_row (by decide) hown').symm)
    exact ⟨hk2.from _, hmid, ⟨_, hv2, by simpa using hr3, trivial⟩, hB.trans hb2, Nat.le_trans hn0W hb2.size⟩
  case done =>
    rintro D ys W hD rfl ⟨⟨v, hv, hrow, _⟩, hB, _⟩ hK
    have hc := hv.cell
    gi_wp2
    refine ⟨by simp, .inl ⟨_, _, rfl, run_takeDeferred hK, ?_⟩⟩
    refine ⟨_, results_tmp rfl _ _ _, v, rfl, ?_, hB.trans (belowK_b (w := w) (Nat.le_refl _) W D _ _ (by rw [HN0.out] at hD; omega) hK rfl rfl)⟩
    have := ownsRow_putObj (own_less hrow (show w.heap.size ≤ n0 by omega)) (.deferred none) hK rfl
    have e1 := pcs_runes _ bs 0 (Nat.le_refl _)
    rw [← e1]
    simpa [nums, List.map_map, Function.comp_def] using this
  case stop =>
    rintro D c pre W _ _ h _
    exact h.elim
end Go.Proofs.Ytilpbfbnnmclhaa.P
