/-
  CharrefSure, the given statement (second form: what it reads is of bulk at most 1048576): what is sure stays, whatever follows; at the end it is always sure; for all strings and both flags. Condition: the bulk.
-/
import Derived.Test.YtilpbfbnnmclhaaQCharrefSure0
import Derived.Test.YtilpbfbnnmclhaaQCharrefSure1
import Derived.Test.YtilpbfbnnmclhaaQCharrefSure2
import Derived.Test.YtilpbfbnnmclhaaQCharrefSure3
import Derived.Test.YtilpbfbnnmclhaaQCharrefSure4
import Derived.Deep.RegionWith
import Derived.Maps.AppendAt
import Derived.Lib.TrimUEq
import Derived.Lib.OthersKept
import Derived.Lib.AtoiErrMem
import Derived.Orders
import Derived.WalkKit
import Derived.Deep.DrawnRows
import Derived.LoopN
import Derived.Deep.QuietTactic
import Derived.BigQuiet
import Derived.Test.YtilpbfbnnmclhaaRows
import Derived.ProofKit
import Derived.OpenShut
import Derived.ShutString
import Derived.ChangeOld
import Derived.Below
import Derived.SizedLaws
import Derived.JoinedCond
section
/-
  charref.replaced over Decode's literal.
-/
namespace Go.Proofs.Ytilpbfbnnmclhaa.P
open Go.RowKit Go.Shelf Go.Proofs.YtilpbfbnnmclhaaW.PrintWords Go.Proofs.YtilpbfbnnmclhaaW.PrintLast Go.Proofs.YtilpbfbnnmclhaaW.PrintMore
set_option linter.unusedVariables false
set_option linter.unusedSimpArgs false

theorem D_alloc_get {w : World} {k : Nat} {x : Obj} (o : Obj) (h : w.heap[k]? = some x) : (w.alloc o).heap[k]? = some x :=
  (Lib.alloc_old w o k (Array.getElem?_eq_some_iff.1 h).1).trans h

set_option maxRecDepth 100000 in
set_option maxHeartbeats 2000000 in
theorem D_replaced_calls (k : Nat) (m : ByteArray) (attr : Bool) (g : ByteArray → ByteArray) (refs : List (Nat × ByteArray × Nat)) (w : World) (hm : m.size ≤ 35184372088831) (href : refsGo attr m k 0 = some refs)
    (hlen : (repText g m.data.toList refs).length ≤ 140737488355328)
    (hby : ∀ x ∈ refs, ∀ (n : Int) (b : Bool) (W : World), Calls Try.prog 37 #[.agg #[.string x.2.1, .int .i64 n, .bool b]] W fun e W' => e = .returned (.string (g x.2.1)) ∧ Below W.heap.size W W') :
    Calls Try.prog 32 #[.string m, .bool attr, .func (.func 37) #[] #[]] w fun e w' =>
      e = .returned (.tuple #[.string ⟨(repText g m.data.toList refs).toArray⟩, .int .i64 (refs.length : Nat)]) ∧ Below w.heap.size w w' := by
  have HBY := Aside0.mk hby
  have HREF := Aside0.mk href
  have HLEN := Aside0.mk hlen
  clear hby href hlen
  have hasc := refsGo_asc attr m k 0 refs HREF.out
  have hend := Asc.end_ g m.data.toList refs (0, []) (Nat.zero_le _) hasc
  have HEND := Aside0.mk hend
  have HASC := Aside0.mk hasc
  clear hasc hend
  -- the world when the references begin
  have hw5 : RepI 37 w.heap.size m g w [] (((((w.alloc (.cells #[.string m] 9)).alloc (.cells #[.func (.func 37) #[] #[]] 69)).alloc (.cells #[.pointer none, .slice none 0 0] 86)).alloc (.cells #[.int .i64 0] 3)).alloc (.cells #[.int .i64 0] 3)) := by
    have z1 : (w.alloc (.cells #[.string m] 9)).heap.size = w.heap.size + 1 := by simp
    have z2 : ((w.alloc (.cells #[.string m] 9)).alloc (.cells #[.func (.func 37) #[] #[]] 69)).heap.size = w.heap.size + 2 := by simp
    have z3 : (((w.alloc (.cells #[.string m] 9)).alloc (.cells #[.func (.func 37) #[] #[]] 69)).alloc (.cells #[.pointer none, .slice none 0 0] 86)).heap.size = w.heap.size + 3 := by simp
    have z4 : ((((w.alloc (.cells #[.string m] 9)).alloc (.cells #[.func (.func 37) #[] #[]] 69)).alloc (.cells #[.pointer none, .slice none 0 0] 86)).alloc (.cells #[.int .i64 0] 3)).heap.size = w.heap.size + 4 := by simp
    refine ⟨.inl ⟨by omega, .slice none 0 0, ?_, ⟨rfl, .inl ⟨rfl, rfl⟩⟩, by simp [Value.ownBlock]⟩, ?_, ?_, ?_, ?_, ?_⟩
    · have := heap_alloc_new ((w.alloc (.cells #[.string m] 9)).alloc (.cells #[.func (.func 37) #[] #[]] 69)) (.cells #[.pointer none, .slice none 0 0] 86)
      rw [z2] at this
      exact D_alloc_get _ (D_alloc_get _ this)
    · exact D_alloc_get _ (D_alloc_get _ (D_alloc_get _ (D_alloc_get _ (heap_alloc_new w _))))
    · have := heap_alloc_new (w.alloc (.cells #[.string m] 9)) (.cells #[.func (.func 37) #[] #[]] 69)
      rw [z1] at this
      exact D_alloc_get _ (D_alloc_get _ (D_alloc_get _ this))
    · have := heap_alloc_new (((w.alloc (.cells #[.string m] 9)).alloc (.cells #[.func (.func 37) #[] #[]] 69)).alloc (.cells #[.pointer none, .slice none 0 0] 86)) (.cells #[.int .i64 0] 3)
      rw [z3] at this
      exact D_alloc_get _ this
    · have := heap_alloc_new ((((w.alloc (.cells #[.string m] 9)).alloc (.cells #[.func (.func 37) #[] #[]] 69)).alloc (.cells #[.pointer none, .slice none 0 0] 86)).alloc (.cells #[.int .i64 0] 3)) (.cells #[.int .i64 0] 3)
      rw [z4] at this
      exact this
    · exact (((((Below.refl _ w).alloc (Nat.le_refl _) _).alloc (by omega) _).alloc (by omega) _).alloc (by omega) _).alloc (by omega) _
  have HW5 := Aside0.mk hw5
  clear hw5
  have heach := fun W5 (h5 : RepI 37 w.heap.size m g w [] W5) => charref_each_calls k m attr #[.pointer (some ⟨w.heap.size + 1 + 1, 0, none⟩), .pointer (some ⟨w.heap.size, 0, none⟩), .pointer (some ⟨w.heap.size + 1 + 1 + 1, 0, none⟩), .pointer (some ⟨w.heap.size + 1, 0, none⟩), .pointer (some ⟨w.heap.size + 1 + 1 + 1 + 1, 0, none⟩)]
    refs (RepI 37 w.heap.size m g w) W5 hm HREF.out (fun pre W W' h hb => h.below hb) (by
      rintro pre x W b hinv ⟨post, hpost⟩
      have hmid := Asc.mid (n := m.size) g m.data.toList pre (0, []) x post (by rw [← List.append_cons] at hpost; rw [hpost]; exact HASC.out)
      refine D_rep1_calls w.heap.size m g w pre x W b hinv hmid.1 hmid.2.1 hm ?_ ?_ (HBY.out x (by rw [← hpost]; simp))
      · have h1 := hmid.2.2
        have h2 := hmid.1
        have h3 := hmid.2.1
        simp only [Nat.add_zero] at h1
        omega
      · have h1 := repSt_len g m.data.toList (pre ++ [x]) post
        rw [hpost] at h1
        have h2 := HLEN.out
        unfold repText at h2
        rw [List.length_append] at h2
        omega) h5
  have HEACH := Aside0.mk heach
  clear heach
  have hend := HEND.out
  have hlen := HLEN.out
  unfold repText at hlen
  have htx : repText g m.data.toList refs = (repSt g m.data.toList refs).2 ++ m.data.toList.drop (repSt g m.data.toList refs).1 := rfl
  have HTX := Aside0.mk htx
  clear htx
  change (repSt g m.data.toList refs).1 ≤ m.size ∧ refs.length + 0 ≤ (repSt g m.data.toList refs).1 at hend
  obtain ⟨fr, acc, hst⟩ : ∃ fr acc, repSt g m.data.toList refs = (fr, acc) := ⟨_, _, rfl⟩
  have hri : ∀ W, RepI 37 w.heap.size m g w refs W → Lib.IsBuilderF 86 5 w.heap.size (w.heap.size + 1 + 1) (Lib.byteCells acc) W ∧ W.heap[w.heap.size]? = some (.cells #[.string m] 9 (0, 0)) ∧
      W.heap[w.heap.size + 1 + 1 + 1]? = some (.cells #[.int .i64 (fr : Nat)] 3 (0, 0)) ∧ W.heap[w.heap.size + 1 + 1 + 1 + 1]? = some (.cells #[.int .i64 (refs.length : Nat)] 3 (0, 0)) ∧ Below w.heap.size w W := by
    rintro W ⟨h1, h2, _, h3, h4, h5⟩
    rw [hst] at h1 h3
    exact ⟨h1, h2, h3, h4, h5⟩
  have HRI := Aside0.mk hri
  clear hri
  rw [hst] at hend hlen HTX
  simp only at hend hlen HTX
  clear hst
  rw [List.length_append, List.length_drop] at hlen
  have hml : m.data.toList.length = m.size := by simp
  have HL := Aside0.mk (show acc.length + (m.extract fr m.size).size ≤ 140737488355328 by
    have e : (m.extract fr m.size).size = m.size - fr := by simp
    omega)
  clear hlen hml
  have s1 : ((0 : Int) ≤ (fr : Int)) = True := eq_true (by omega)
  have s2 : ((fr : Int) ≤ (m.size : Int)) = True := eq_true (by omega)
  go_enter Try.func32, Try.ntmps32
  go_wp2_with (first | (go_at_call 39; refine (HEACH.out _ HW5.out).mono ?_; rintro e w6 ⟨rfl, hr6⟩; have hr6' := HRI.out w6 hr6; clear hr6; obtain ⟨hI6, hS6, hF6, hN6, hB6⟩ := hr6'; have HI6 := Aside0.mk hI6; have HS6 := Aside0.mk hS6; have HF6 := Aside0.mk hF6; have HN6 := Aside0.mk hN6; have HB6 := Aside0.mk hB6; clear hI6 hS6 hF6 hN6 hB6; have hcS6 : w6.cell? ⟨w.heap.size, 0, none⟩ = some (.string m) := (blk_cell HS6.out 0).trans rfl; have hcF6 : w6.cell? ⟨w.heap.size + 1 + 1 + 1, 0, none⟩ = some (.int .i64 (fr : Nat)) := (blk_cell HF6.out 0).trans rfl) | (go_at_call 54; refine (bld_WriteString_k w.heap.size (w.heap.size + 1 + 1) (Lib.byteCells acc) (m.extract fr m.size) w6 HI6.out (by rw [Lib.byteCells_length]; exact HL.out) HB6.out.size).mono ?_; rintro e w7 ⟨rfl, hb7, hbel7, hok7⟩; have HI7 := Aside0.mk hb7; have HBEL7 := Aside0.mk hbel7; have HN7 := Aside0.mk (hok7 (w.heap.size + 1 + 1 + 1 + 1) _ HN6.out (by intro e; have e := Option.some.inj e; omega) (fun c fz e => by cases e)); clear hb7 hbel7 hok7; have hcN7 : w7.cell? ⟨w.heap.size + 1 + 1 + 1 + 1, 0, none⟩ = some (.int .i64 (refs.length : Nat)) := (blk_cell HN7.out 0).trans rfl))
  have hb7 : Lib.IsBuilderF 86 5 w.heap.size (w.heap.size + 1 + 1) (Lib.byteCells (acc ++ m.data.toList.drop fr)) w7 := by
    have e : (m.extract fr m.size).data.toList = m.data.toList.drop fr := by
      rw [Lib.extract_data, List.take_of_length_le (by simp)]
    rw [Lib.byteCells_append, ← e]
    exact .inr HI7.out
  have HSTR := Aside0.mk (Try.Builder_String_any_k w.heap.size (w.heap.size + 1 + 1) (acc ++ m.data.toList.drop fr) w7.drew hb7 (Nat.le_trans HB6.out.size HBEL7.out.size))
  clear hb7
  go_region_with (go_at_call 55; refine HSTR.out.mono ?_; rintro e w8 ⟨rfl, _, hbel8, hok8⟩; have HBEL8 := Aside0.mk hbel8; have HN8 := Aside0.mk (hok8 (w.heap.size + 1 + 1 + 1 + 1) _ HN7.out (by intro e; have e := Option.some.inj e; omega) (fun c fz e => by cases e)); clear hbel8 hok8; have hcN8 : w8.cell? ⟨w.heap.size + 1 + 1 + 1 + 1, 0, none⟩ = some (.int .i64 (refs.length : Nat)) := (blk_cell HN8.out 0).trans rfl)
  all_goals (try go_wp2)
  all_goals go_ret2
  all_goals exact ⟨by rw [HTX.out]; rfl, (below_drew (HB6.out.trans HBEL7.out)).trans HBEL8.out⟩
end Go.Proofs.Ytilpbfbnnmclhaa.P
end
section
/-
  utf.Runes: the runes of bytes: a loop over the iterator that collects.
-/
namespace Go.Proofs.Ytilpbfbnnmclhaa.P
open Go.RowKit Go.Shelf Go.Proofs.YtilpbfbnnmclhaaW.PrintWords Go.Proofs.YtilpbfbnnmclhaaW.PrintLast Go.Proofs.YtilpbfbnnmclhaaW.PrintMore
set_option linter.unusedVariables false
set_option linter.unusedSimpArgs false
attribute [local go_sem] Oper.semAt_some

theorem mid_append {m0 n0 B : Nat} {W w1 : World} {e : TypeId} {v v' : Value} {k : Nat} {xs : List Value} {tmp : Obj} (hB : B < m0) (hn0 : n0 ≤ W.heap.size) (hrow : W.ownsRow n0 e 1 v k xs)
    (hgrow : (W.alloc tmp).grownBy w1 v.ownBlock) : Mid m0 n0 W (w1.setCell ⟨B, 0, none⟩ v') := by
  refine ((Mid.below ((Below.refl n0 W).alloc hn0 tmp)).trans (Mid.grown hgrow (by simp; omega) (fun r hr => .inr (own_base hrow r hr)))).trans ?_
  intro i h1 h2
  exact Below.heap_setCell _ _ _ i (by show i ≠ B; omega)

set_option maxRecDepth 100000 in
set_option maxHeartbeats 4000000 in
theorem utf_Runes_calls (hrd : ReadTells) (A : Option Addr) (c0 : Nat) (bs : List UInt8) (w : World) (hr : Kd.C (Kd.int .u8) w A (zs bs).length (zs bs)) (hlen : bs.length ≤ 35184372088831) :
    Calls Try.prog 56 #[.slice A (zs bs).length c0] w fun e w' => ∃ v : Value, e = .returned v ∧ w'.ownsRow w.heap.size 21 1 v (runes bs).length (nums .i32 (runes bs)) ∧ Below w.heap.size w w' := by
  have HR := Aside0.mk hr
  have HRD := Aside0.mk hrd
  have hzl : (zs bs).length = bs.length := zs_length bs
  have HZL := Aside0.mk hzl
  have hpl : ∀ n (l : List UInt8) p, l.length ≤ n → (pcs p l).length ≤ l.length := by
    intro n
    induction n with
    | zero =>
      intro l p h
      obtain rfl : l = [] := List.eq_nil_of_length_eq_zero (by omega)
      simp [pcs_nil]
    | succ n ih =>
      intro l p h
      by_cases hne : l = []
      · subst hne; simp [pcs_nil]
      · have hw := (rdL_facts l hne).1
        have hl : 0 < l.length := List.length_pos_iff.2 hne
        rw [pcs_step p l hne]
        have := ih (l.drop (rdL l).2.1) (p + (rdL l).2.1) (by rw [List.length_drop]; omega)
        rw [List.length_drop] at this
        simp only [List.length_cons]
        omega
  have HPL := Aside0.mk (hpl _ bs 0 (Nat.le_refl _))
  clear hr hrd hzl hpl
  obtain ⟨i0, hi, hz0, hz1, hz2⟩ := info_parts info21
  refine (callsIn_wide (n := 4)).1 ?_
  refine callsIn_of_wp_marks Try.func56 rfl trivial ?_ rfl
  simp only [Try.ntmps56, List.size_toArray, List.length_cons, List.length_nil, Nat.reduceAdd, Nat.reduceSub, Array.replicate_succ, Array.replicate_zero, List.push_toArray, List.append_toArray, List.nil_append, List.cons_append]
  generalize hL : zs bs = L at HR HZL ⊢
  have HL := Aside0.mk hL
  clear hL
  gi_wp2_with (refine ⟨trivial, ?_⟩; gi_at_call 76; refine (callsIn_wide.2 (utf_All_calls A c0 L _ (Kd.C_alloc HR.out _) (by have := HZL.out; omega))).mono ?_; rintro e w1 ⟨rfl, ⟨v, hbox, hR⟩, hB⟩)
  simp only [World.size_alloc] at hbox hR hB ⊢
  obtain ⟨A', cap', rfl⟩ := Kd.R_slice hR
  have hR' := BytesAt.of_R hR
  have hbO : Boxed w1 w.heap.size 29 (.slice none 0 0) := (hB.block w.heap.size (by omega)).trans (heap_alloc_new w _)
  have hB0 : Below w.heap.size w w1 := ((Below.refl _ w).alloc (Nat.le_refl _) _).trans (hB.mono (by omega))
  have hbN : w1.cell? ⟨w.heap.size + 1, 0, none⟩ = some (.slice A' L.length cap') := (blk_cell hbox 0).trans rfl
  have hsz : w.heap.size + 1 < w1.heap.size := (Array.getElem?_eq_some_iff.1 hbox).1
  rw [HZL.out] at hbN hR'
  clear hR hbox
  have hBY : BytesAt (w.heap.size + 1) w1.heap.size w1 A' (zs bs) := by rw [HL.out]; exact hR'.1
  have hcap' := hR'.2
  clear hR'
  generalize hn0 : w1.heap.size = n0 at hsz hBY
  have HN0 := Aside0.mk hn0
  clear hn0
  refine wpIn_rangeFunc_ownG rfl (by omega) (gf := 84) (lb := #[.pointer (some ⟨w.heap.size + 1, 0, none⟩)]) rfl trivial (enters_of Try.func84 (by kernel_rfl) rfl)
    (all_stops HRD.out _ (by omega) (w.heap.size + 1) (w.heap.size + 1) n0 A' cap' bs (by omega) hcap' w1 ⟨Nat.le_refl _, hsz⟩ (by rw [HN0.out]; exact Nat.le_refl _) hbN hBY) Mid.trans
    (fun W l o o' hl h _ _ => Mid.putObj (by rw [← HN0.out]; exact hl) h) (Below.refl _ _) (fun _ => rfl)
    (fun pre W => (∃ v, Boxed W w.heap.size 29 v ∧ W.ownsRow n0 21 1 v pre.length (pre.map fun p => Value.int .i32 p.2) ∧ True) ∧ (Below w.heap.size w W ∧ n0 ≤ W.heap.size))
    (fun _ _ _ => False)
    (OwnFrom.and (Own.from (holdsRow_own n0 w.heap.size 29 21 1 (fun pre : List (Nat × Int) => pre.length) (fun pre => pre.map fun p => Value.int .i32 p.2) (fun _ _ => True)) _) (OwnFrom.and (ownFrom_below (Nat.le_refl _) (by rw [HN0.out]; omega)) (fun _ _ _ _ hs hg _ => Nat.le_trans hs hg.size)))
    (fun _ _ _ _ _ hs _ _ => hs)
    ⟨⟨_, hbO, World.ownsRow_nil _ _ _ _, trivial⟩, hB0, by rw [HN0.out]; exact Nat.le_refl _⟩
    (fun x => { tmps := #[.slice A L.length c0, undef, .slice none 0 0, .pointer (some ⟨w.heap.size, 0, none⟩), undef, .int .i32 x.2, .slice A L.length c0, .func (.func 84) #[] #[.pointer (some ⟨w.heap.size + 1, 0, none⟩)], .int .i64 (x.1 : Nat), .int .i32 x.2, undef, undef, undef, undef, undef], defers := [] }) ?assign ?body ?done ?stop
  case assign =>
    intro l x W K hK
    gi_wp2
    exact hK
  case body =>
    rintro l pre x W ⟨⟨v, hv, hrow, _⟩, hB, hn0W⟩ hlt
    have hplm := HPL.out
    have hc := hv.cell
    have hrow' := own_less hrow (show w.heap.size ≤ n0 by omega)
    gi_wp2_with (gi_at_builtin; refine wpListIn_append_own _ rfl _ _ 29 rfl n0 21 i0 (.int .i32 0) 1 4 Try.underlying29 hi hz0 hz1 hz2 rfl (by decide) _ _ _ rfl (hrow.alloc _) ⟨W.heap.size, 0, none⟩ 1 1 [.int .i32 x.2] rfl rfl (cell_one_new _ _ _) (by simp [Value.oneCell']) (by simp only [maxLen]; omega) (by omega) (by simp; omega) ?_; intro v' w2 hown' hgrow _; obtain ⟨g', cap2, rfl⟩ := ownsRow_succ hown'; obtain ⟨hv1, hv2, hr2, hk2, hb2⟩ := hv.appended (by decide) hrow' (by have := hB.size; omega) (Nat.le_refl _) (own_less hown' (show w.heap.size ≤ n0 by omega)) hgrow; have hc1 := hv1.cell; have hf1 := hv1.frozen)
    have hmid := mid_append (m0 := w.heap.size + 1) (B := w.heap.size) (e := 21) (v' := .slice (some ⟨g', 0, none⟩) (pre.length + 1) cap2) (by omega) hn0W hrow hgrow
    have hr3 := hown'.kept (grownBy_setCell' w2 w.heap.size (.slice (some ⟨g', 0, none⟩) (pre.length + 1) cap2)) (.inr (hv1.not_row (by decide) hown').symm)
    exact ⟨hk2.from _, hmid, ⟨_, hv2, by simpa using hr3, trivial⟩, hB.trans hb2, Nat.le_trans hn0W hb2.size⟩
  case done =>
    rintro D ys W hD rfl ⟨⟨v, hv, hrow, _⟩, hB, _⟩ hK
    have hc := hv.cell
    gi_wp2
    refine ⟨by simp, .inl ⟨_, _, rfl, run_takeDeferred hK, ?_⟩⟩
    refine ⟨_, results_tmp rfl _ _ _, v, rfl, ?_, hB.trans (belowK_b (w := w) (Nat.le_refl _) W D _ _ (by rw [HN0.out] at hD; omega) hK rfl rfl)⟩
    have := ownsRow_putObj (own_less hrow (show w.heap.size ≤ n0 by omega)) (.deferred none) hK rfl
    have e1 := pcs_runes _ bs 0 (Nat.le_refl _)
    rw [← e1]
    simpa [nums, List.map_map, Function.comp_def] using this
  case stop =>
    rintro D c pre W _ _ h _
    exact h.elim
end Go.Proofs.Ytilpbfbnnmclhaa.P
end
section
/-
  utf.Mend: a text of valid bytes alone.
-/
namespace Go.Proofs.Ytilpbfbnnmclhaa.P
open Go.RowKit Go.Proofs.YtilpbfbnnmclhaaW.PrintWords Go.Proofs.YtilpbfbnnmclhaaW.PrintLast Go.Proofs.YtilpbfbnnmclhaaW.PrintMore
set_option linter.unusedVariables false
set_option linter.unusedSimpArgs false

/-! ### plain -/
/-- what the loop of utf.Mend asks at the head of bytes, by the model's own decode -/
def badL (l : List UInt8) : Bool := decide ((Lib.decodeL l).1 = 65533) && (decide (l.length < 3) || decide (l.take 3 ≠ [239, 191, 189]))
theorem enc_fffd : Lib.encodeRune ((65533 : Nat) : Int) = [239, 191, 189] := by decide +kernel
theorem badL_of (l : List UInt8) (hne : l ≠ []) : badL l = decide ((rdL l).2.2 ≠ 0) := by
  have hd := rdL_decode l hne
  have hf := rdL_facts l hne
  unfold badL
  by_cases h : (rdL l).2.2 = 0
  · rw [if_pos h] at hd
    rw [hd]
    have hw := rdL_whole l h hne
    by_cases h1 : (rdL l).1 = 65533
    · rw [h1, enc_fffd] at hw
      have e3 : l.take 3 = [239, 191, 189] := by rw [hw]; simp
      have el : ¬ l.length < 3 := by rw [hw]; simp
      simp [h, h1, e3, el]
    · simp [h, h1]
  · rw [if_neg h] at hd
    rw [hd]
    have : ¬ (3 ≤ l.length ∧ l.take 3 = [239, 191, 189]) := by
      rintro ⟨h3, ht⟩
      apply h
      have e : l = [239, 191, 189] ++ l.drop 3 := by rw [← ht, List.take_append_drop]
      rw [e]
      unfold rdL
      simp only [List.cons_append, List.nil_append, List.getD_cons_zero, List.getD_cons_succ]
      unfold rdN
      rw [List.length_cons, List.length_cons, List.length_cons]
      simp
    by_cases h3 : l.length < 3
    · simp [h, h3]
    · have : l.take 3 ≠ [239, 191, 189] := fun e => this ⟨by omega, e⟩
      simp [h, this]
theorem valid_dec (l : List UInt8) (hne : l ≠ []) : valid l = if badL l = true then false else valid (l.drop (Lib.decodeL l).2) := by
  rw [valid_step l hne, badL_of l hne, rdL_decode l hne]
  by_cases h : (rdL l).2.2 = 0
  · simp [h]
  · simp [h]

def mendS (s : ByteArray) : ByteArray := if valid s.data.toList = true then s else Hc_text (runes s.data.toList)

def utf_Mend.f (s : ByteArray) : Option ByteArray := if s.size ≤ 35184372088831 then some (mendS s) else none

theorem take3_extract (s : ByteArray) (pos : Nat) : (s.extract pos (pos + 3)).toList = (s.data.toList.drop pos).take 3 := by
  rw [Lib.extract_toList]
  congr 1
  omega

set_option maxRecDepth 100000 in
set_option maxHeartbeats 4000000 in
theorem utf_Mend.calls (s : ByteArray) (r : ByteArray) (w : World) (h : utf_Mend.f s = some r) :
    Calls Try.prog 33 #[.string s] w fun e w' => e = .returned (.string r) ∧ Below w.heap.size w w' := by
  unfold utf_Mend.f at h
  by_cases hsz : s.size ≤ 35184372088831
  case neg => rw [if_neg hsz] at h; cases h
  rw [if_pos hsz] at h
  have hr := Option.some.inj h
  clear h
  have HR := Aside0.mk hr
  clear hr
  go_enter Try.func33, Try.ntmps33
  go_wp2
  go_loopw [3] (fun v wr => ∃ (pos : Nat) (b : Bool), v = .bool b ∧ pos ≤ s.size ∧ Aside0 ((b && valid (s.data.toList.drop pos)) = valid s.data.toList) ∧ wr.heap[w.heap.size]? = some (.stringIter s pos) ∧ Below w.heap.size w wr) (fun _ wr => s.size - wr.iterPos w.heap.size)
  case atStart =>
    refine ⟨0, true, rfl, Nat.zero_le _, ⟨by simp⟩, ?_, ?_⟩
    · have := World.iter_heap w s 0
      simpa using this
    · exact (Below.refl _ w).alloc (Nat.le_refl _) _
  case round =>
    obtain ⟨pos, b, rfl, hpl, hv, hit, hbw⟩ := hrel
    have hlt0 : w.heap.size < wr.heap.size := (Array.getElem?_eq_some_iff.1 hit).1
    by_cases hp : pos < s.size
    · have hnx : ∀ ty, (Instr.next (.pointer (some ⟨w.heap.size, 0, none⟩)) true ty).run Try.prog wr = _ := fun ty => Lib.run_next_any_at wr w.heap.size s pos ty hit hp
      have hd1 := decode_le s pos
      have hwd : 1 ≤ (Utf8.decode s pos).2 := by
        by_cases ha : (s[pos]'hp).toNat < 128
        · rw [decode_ascii s pos hp ha]
          exact Nat.le_refl _
        · exact (decode_high s pos hp (by omega)).2
      have hne : s.data.toList.drop pos ≠ [] := by
        intro e
        have := congrArg List.length e
        simp at this
        have h2 : s.data.size = s.size := rfl
        omega
      have hlen : (s.data.toList.drop pos).length = s.size - pos := by simp
      have hvd := valid_dec _ hne
      rw [Lib.decodeL_drop, List.drop_drop] at hvd
      have hbd : badL (s.data.toList.drop pos) = (decide ((Utf8.decode s pos).1 = 65533) && (decide (s.size - pos < 3) || decide ((s.extract pos (pos + 3)).toList ≠ [239, 191, 189]))) := by
        unfold badL
        rw [Lib.decodeL_drop, hlen, take3_extract]
      have hit2 := Lib.iterAt_heap wr w.heap.size s pos (pos + (Utf8.decode s pos).2) hit
      have hbw2 := Lib.below_iterAt hbw (k := w.heap.size) (by omega) s (pos + (Utf8.decode s pos).2)
      have hps : pos + (Utf8.decode s pos).2 ≤ s.size := by
        have h1 := rdL_decode _ hne
        rw [Lib.decodeL_drop] at h1
        have h2 := rdL_facts _ hne
        have h3 := h2.2.1
        rw [hlen] at h3
        rw [h1]
        split <;> simp only <;> omega
      rw [hbd] at hvd
      have HVD := Aside0.mk hvd
      clear hvd hbd hlen hne
      have hme : s.size - (wr.iterAt w.heap.size s (pos + (Utf8.decode s pos).2)).iterPos w.heap.size < s.size - wr.iterPos w.heap.size := by
        simp only [World.iterPos, hit2, hit]
        omega
      have HME := Aside0.mk hme
      clear hme hwd
      by_cases h1 : (Utf8.decode s pos).1 = 65533
      · by_cases h2 : s.size - pos < 3
        · have hw : IntKind.i64.wrap ((s.size : Int) - (pos : Int)) = (s.size : Int) - (pos : Int) := IntWalk.i64_in _ (by omega)
          have hlt3 : decide ((s.size : Int) - (pos : Int) < 3) = true := decide_eq_true (by omega)
          have hvf : valid (s.data.toList.drop pos) = false := by rw [HVD.out]; simp [h1, h2]
          have HVF := Aside0.mk hvf
          clear hvf
          go_wp2
          refine ⟨⟨_, false, rfl, hps, ⟨?_⟩, hit2, hbw2⟩, HME.out⟩
          rw [← hv.out, HVF.out]
          simp
        · have hw : IntKind.i64.wrap ((s.size : Int) - (pos : Int)) = (s.size : Int) - (pos : Int) := IntWalk.i64_in _ (by omega)
          have hlt3 : decide ((s.size : Int) - (pos : Int) < 3) = false := decide_eq_false (by omega)
          have hw3 : IntKind.i64.wrap ((pos : Int) + 3) = (pos : Int) + 3 := IntWalk.i64_in _ (by omega)
          have k1 : ((0 : Int) ≤ (pos : Int)) = True := eq_true (by omega)
          have k2 : ((pos : Int) ≤ (pos : Int) + 3) = True := eq_true (by omega)
          have k3 : ((pos : Int) + 3 ≤ (s.size : Int)) = True := eq_true (by omega)
          have k4 : ((pos : Int) + 3).toNat = pos + 3 := by omega
          by_cases h3 : (s.extract pos (pos + 3)).toList = [239, 191, 189]
          · have hvf : valid (s.data.toList.drop pos) = valid (s.data.toList.drop (pos + (Utf8.decode s pos).2)) := by rw [HVD.out]; simp [h1, h2, h3]
            have HVF := Aside0.mk hvf
            clear hvf
            go_wp2
            refine ⟨⟨_, b, rfl, hps, ⟨?_⟩, hit2, hbw2⟩, HME.out⟩
            rw [← hv.out, HVF.out]
          · have hvf : valid (s.data.toList.drop pos) = false := by rw [HVD.out]; simp [h1, h2, h3]
            have HVF := Aside0.mk hvf
            clear hvf
            have h3b : ((s.extract pos (pos + 3)).toList == [239, 191, 189]) = false := beq_eq_false_iff_ne.2 h3
            go_wp2
            refine ⟨⟨_, false, rfl, hps, ⟨?_⟩, hit2, hbw2⟩, HME.out⟩
            rw [← hv.out, HVF.out]
            simp
      · have hvf : valid (s.data.toList.drop pos) = valid (s.data.toList.drop (pos + (Utf8.decode s pos).2)) := by rw [HVD.out]; simp [h1]
        have HVF := Aside0.mk hvf
        clear hvf
        go_wp2
        refine ⟨⟨_, b, rfl, hps, ⟨?_⟩, hit2, hbw2⟩, HME.out⟩
        rw [← hv.out, HVF.out]
    · obtain rfl : pos = s.size := by omega
      have hnx : ∀ ty, (Instr.next (.pointer (some ⟨w.heap.size, 0, none⟩)) true ty).run Try.prog wr = _ := fun ty => Lib.run_next_end_at wr w.heap.size s s.size ty hit hp
      have hvb : b = valid s.data.toList := by
        have := hv.out
        rw [List.drop_eq_nil_of_le (by simp), valid_nil, Bool.and_true] at this
        exact this
      have HVB := Aside0.mk hvb
      clear hvb hv
      cases b with
      | true =>
        have hm := HR.out
        unfold mendS at hm
        rw [if_pos HVB.out.symm] at hm
        subst hm
        go_wp2
        go_ret
        exact ⟨rfl, hbw⟩
      | false =>
        have hnv : ¬ valid s.data.toList = true := by rw [← HVB.out]; simp
        have HM := HR.out
        unfold mendS at HM
        rw [if_neg hnv] at HM
        have HMR := Aside0.mk HM
        clear HM hnv
        have hcv := Lib.run_convert_string_bytes (P := Try.prog) wr 9 31 5 s Try.underlying9 Try.underlying31 Try.underlying5
        have hbb := Lib.bytesWorld_below wr 5 s
        have hbs := Lib.bytesWorld_size wr 5 s
        have hrd : Kd.C (Kd.int .u8) (Lib.bytesWorld wr 5 s) (some ⟨wr.heap.size, 0, none⟩) s.size (zs s.data.toList) :=
          Kd.C_of_reads (enc := Value.int .u8) (d := (0 : Int)) (h1 := fun _ => rfl) ⟨by simp [zs], by omega, fun _ => ⟨_, rfl, fun j hj => by
            rw [add_plain, Lib.bytesWorld_cell wr 5 s j hj]
            have := rd_zs s.data.toList j
            unfold rd at this
            rw [Int.toNat_natCast] at this
            rw [this]⟩⟩
        have hz : (zs s.data.toList).length = s.size := by simp [zs]
        rw [← hz] at hrd
        have hcall := utf_Runes_calls read_tells (some ⟨wr.heap.size, 0, none⟩) (Go.grownCap wr s.size 0 5) s.data.toList _ hrd (by simp; omega)
        rw [hz] at hcall
        have HC := Aside0.mk hcall
        have HBB := Aside0.mk hbb
        clear hcall hrd hz hbb
        go_wp2_with (go_at_call 56; refine HC.out.mono ?_; rintro e w2 ⟨v, rfl, hown, hb2⟩; have hcv2 := Hc_own_runes (P := Try.prog) (src := 29) (dst := 9) (e := 21) Try.underlying29 Try.underlying21 Try.underlying9 hown)
        go_ret
        have hm := HMR.out
        subst hm
        exact ⟨rfl, hbw.trans ((HBB.out.trans (hb2.mono (by omega))).mono (by omega))⟩
end Go.Proofs.Ytilpbfbnnmclhaa.P
end
section
/-
  charref.Decode: every reference replaced.
-/
namespace Go.Proofs.Ytilpbfbnnmclhaa.P
open Go.RowKit Go.Shelf Go.Proofs.YtilpbfbnnmclhaaW.PrintWords Go.Proofs.YtilpbfbnnmclhaaW.PrintLast Go.Proofs.YtilpbfbnnmclhaaW.PrintMore
set_option linter.unusedVariables false
set_option linter.unusedSimpArgs false

theorem refsGo_mono (attr : Bool) (s : ByteArray) : ∀ (k i : Nat), LeO (refsGo attr s k i) (refsGo attr s (k + 1) i)
  | 0, i => fun r h => by simp [refsGo] at h
  | k + 1, i => by
    have ih := refsGo_mono attr s k
    show LeO (refsGo attr s (k + 1) i) (refsGo attr s (k + 1 + 1) i)
    rw [refsGo, refsGo]
    refine LeO.ite ?_ (LeO.refl _)
    refine LeO.ite ?_ (ih _)
    refine LeO.bind (charref_next.mono _ _ _ _) (fun n => ?_)
    refine LeO.ite ?_ (LeO.refl _)
    refine LeO.ite (ih _) ?_
    exact LeO.bind (ih _) (fun _ => LeO.refl _)

def charref_Decode.f (k : Nat) (s : ByteArray) (attr : Bool) : Option ByteArray :=
  (utf_Mend.f s).bind fun m => (refsGo attr m k 0).bind fun refs =>
    if m.size ≤ 35184372088831 ∧ (repText id m.data.toList refs).length ≤ 140737488355328 then some ⟨(repText id m.data.toList refs).toArray⟩ else none
theorem charref_Decode.mono : ∀ s attr k, LeO (charref_Decode.f k s attr) (charref_Decode.f (k + 1) s attr) := by
  intro s attr k
  unfold charref_Decode.f
  refine LeO.bind (LeO.refl _) (fun m => ?_)
  exact LeO.bind (refsGo_mono attr m k 0) (fun _ => LeO.refl _)

theorem Decode1_calls (a : ByteArray) (n : Int) (b : Bool) (w : World) :
    Calls Try.prog 37 #[.agg #[.string a, .int .i64 n, .bool b]] w fun e w' => e = .returned (.string (id a)) ∧ Below w.heap.size w w' := by
  have hu60 := Try.underlying60
  have HB0 := Aside0.mk (Below.refl w.heap.size w)
  go_enter Try.func37, Try.ntmps37
  go_wp2_with (first | ((with_reducible refine gate_dst (N := 1) rfl ?_); refine box_event ?hg (N := 1) ?hd (cs := #[.string a, .int .i64 n, .bool b]) (t := 60) ?hr ?_; (case hd => rfl); (case hg => rfl); (case hr => first | (go_simp; done) | (go_simp; rfl)); intro gb hg w5 hbox hb; have HB5 := Aside0.mk (below_step HB0.out hb); have BK5 := Aside0.mk hbox; clear hb hbox hg; have hcg5 : w5.cell? ⟨gb, 0, none⟩ = some (.string a) := (blk_cell BK5.out 0).trans rfl))
  go_ret
  exact ⟨rfl, HB5.out⟩

set_option maxRecDepth 100000 in
set_option maxHeartbeats 2000000 in
theorem charref_Decode.calls (k : Nat) (s : ByteArray) (attr : Bool) (r : ByteArray) (w : World) (h : charref_Decode.f k s attr = some r) :
    Calls Try.prog 18 #[.string s, .bool attr] w fun e w' => e = .returned (.string r) ∧ Below w.heap.size w w' := by
  obtain ⟨m, hm, h⟩ := Option.bind_eq_some_iff.1 h
  obtain ⟨refs, hrefs, h⟩ := Option.bind_eq_some_iff.1 h
  by_cases hlen : m.size ≤ 35184372088831 ∧ (repText id m.data.toList refs).length ≤ 140737488355328
  case neg => rw [if_neg hlen] at h; cases h
  rw [if_pos hlen] at h
  have hr := Option.some.inj h
  clear h
  obtain ⟨hms, hlen⟩ := hlen
  have HM := Aside0.mk (utf_Mend.calls s m w hm)
  have HREP := Aside0.mk (fun W => D_replaced_calls k m attr id refs W hms hrefs hlen (fun x _ n b W => Decode1_calls x.2.1 n b W))
  have HR := Aside0.mk hr
  clear hm hrefs hlen hms hr
  go_enter Try.func18, Try.ntmps18
  go_wp2_with (first | (go_at_call 33; refine HM.out.mono ?_; rintro e w1 ⟨rfl, hb1⟩) | (go_at_call 32; refine (HREP.out w1).mono ?_; rintro e w2 ⟨rfl, hb2⟩))
  go_ret
  exact ⟨by rw [HR.out]; rfl, hb1.trans (hb2.mono hb1.size)⟩
end Go.Proofs.Ytilpbfbnnmclhaa.P
end
section
namespace Go.Proofs.Ytilpbfbnnmclhaa.P
open Go.RowKit Go.Proofs.YtilpbfbnnmclhaaW.PrintWords Go.Proofs.YtilpbfbnnmclhaaW.PrintLast Go.Proofs.YtilpbfbnnmclhaaW.PrintMore
attribute [local go_sem] max2_int min2_int max_two min_two max_three min_three max_four min_four   -- for this text's walks alone
set_option linter.unusedVariables false
set_option linter.unusedSimpArgs false

/-! ### sievelaw06_awake: function 11 -/
def sievelaw06_awake.f (k : Nat)  : Option (Bool) := (charref_Decode.f k (⟨#[97, 38, 99, 111, 112, 121, 61, 49, 38, 35, 120, 52, 49, 59]⟩ : ByteArray) true).bind fun t307 => (if t307.toList = ([97, 38, 99, 111, 112, 121, 61, 49, 65] : List UInt8) then ((charref_Decode.f k (⟨#[38, 97, 109, 112, 59, 38, 108, 116, 59]⟩ : ByteArray) false).bind fun t308 => (some (t308.toList == ([38, 60] : List UInt8)))) else (some false))
theorem sievelaw06_awake.mono : ∀ k, LeO (sievelaw06_awake.f k ) (sievelaw06_awake.f (k + 1) ) := by
  intro  k
  unfold sievelaw06_awake.f
  repeat' first
      | (with_reducible exact charref_Decode.mono _ _ _)
      | (with_reducible exact LeO.refl _)
      | (with_reducible exact LeO.none _)
      | (with_reducible refine LeO.ite ?_ ?_)
      | (with_reducible refine LeO.bind ?_ (fun _ => ?_))
      | exact charref_Decode.mono _ _ _
      | exact LeO.none _
      | refine LeO.ite ?_ ?_
      | refine LeO.bind ?_ (fun _ => ?_)
set_option maxHeartbeats 8000000 in
set_option maxRecDepth 100000 in
theorem sievelaw06_awake.calls (k : Nat)  (r : Bool) (w : World) (h : sievelaw06_awake.f k  = some r) :
    Calls Try.prog 11 #[] w fun e w' => e = .returned (.bool r) ∧ Below w.heap.size w w' := by
  have HB := Aside0.mk (Below.refl w.heap.size w)
  have H : ((charref_Decode.f k (⟨#[97, 38, 99, 111, 112, 121, 61, 49, 38, 35, 120, 52, 49, 59]⟩ : ByteArray) true).bind fun t307 => (if t307.toList = ([97, 38, 99, 111, 112, 121, 61, 49, 65] : List UInt8) then ((charref_Decode.f k (⟨#[38, 97, 109, 112, 59, 38, 108, 116, 59]⟩ : ByteArray) false).bind fun t308 => (some (t308.toList == ([38, 60] : List UInt8)))) else (some false))) = some r := h
  clear h
  replace H := Option.bind_eq_some_iff.mp H
  obtain ⟨t307, A10, H⟩ := H
  replace H : (if t307.toList = ([97, 38, 99, 111, 112, 121, 61, 49, 65] : List UInt8) then ((charref_Decode.f k (⟨#[38, 97, 109, 112, 59, 38, 108, 116, 59]⟩ : ByteArray) false).bind fun t308 => (some (t308.toList == ([38, 60] : List UInt8)))) else (some false)) = some r := H
  have A1 := Aside0.mk A10
  clear A10
  by_cases c2 : t307.toList = ([97, 38, 99, 111, 112, 121, 61, 49, 65] : List UInt8)
  · rw [if_pos c2] at H
    have c2b0 : (t307.toList == ([97, 38, 99, 111, 112, 121, 61, 49, 65] : List UInt8)) = true := beq_iff_eq.mpr c2
    have c2b1 : (t307.toList != ([97, 38, 99, 111, 112, 121, 61, 49, 65] : List UInt8)) = false := bne_eq_false_iff_eq.mpr c2
    clear c2
    replace H := Option.bind_eq_some_iff.mp H
    obtain ⟨t308, A30, H⟩ := H
    replace H : (some (t308.toList == ([38, 60] : List UInt8))) = some r := H
    have A3 := Aside0.mk A30
    clear A30
    obtain rfl := Option.some.inj H
    go_enter Try.func11, Try.ntmps11
    go_wp2_with (first | ((with_reducible refine gate_callee (f := 18) rfl ?_); refine goesL_ (some 1) rfl rfl Try.func18 (by kernel_rfl) rfl #[.string (⟨#[97, 38, 99, 111, 112, 121, 61, 49, 38, 35, 120, 52, 49, 59]⟩ : ByteArray), .bool true] rfl (by (try simp only [List.map_toArray, List.map_cons, List.map_nil]); first | done | rfl | (simp only [List.length_drop, List.length_take]; rfl) | (simp [*] <;> rfl)) ?_; (with_reducible refine (charref_Decode.calls k (⟨#[97, 38, 99, 111, 112, 121, 61, 49, 38, 35, 120, 52, 49, 59]⟩ : ByteArray) true t307 _ A1.out).mono ?_); rintro e w4 ⟨rfl, hb⟩; refine ⟨_, rfl, ?_⟩; have n0_ := Aside0.mk (below_step (by repeat (first | (with_reducible first | exact HB.out | apply below_alloc | apply pw_below_drewN | apply below_drew1) | exact HB.out)) hb); clear HB; have HB := n0_; clear n0_; (try clear hb); (try clear hb2); (try clear hk); (try clear hi)) | (go_at_call 18; (with_reducible refine (charref_Decode.calls k (⟨#[38, 97, 109, 112, 59, 38, 108, 116, 59]⟩ : ByteArray) false t308 _ A3.out).mono ?_); rintro e w5 ⟨rfl, hb⟩; have n0_ := Aside0.mk (below_step (by repeat (first | (with_reducible first | exact HB.out | apply below_alloc | apply pw_below_drewN | apply below_drew1) | exact HB.out)) hb); clear HB; have HB := n0_; clear n0_; (try clear hb); (try clear hb2); (try clear hk); (try clear hi)))
    go_ret
    exact ⟨by first | rfl | (simp [errW_none, errW_some] <;> rfl) | (simp [*, errW_none, errW_some] <;> rfl), by repeat (first | (with_reducible first | exact HB.out | apply below_alloc | apply pw_below_drewN | apply below_drew1) | exact HB.out)⟩
  · rw [if_neg c2] at H
    have c2b0 : (t307.toList == ([97, 38, 99, 111, 112, 121, 61, 49, 65] : List UInt8)) = false := beq_eq_false_iff_ne.mpr c2
    have c2b1 : (t307.toList != ([97, 38, 99, 111, 112, 121, 61, 49, 65] : List UInt8)) = true := bne_iff_ne.mpr c2
    obtain rfl := Option.some.inj H
    go_enter Try.func11, Try.ntmps11
    go_wp2_with (first | ((with_reducible refine gate_callee (f := 18) rfl ?_); refine goesL_ (some 1) rfl rfl Try.func18 (by kernel_rfl) rfl #[.string (⟨#[97, 38, 99, 111, 112, 121, 61, 49, 38, 35, 120, 52, 49, 59]⟩ : ByteArray), .bool true] rfl (by (try simp only [List.map_toArray, List.map_cons, List.map_nil]); first | done | rfl | (simp only [List.length_drop, List.length_take]; rfl) | (simp [*] <;> rfl)) ?_; (with_reducible refine (charref_Decode.calls k (⟨#[97, 38, 99, 111, 112, 121, 61, 49, 38, 35, 120, 52, 49, 59]⟩ : ByteArray) true t307 _ A1.out).mono ?_); rintro e w6 ⟨rfl, hb⟩; refine ⟨_, rfl, ?_⟩; have n0_ := Aside0.mk (below_step (by repeat (first | (with_reducible first | exact HB.out | apply below_alloc | apply pw_below_drewN | apply below_drew1) | exact HB.out)) hb); clear HB; have HB := n0_; clear n0_; (try clear hb); (try clear hb2); (try clear hk); (try clear hi)))
    go_ret
    exact ⟨by first | rfl | (simp [errW_none, errW_some] <;> rfl) | (simp [*, errW_none, errW_some] <;> rfl), by repeat (first | (with_reducible first | exact HB.out | apply below_alloc | apply pw_below_drewN | apply below_drew1) | exact HB.out)⟩

end Go.Proofs.Ytilpbfbnnmclhaa.P
end
section
/-
  A region that draws its order, by one obligation an operation: whatever order comes, what each operation has yielded stays good.
-/
set_option linter.unusedVariables false
set_option linter.unusedSimpArgs false
namespace Go.Proofs.Ytilpbfbnnmclhaa.P
section
variable {P : Program} {ops : Array Oper} {Q : Exit → Act → World → Prop} {md : Region.Mode}

theorem ready_spec {listed : Array Bool} {i : Nat} (h : i ∈ Region.ready md ops listed) :
    ∃ o, ops[i]? = some o ∧ i < ops.size ∧ listed.getD i true = false ∧ ∀ e ∈ o.after, Region.binds md e = true → listed.getD e.on false = true := by
  unfold Region.ready at h
  rw [List.mem_filter, List.mem_range, Bool.and_eq_true] at h
  obtain ⟨h1, h2, h3⟩ := h
  cases ho : ops[i]? with
  | none => rw [ho] at h3; simp at h3
  | some o =>
    rw [ho] at h3
    simp only [Option.map_some, Option.getD_some, Array.all_eq_true'] at h3
    refine ⟨o, rfl, h1, by simpa using h2, fun e he hb => ?_⟩
    have := h3 e he
    rw [hb] at this
    simpa using this
theorem ready_of {listed : Array Bool} {i : Nat} {o : Oper} (h1 : ops[i]? = some o) (h2 : listed.getD i true = false) (h3 : ∀ e ∈ o.after, listed.getD e.on false = true) : i ∈ Region.ready md ops listed := by
  unfold Region.ready
  rw [List.mem_filter, List.mem_range, Bool.and_eq_true, h1, h2]
  refine ⟨(Array.getElem?_eq_some_iff.1 h1).1, rfl, ?_⟩
  simp only [Option.map_some, Option.getD_some, Array.all_eq_true']
  intro e he
  rw [h3 e he]
  simp
theorem all_listed {listed : Array Bool} (hs : listed.size = ops.size) (hac : ∀ (i : Nat) (o : Oper), ops[i]? = some o → ∀ e ∈ o.after, e.on < i) (h : Region.ready md ops listed = []) :
    ∀ i, i < ops.size → listed.getD i false = true := by
  intro i
  induction i using Nat.strongRecOn with
  | _ i ih =>
    intro hi
    obtain ⟨o, ho⟩ : ∃ o, ops[i]? = some o := ⟨_, Array.getElem?_eq_getElem hi⟩
    have hi2 : i < listed.size := by omega
    have e1 : listed.getD i false = listed[i] := by simp [Array.getD, hi2]
    have e2 : listed.getD i true = listed[i] := by simp [Array.getD, hi2]
    rw [e1]
    cases hb : listed[i] with
    | true => rfl
    | false =>
      have := ready_of (md := md) ho (by rw [e2, hb]) (fun e he => ih e.on (hac i o ho e he) (by have := hac i o ho e he; omega))
      rw [h] at this
      cases this
theorem wpAny_inv (I : Array Bool → Act → World → Prop) (hac : ∀ (i : Nat) (o : Oper), ops[i]? = some o → ∀ e ∈ o.after, e.on < i)
    (step : ∀ listed a w i, listed.size = ops.size → I listed a w → i ∈ Region.ready md ops listed → wpOp P ops Q i (I (listed.setIfInBounds i true)) a w)
    (done : ∀ listed a w, I listed a w → (∀ i, i < ops.size → listed.getD i false = true) → Q .normal a w) :
    ∀ (fuel : Nat) (listed : Array Bool) (a : Act) (w : World), listed.size = ops.size → listed.toList.count false ≤ fuel → I listed a w → wpAny P md ops Q fuel listed a w
  | 0, listed, a, w, hs, hc, hI => by
    have hr : Region.ready md ops listed = [] := by
      refine List.eq_nil_iff_forall_not_mem.2 fun i hi => ?_
      obtain ⟨o, ho, hlt, h2, _⟩ := ready_spec hi
      have hi2 : i < listed.size := by omega
      have e2 : listed.getD i true = listed[i] := by simp [Array.getD, hi2]
      rw [e2] at h2
      have : false ∈ listed.toList := by rw [← h2]; simp
      have := List.count_pos_iff.2 this
      omega
    exact ⟨hr, done listed a w hI (all_listed hs hac hr)⟩
  | fuel + 1, listed, a, w, hs, hc, hI => by
    refine ⟨fun hr => done listed a w hI (all_listed hs hac hr), fun i hi => ?_⟩
    obtain ⟨o, ho, hlt, h2, _⟩ := ready_spec hi
    have hi2 : i < listed.size := by omega
    have e2 : listed.getD i true = listed[i] := by simp [Array.getD, hi2]
    rw [e2] at h2
    refine wpOp_mono (fun a' w' h => wpAny_inv I hac step done fuel _ a' w' (by simpa using hs) ?_ h) (step listed a w i hs hI hi)
    have hl : i < listed.toList.length := by simpa using hi2
    have h3 : listed.toList[i] = false := by simpa using h2
    have hcs := List.count_set (a := true) (b := false) (l := listed.toList) (i := i) hl
    have hpos : 0 < listed.toList.count false := List.count_pos_iff.2 (by rw [← h3]; exact List.getElem_mem hl)
    rw [Array.toList_setIfInBounds, hcs, h3, if_pos (show (false == false) = true from rfl), if_neg (show ¬ (true == false) = true by decide)]
    omega

/-! ### a region whose operations yield into slots that stand side by side -/
def Fr (pre us post : List Value) (ds : List Deferred) : Act := ⟨(pre ++ us ++ post).toArray, ds⟩
theorem Fr_put (pre us post : List Value) (ds : List Deferred) (j : Nat) (hj : j < us.length) (v : Value) : (Fr pre us post ds).put (some (pre.length + j)) v = Fr pre (us.set j v) post ds := by
  unfold Fr Act.put
  simp only [List.setIfInBounds_toArray]
  congr 2
  rw [List.append_assoc, List.append_assoc, List.set_append_right _ _ (by omega), Nat.add_sub_cancel_left, List.set_append_left _ _ hj]
/-- what one operation does: it yields v into its own slot; what the others have yielded stays good -/
def Yd (pre us post : List Value) (ds : List Deferred) (OK : Nat → Value → World → Prop) (J : World → Prop) (i : Nat) (w : World) (a' : Act) (w' : World) : Prop :=
  ∃ v, a' = (Fr pre us post ds).put (some (pre.length + i)) v ∧ OK i v w' ∧ J w' ∧ ∀ j u, OK j u w → OK j u w'
/-- the operations one by one, with their places -/
def AllSteps (S : Nat → Oper → Prop) : Nat → List Oper → Prop
  | _, [] => True
  | i, o :: r => S i o ∧ AllSteps S (i + 1) r
theorem AllSteps.at {S : Nat → Oper → Prop} : ∀ (l : List Oper) (b i : Nat) (o : Oper), AllSteps S b l → l[i]? = some o → S (b + i) o
  | [], b, i, o, _, h => by simp at h
  | x :: r, b, 0, o, hs, h => by
    obtain rfl : x = o := by simpa using h
    exact hs.1
  | x :: r, b, i + 1, o, hs, h => by
    have := AllSteps.at r (b + 1) i o hs.2 (by simpa using h)
    rwa [show b + 1 + i = b + (i + 1) by omega] at this
def Step1 (P : Program) (md : Region.Mode) (ops : Array Oper) (Q : Exit → Act → World → Prop) (pre post : List Value) (ds : List Deferred) (OK : Nat → Value → World → Prop) (J : World → Prop) (i : Nat) (o : Oper) : Prop :=
  ∀ (us : List Value) (w : World), us.length = ops.size → (∀ d, (o.after.toList.any fun e => decide (e.on = d) && Region.binds md e) = true → OK d (us.getD d undef) w) → J w →
    if Region.wanted o (yielded ops (Fr pre us post ds).tmps) = true then o.wp P (Fr pre us post ds) w (Yd pre us post ds OK J i w) Q else Yd pre us post ds OK J i w ((Fr pre us post ds).put o.dst undef) w
theorem wpAny_slots (pre post : List Value) (ds : List Deferred) (OK : Nat → Value → World → Prop) (J : World → Prop) (n0 : Nat) (hn0 : pre.length = n0)
    (hac : (List.range ops.size).all (fun i => (ops[i]?).any fun o => decide (o.dst = some (n0 + i)) && o.after.all fun e => decide (e.on < i)) = true)
    (step : AllSteps (Step1 P md ops Q pre post ds OK J) 0 ops.toList)
    (done : ∀ (us : List Value) (w : World), us.length = ops.size → (∀ j, j < ops.size → OK j (us.getD j undef) w) → J w → Q .normal (Fr pre us post ds) w)
    (us : List Value) (hus : us.length = ops.size) (w : World) (hJ : J w) : wpAny P md ops Q ops.size (Array.replicate ops.size false) (Fr pre us post ds) w := by
  have hac' : ∀ (i : Nat) (o : Oper), ops[i]? = some o → o.dst = some (pre.length + i) ∧ ∀ e ∈ o.after, e.on < i := by
    intro i o ho
    have hi : i < ops.size := (Array.getElem?_eq_some_iff.1 ho).1
    have := List.all_eq_true.1 hac i (List.mem_range.2 hi)
    rw [ho] at this
    simp only [Option.any_some, Bool.and_eq_true, decide_eq_true_eq, Array.all_eq_true'] at this
    rw [hn0]
    exact this
  refine wpAny_inv (fun listed a w => ∃ us : List Value, us.length = ops.size ∧ a = Fr pre us post ds ∧ (∀ j, j < ops.size → listed.getD j false = true → OK j (us.getD j undef) w) ∧ J w)
    (fun i o h e he => (hac' i o h).2 e he) ?_ ?_ _ _ _ _ (by simp) (by simp) ⟨us, hus, rfl, fun j hj h => ?_, hJ⟩
  · rintro listed a w i hs ⟨us, hus, rfl, hok, hJ⟩ hi
    obtain ⟨o, ho, hlt, h2, h3⟩ := ready_spec hi
    have hd := (hac' i o ho).1
    have st := AllSteps.at _ 0 i o step (by rw [Array.getElem?_toList]; exact ho)
    rw [Nat.zero_add] at st
    have st := st us w hus (fun d hd => by
      obtain ⟨e, he, h4⟩ := List.any_eq_true.1 hd
      have he : e ∈ o.after := Array.mem_toList_iff.1 he
      rw [Bool.and_eq_true, decide_eq_true_eq] at h4
      obtain ⟨rfl, hb⟩ := h4
      exact hok e.on (by have := (hac' i o ho).2 e he; omega) (h3 e he hb)) hJ
    have fin : ∀ (a' : Act) (w' : World), Yd pre us post ds OK J i w a' w' → ∃ us : List Value, us.length = ops.size ∧ a' = Fr pre us post ds ∧ (∀ j, j < ops.size → (listed.setIfInBounds i true).getD j false = true → OK j (us.getD j undef) w') ∧ J w' := by
      rintro a' w' ⟨v, rfl, hv, hJ', hm⟩
      refine ⟨us.set i v, by simpa using hus, Fr_put pre us post ds i (by omega) v, fun j hj hl => ?_, hJ'⟩
      by_cases hji : j = i
      · subst hji
        rw [List.getD_eq_getElem?_getD, List.getElem?_set_self (by omega)]
        exact hv
      · have e1 : (us.set i v).getD j undef = us.getD j undef := by
          rw [List.getD_eq_getElem?_getD, List.getD_eq_getElem?_getD, List.getElem?_set_ne (Ne.symm hji)]
        rw [e1]
        refine hm j _ (hok j hj ?_)
        rw [Array.getD_eq_getD_getElem?] at hl ⊢
        rw [Array.getElem?_setIfInBounds_ne (Ne.symm hji)] at hl
        exact hl
    unfold wpOp
    rw [ho]
    simp only
    by_cases hw : Region.wanted o (yielded ops (Fr pre us post ds).tmps) = true
    · rw [if_pos hw] at st ⊢
      exact .inl (Oper.wp_mono fin st)
    · rw [if_neg hw] at st ⊢
      exact fin _ _ st
  · rintro listed a w ⟨us, hus, rfl, hok, hJ⟩ hall
    exact done us w hus (fun j hj => hok j hj (hall j hj)) hJ
  · rw [Array.getD_eq_getD_getElem?, Array.getElem?_replicate, if_pos hj] at h
    cases h
/-- a list of twenty -/
theorem list20 {α : Type} : ∀ l : List α, l.length = 20 → ∃ x0 x1 x2 x3 x4 x5 x6 x7 x8 x9 x10 x11 x12 x13 x14 x15 x16 x17 x18 x19, l = [x0, x1, x2, x3, x4, x5, x6, x7, x8, x9, x10, x11, x12, x13, x14, x15, x16, x17, x18, x19]
  | [x0, x1, x2, x3, x4, x5, x6, x7, x8, x9, x10, x11, x12, x13, x14, x15, x16, x17, x18, x19], _ => ⟨x0, x1, x2, x3, x4, x5, x6, x7, x8, x9, x10, x11, x12, x13, x14, x15, x16, x17, x18, x19, rfl⟩
end
end Go.Proofs.Ytilpbfbnnmclhaa.P
end
section
/-
  sievelaw06.CharrefSure: the walk of the statement's own function.
-/
namespace Go.Proofs.Ytilpbfbnnmclhaa.P
open Go.RowKit Go.Proofs.YtilpbfbnnmclhaaW.PrintWords Go.Proofs.YtilpbfbnnmclhaaW.PrintLast Go.Proofs.YtilpbfbnnmclhaaW.PrintMore
set_option linter.unusedVariables false
set_option linter.unusedSimpArgs false
attribute [local go_sem ↓] Go.wp_at_zero Go.wp_at_succ

theorem sure_awake : sievelaw06_awake.f 400 = some true := by decide +kernel
theorem sure_next (s : ByteArray) (attr e : Bool) (hs : s.size ≤ 4194304) : charref_Next.f 10000000 s attr e = some (nextL s.data.toList attr e) := by
  unfold charref_Next.f
  rw [next_f 10000000 s attr e (by omega) (by omega), Option.bind_some, nextP_eq]

set_option maxRecDepth 100000 in
set_option maxHeartbeats 4000000 in
theorem Sure_no (s t : ByteArray) (attr : Bool) (w : World) (hs : s.size ≤ 1048576) (h : sureL s.data.toList attr = false) :
    Calls Try.prog 5 #[.string s, .string t, .bool attr] w fun e w' => e = .returned (.bool true) ∧ Below w.heap.size w w' := by
  have a0 := sure_next s attr false (by omega)
  have a1 := sure_next s attr true (by omega)
  have hl : s.data.toList.length = s.size := by simp
  have hz := nextL_size s.data.toList attr true
  have he := nextL_end s.data.toList attr
  rw [nextL_unsure _ _ h] at a0
  rw [hl] at hz
  generalize nextL s.data.toList attr true = q at a1 hz he
  obtain ⟨q1, q2, q3⟩ := q
  simp only at hz he
  subst he
  obtain ⟨z1, z2⟩ := hz
  replace a0 : charref_Next.f 10000000 s attr false = some ((⟨#[]⟩ : ByteArray), 0, false) := a0
  have A0 := Aside0.mk a0
  have A1 := Aside0.mk a1
  clear a0 a1 h hl
  have d1 : decide (q2 < 0) = false := decide_eq_false (by omega)
  have d2 : decide ((s.size : Int) < q2) = false := decide_eq_false (by omega)
  have d3 : decide ((s.size : Int) < 0) = false := decide_eq_false (by omega)
  go_enter Try.func5, Try.ntmps5
  go_wp2_with (first | (go_at_call 12; ((with_reducible refine (charref_Next.calls 10000000 s attr false _ _ _ _ A0.out).mono ?_); rintro e w1 ⟨rfl, hb1⟩; have HB1 := Aside0.mk hb1; clear hb1)) | (go_at_call 12; ((with_reducible refine (charref_Next.calls 10000000 s attr true _ _ _ _ A1.out).mono ?_); rintro e w2 ⟨rfl, hb2⟩; have HB2 := Aside0.mk (HB1.out.trans (hb2.mono HB1.out.size)); clear hb2)) | (go_at_call 11; refine (sievelaw06_awake.calls 400 true _ sure_awake).mono ?_; rintro e w9 ⟨rfl, hb9⟩))
  go_quiet (fail)
  all_goals go_wp2_with (go_at_call 11; refine (sievelaw06_awake.calls 400 true _ sure_awake).mono ?_; rintro e w9 ⟨rfl, hb9⟩)
  all_goals go_ret
  all_goals exact ⟨rfl, (pw_below_drewN HB2.out _).trans (hb9.mono (by have := HB2.out.size; simpa using this))⟩

/-! ### the region of the three texts -/
def suB (l : List UInt8) (u : Value) (w : World) : Prop := ∃ A c, u = .slice A (zs l).length c ∧ (zs l).length ≤ c ∧ Kd.C (Kd.int .u8) w A (zs l).length (zs l)
def suR (l : List UInt8) (u : Value) (w : World) : Prop := Kd.R (Kd.int .i32) 21 w 0 (fun _ => True) u (runes l)
def suT (s : ByteArray) : ByteArray := Hc_text (runes s.data.toList)
def suOK (s t : ByteArray) : Nat → Value → World → Prop
  | 0, u, _ => u = .bool true
  | 1, u, _ => u = .bool false
  | 2, u, _ => u = .bool false
  | 3, u, _ => u = .string s
  | 4, u, w => suB s.data.toList u w
  | 5, u, w => suR s.data.toList u w
  | 6, u, _ => u = .string (suT s)
  | 7, u, _ => u = .string t
  | 8, u, w => suB t.data.toList u w
  | 9, u, w => suR t.data.toList u w
  | 10, u, _ => u = .string (suT t)
  | 11, u, _ => u = .string (suT s ++ suT t)
  | 12, u, _ => u = .string s
  | 13, u, _ => u = .string t
  | 14, u, _ => u = .string (s ++ t)
  | 15, u, w => suB (s ++ t).data.toList u w
  | 16, u, w => suR (s ++ t).data.toList u w
  | 17, u, _ => u = .string (suT (s ++ t))
  | 18, u, _ => u = .bool ((suT s ++ suT t).toList != (suT (s ++ t)).toList)
  | 19, u, _ => u = .bool ((suT s ++ suT t).toList != (suT (s ++ t)).toList)
  | _ + 20, _, _ => True
theorem suOK_mono (s t : ByteArray) {w w' : World} (hb : Below w.heap.size w w') : ∀ (j : Nat) (u : Value), suOK s t j u w → suOK s t j u w'
  | 0, _, h | 1, _, h | 2, _, h | 3, _, h | 6, _, h | 7, _, h | 10, _, h | 11, _, h | 12, _, h | 13, _, h | 14, _, h | 17, _, h | 18, _, h | 19, _, h | _ + 20, _, h => h
  | 4, _, ⟨A, c, e, hc, h⟩ | 8, _, ⟨A, c, e, hc, h⟩ | 15, _, ⟨A, c, e, hc, h⟩ => ⟨A, c, e, hc, Kd.C_below h hb⟩
  | 5, _, h | 9, _, h | 16, _, h => Kd.R_below h hb
theorem su_run {src dst : TypeId} {P : Program} {v' : Value} {w w' : World} {N : Option Tmp} {ty : TypeId} {pos : String} {af : Array Edge} {g : Option (Nat × Bool)} {a : Act} {x : Operand} (h : (convert src dst (a.eval x)).run P w = .ok v' w') :
    (execOp a.eval { dst := N, op := .convert src dst x, type := ty, pos := pos, after := af, guard := g }).run P w = .ok (.value v') w' := by
  unfold execOp
  simp [h]
theorem su_add {p q : ByteArray} {N : Option Tmp} {ty rt : TypeId} {pos : String} {af : Array Edge} {g : Option (Nat × Bool)} {a : Act} {x y : Operand} (w : World) (hz : p.size + q.size ≤ 9223372036854775807) (hx : a.eval x = .string p) (hy : a.eval y = .string q) :
    (execOp a.eval { dst := N, op := .binOp .add 9 x y rt, type := ty, pos := pos, after := af, guard := g }).run Try.prog w = .ok (.value (.string (p ++ q))) w := by
  have hu := Try.underlying9
  unfold execOp
  simp only [hx, hy]
  go_simp
theorem su_neq {p q : ByteArray} {N : Option Tmp} {ty rt : TypeId} {pos : String} {af : Array Edge} {g : Option (Nat × Bool)} {a : Act} {x y : Operand} (w : World) (hx : a.eval x = .string p) (hy : a.eval y = .string q) :
    (execOp a.eval { dst := N, op := .binOp .neq 9 x y rt, type := ty, pos := pos, after := af, guard := g }).run Try.prog w = .ok (.value (.bool (p.toList != q.toList))) w := by
  have hu := Try.underlying9
  unfold execOp
  simp only [hx, hy]
  go_simp
  simp [bne]
theorem suT_size (s : ByteArray) : (suT s).size ≤ 4 * s.size := by
  unfold suT Hc_text
  have h1 := runesBytes_size_le (runes s.data.toList)
  have h2 := runes_len _ s.data.toList (Nat.le_refl _)
  have h3 : s.data.toList.length = s.size := by simp
  omega
theorem su_bytes (w : World) (s : ByteArray) (h : s.size ≤ 140737488355328) : suB s.data.toList (.slice (some ⟨w.heap.size, 0, none⟩) s.size (Go.grownCap w s.size 0 5)) (Lib.bytesWorld w 5 s) := by
  have hz : (zs s.data.toList).length = s.size := by simp [zs]
  exact ⟨_, _, by rw [hz], by rw [hz]; exact grownCap_ge _ _ _ _, bytes_read w s h⟩
theorem su_runes (s : ByteArray) (h : s.size ≤ 1099511627776) (A : Option Addr) (c : Nat) (w : World) (hc : (zs s.data.toList).length ≤ c) (hC : Kd.C (Kd.int .u8) w A (zs s.data.toList).length (zs s.data.toList)) :
    Calls Try.prog 15 #[.slice A (zs s.data.toList).length c] w fun e w' => ∃ v, e = .returned v ∧ suR s.data.toList v w' ∧ Below w.heap.size w w' := by
  obtain ⟨k1, hk1⟩ := runes_f s.data.toList (by simpa using h)
  refine (sieveref01_Runes.calls k1 A c _ _ w hC hc hk1).mono ?_
  rintro e w' ⟨v, rfl, hR, hb⟩
  exact ⟨v, rfl, Kd.R_lower hR (Nat.zero_le _), hb⟩

theorem sure_twice (s t : ByteArray) (attr e : Bool) (q1 : ByteArray) (q2 : Int) (hs : s.size ≤ 1048576) (ht : t.size ≤ 1048576) (h : nextL (s.data.toList ++ t.data.toList) attr e = (q1, q2, true)) :
    charref_Next.f 10000000 (s ++ t) attr e = some (q1, q2, true) := by
  rw [sure_next (s ++ t) attr e (by rw [ByteArray.size_append]; omega), ByteArray.data_append, Array.toList_append, h]
set_option maxRecDepth 100000 in
set_option maxHeartbeats 4000000 in
theorem Sure_yes (s t : ByteArray) (attr : Bool) (w : World) (hs : s.size ≤ 1048576) (ht : t.size ≤ 1048576) (h : sureL s.data.toList attr = true) :
    Calls Try.prog 5 #[.string s, .string t, .bool attr] w fun e w' => e = .returned (.bool true) ∧ Below w.heap.size w w' := by
  have a0 := sure_next s attr false (by omega)
  have a1 := sure_next s attr true (by omega)
  have hl : s.data.toList.length = s.size := by simp
  have hz := nextL_size s.data.toList attr true
  have he := nextL_end s.data.toList attr
  have happ := fun e => nextL_app s.data.toList t.data.toList attr e h
  rw [nextL_is _ _ h] at a0
  rw [hl] at hz
  generalize nextL s.data.toList attr true = q at a0 a1 hz he happ
  obtain ⟨q1, q2, q3⟩ := q
  simp only at hz he
  subst he
  obtain ⟨z1, z2⟩ := hz
  have A0 := Aside0.mk a0
  have A1 := Aside0.mk a1
  have HAPP := Aside0.mk happ
  clear a0 a1 h hl happ
  have d1 : decide (q2 < 0) = false := decide_eq_false (by omega)
  have d2 : decide ((s.size : Int) < q2) = false := decide_eq_false (by omega)
  have d3 : decide ((s.size : Int) < 0) = false := decide_eq_false (by omega)
  go_enter Try.func5, Try.ntmps5
  go_wp2_with (first | (go_at_call 12; ((with_reducible refine (charref_Next.calls 10000000 s attr false _ _ _ _ A0.out).mono ?_); rintro e w1 ⟨rfl, hb1⟩; have HB1 := Aside0.mk hb1; clear hb1)) | (go_at_call 12; ((with_reducible refine (charref_Next.calls 10000000 s attr true _ _ _ _ A1.out).mono ?_); rintro e w2 ⟨rfl, hb2⟩; have HB2 := Aside0.mk (HB1.out.trans (hb2.mono HB1.out.size)); clear hb2)) | (go_at_call 11; refine (sievelaw06_awake.calls 400 true _ sure_awake).mono ?_; rintro e w9 ⟨rfl, hb9⟩))
  refine wp_region_any rfl ?_
  have hJ0 : Below w.heap.size w { w2 with drawn := w2.drawn + 1 } := below_drew HB2.out
  refine wpAny_slots (pre := [_, _, _, _, _, _, _, _, _, _, _, _, _, _, _, _, _, _, _, _, _, _, _, _, _, _, _, _, _, _, _, _, _, _, _, _, _, _, _, _, _, _, _, _, _, _, _, _, _, _, _, _, _, _, _, _, _, _, _, _, _, _, _, _, _, _])
    (post := [_, _, _, _, _, _, _, _, _, _, _, _, _, _, _, _, _, _, _, _, _, _, _, _, _, _, _, _, _, _, _, _, _, _, _, _, _, _, _, _, _]) (ds := [])
    (OK := suOK s t) (J := fun w' => Below w.heap.size w w') (n0 := 66) rfl (by decide +kernel) ?step ?done [_, _, _, _, _, _, _, _, _, _, _, _, _, _, _, _, _, _, _, _] rfl _ hJ0
  case step =>
    refine ⟨?_, ?_, ?_, ?_, ?_, ?_, ?_, ?_, ?_, ?_, ?_, ?_, ?_, ?_, ?_, ?_, ?_, ?_, ?_, ?_, trivial⟩
    · intro us w' hus hdep hJ
      obtain ⟨x0, x1, x2, x3, x4, x5, x6, x7, x8, x9, x10, x11, x12, x13, x14, x15, x16, x17, x18, x19, rfl⟩ := list20 us hus
      exact value_ (N := some 66) (v := .bool true) rfl rfl rfl ⟨_, rfl, rfl, hJ, fun _ _ h => h⟩
    · intro us w' hus hdep hJ
      obtain ⟨x0, x1, x2, x3, x4, x5, x6, x7, x8, x9, x10, x11, x12, x13, x14, x15, x16, x17, x18, x19, rfl⟩ := list20 us hus
      have e0 : suOK s t 0 x0 w' := hdep 0 rfl
      change x0 = _ at e0
      subst e0
      exact value_ (N := some 67) (v := .bool false) rfl rfl rfl ⟨_, rfl, rfl, hJ, fun _ _ h => h⟩
    · intro us w' hus hdep hJ
      obtain ⟨x0, x1, x2, x3, x4, x5, x6, x7, x8, x9, x10, x11, x12, x13, x14, x15, x16, x17, x18, x19, rfl⟩ := list20 us hus
      have e1 : suOK s t 1 x1 w' := hdep 1 rfl
      change x1 = _ at e1
      subst e1
      exact value_ (N := some 68) (v := .bool false) rfl rfl rfl ⟨_, rfl, rfl, hJ, fun _ _ h => h⟩
    · intro us w' hus hdep hJ
      obtain ⟨x0, x1, x2, x3, x4, x5, x6, x7, x8, x9, x10, x11, x12, x13, x14, x15, x16, x17, x18, x19, rfl⟩ := list20 us hus
      have e2 : suOK s t 2 x2 w' := hdep 2 rfl
      change x2 = _ at e2
      subst e2
      exact value_ (N := some 69) (v := .string s) rfl rfl rfl ⟨_, rfl, rfl, hJ, fun _ _ h => h⟩
    · intro us w' hus hdep hJ
      obtain ⟨x0, x1, x2, x3, x4, x5, x6, x7, x8, x9, x10, x11, x12, x13, x14, x15, x16, x17, x18, x19, rfl⟩ := list20 us hus
      have e3 : suOK s t 3 x3 w' := hdep 3 rfl
      change x3 = _ at e3
      subst e3
      have e2 : suOK s t 2 x2 w' := hdep 2 rfl
      change x2 = _ at e2
      subst e2
      have hcv := Lib.run_convert_string_bytes (P := Try.prog) w' 9 31 5 s Try.underlying9 Try.underlying31 Try.underlying5
      have hb := Lib.bytesWorld_below w' 5 s
      refine value_ (N := some 70) rfl rfl (su_run hcv) ⟨_, rfl, su_bytes w' s (by first | omega | (rw [ByteArray.size_append]; omega)), hJ.trans (hb.mono hJ.size), suOK_mono s t hb⟩
    · intro us w' hus hdep hJ
      obtain ⟨x0, x1, x2, x3, x4, x5, x6, x7, x8, x9, x10, x11, x12, x13, x14, x15, x16, x17, x18, x19, rfl⟩ := list20 us hus
      obtain ⟨A4, c4, e4, hc4, hC4⟩ : suB s.data.toList x4 w' := hdep 4 rfl
      subst e4
      have e2 : suOK s t 2 x2 w' := hdep 2 rfl
      change x2 = _ at e2
      subst e2
      refine goes_ (N := some 71) Try.func15 (by kernel_rfl) rfl #[.slice A4 (zs s.data.toList).length c4] rfl rfl rfl (by (try simp only [List.map_toArray, List.map_cons, List.map_nil]); rfl) ((su_runes s (by first | omega | (rw [ByteArray.size_append]; omega)) A4 c4 w' hc4 hC4).mono ?_)
      rintro e w'' ⟨v, rfl, hR, hb⟩
      exact ⟨v, rfl, _, rfl, hR, hJ.trans (hb.mono hJ.size), suOK_mono s t hb⟩
    · intro us w' hus hdep hJ
      obtain ⟨x0, x1, x2, x3, x4, x5, x6, x7, x8, x9, x10, x11, x12, x13, x14, x15, x16, x17, x18, x19, rfl⟩ := list20 us hus
      have e5 : suR s.data.toList x5 w' := hdep 5 rfl
      have e2 : suOK s t 2 x2 w' := hdep 2 rfl
      change x2 = _ at e2
      subst e2
      have hcv := Hc_own_runes (P := Try.prog) (src := 29) (dst := 9) (e := 21) Try.underlying29 Try.underlying21 Try.underlying9 (Kd.own_of_R e5)
      exact value_ (N := some 72) rfl rfl (su_run hcv) ⟨_, rfl, rfl, hJ, fun _ _ h => h⟩
    · intro us w' hus hdep hJ
      obtain ⟨x0, x1, x2, x3, x4, x5, x6, x7, x8, x9, x10, x11, x12, x13, x14, x15, x16, x17, x18, x19, rfl⟩ := list20 us hus
      have e2 : suOK s t 2 x2 w' := hdep 2 rfl
      change x2 = _ at e2
      subst e2
      exact value_ (N := some 73) (v := .string t) rfl rfl rfl ⟨_, rfl, rfl, hJ, fun _ _ h => h⟩
    · intro us w' hus hdep hJ
      obtain ⟨x0, x1, x2, x3, x4, x5, x6, x7, x8, x9, x10, x11, x12, x13, x14, x15, x16, x17, x18, x19, rfl⟩ := list20 us hus
      have e7 : suOK s t 7 x7 w' := hdep 7 rfl
      change x7 = _ at e7
      subst e7
      have e2 : suOK s t 2 x2 w' := hdep 2 rfl
      change x2 = _ at e2
      subst e2
      have hcv := Lib.run_convert_string_bytes (P := Try.prog) w' 9 31 5 t Try.underlying9 Try.underlying31 Try.underlying5
      have hb := Lib.bytesWorld_below w' 5 t
      refine value_ (N := some 74) rfl rfl (su_run hcv) ⟨_, rfl, su_bytes w' t (by first | omega | (rw [ByteArray.size_append]; omega)), hJ.trans (hb.mono hJ.size), suOK_mono s t hb⟩
    · intro us w' hus hdep hJ
      obtain ⟨x0, x1, x2, x3, x4, x5, x6, x7, x8, x9, x10, x11, x12, x13, x14, x15, x16, x17, x18, x19, rfl⟩ := list20 us hus
      obtain ⟨A8, c8, e8, hc8, hC8⟩ : suB t.data.toList x8 w' := hdep 8 rfl
      subst e8
      have e5 : suR s.data.toList x5 w' := hdep 5 rfl
      have e2 : suOK s t 2 x2 w' := hdep 2 rfl
      change x2 = _ at e2
      subst e2
      refine goes_ (N := some 75) Try.func15 (by kernel_rfl) rfl #[.slice A8 (zs t.data.toList).length c8] rfl rfl rfl (by (try simp only [List.map_toArray, List.map_cons, List.map_nil]); rfl) ((su_runes t (by first | omega | (rw [ByteArray.size_append]; omega)) A8 c8 w' hc8 hC8).mono ?_)
      rintro e w'' ⟨v, rfl, hR, hb⟩
      exact ⟨v, rfl, _, rfl, hR, hJ.trans (hb.mono hJ.size), suOK_mono s t hb⟩
    · intro us w' hus hdep hJ
      obtain ⟨x0, x1, x2, x3, x4, x5, x6, x7, x8, x9, x10, x11, x12, x13, x14, x15, x16, x17, x18, x19, rfl⟩ := list20 us hus
      have e9 : suR t.data.toList x9 w' := hdep 9 rfl
      have e2 : suOK s t 2 x2 w' := hdep 2 rfl
      change x2 = _ at e2
      subst e2
      have hcv := Hc_own_runes (P := Try.prog) (src := 29) (dst := 9) (e := 21) Try.underlying29 Try.underlying21 Try.underlying9 (Kd.own_of_R e9)
      exact value_ (N := some 76) rfl rfl (su_run hcv) ⟨_, rfl, rfl, hJ, fun _ _ h => h⟩
    · intro us w' hus hdep hJ
      obtain ⟨x0, x1, x2, x3, x4, x5, x6, x7, x8, x9, x10, x11, x12, x13, x14, x15, x16, x17, x18, x19, rfl⟩ := list20 us hus
      have e6 : suOK s t 6 x6 w' := hdep 6 rfl
      change x6 = _ at e6
      subst e6
      have e10 : suOK s t 10 x10 w' := hdep 10 rfl
      change x10 = _ at e10
      subst e10
      have e2 : suOK s t 2 x2 w' := hdep 2 rfl
      change x2 = _ at e2
      subst e2
      exact value_ (N := some 77) rfl rfl (su_add (p := suT s) (q := suT t) w' (by have h1 := suT_size s; have h2 := suT_size t; omega) rfl rfl) ⟨_, rfl, rfl, hJ, fun _ _ h => h⟩
    · intro us w' hus hdep hJ
      obtain ⟨x0, x1, x2, x3, x4, x5, x6, x7, x8, x9, x10, x11, x12, x13, x14, x15, x16, x17, x18, x19, rfl⟩ := list20 us hus
      have e2 : suOK s t 2 x2 w' := hdep 2 rfl
      change x2 = _ at e2
      subst e2
      exact value_ (N := some 78) (v := .string s) rfl rfl rfl ⟨_, rfl, rfl, hJ, fun _ _ h => h⟩
    · intro us w' hus hdep hJ
      obtain ⟨x0, x1, x2, x3, x4, x5, x6, x7, x8, x9, x10, x11, x12, x13, x14, x15, x16, x17, x18, x19, rfl⟩ := list20 us hus
      have e2 : suOK s t 2 x2 w' := hdep 2 rfl
      change x2 = _ at e2
      subst e2
      exact value_ (N := some 79) (v := .string t) rfl rfl rfl ⟨_, rfl, rfl, hJ, fun _ _ h => h⟩
    · intro us w' hus hdep hJ
      obtain ⟨x0, x1, x2, x3, x4, x5, x6, x7, x8, x9, x10, x11, x12, x13, x14, x15, x16, x17, x18, x19, rfl⟩ := list20 us hus
      have e12 : suOK s t 12 x12 w' := hdep 12 rfl
      change x12 = _ at e12
      subst e12
      have e13 : suOK s t 13 x13 w' := hdep 13 rfl
      change x13 = _ at e13
      subst e13
      have e2 : suOK s t 2 x2 w' := hdep 2 rfl
      change x2 = _ at e2
      subst e2
      exact value_ (N := some 80) rfl rfl (su_add (p := s) (q := t) w' (by omega) rfl rfl) ⟨_, rfl, rfl, hJ, fun _ _ h => h⟩
    · intro us w' hus hdep hJ
      obtain ⟨x0, x1, x2, x3, x4, x5, x6, x7, x8, x9, x10, x11, x12, x13, x14, x15, x16, x17, x18, x19, rfl⟩ := list20 us hus
      have e14 : suOK s t 14 x14 w' := hdep 14 rfl
      change x14 = _ at e14
      subst e14
      have e2 : suOK s t 2 x2 w' := hdep 2 rfl
      change x2 = _ at e2
      subst e2
      have hcv := Lib.run_convert_string_bytes (P := Try.prog) w' 9 31 5 (s ++ t) Try.underlying9 Try.underlying31 Try.underlying5
      have hb := Lib.bytesWorld_below w' 5 (s ++ t)
      refine value_ (N := some 81) rfl rfl (su_run hcv) ⟨_, rfl, su_bytes w' (s ++ t) (by first | omega | (rw [ByteArray.size_append]; omega)), hJ.trans (hb.mono hJ.size), suOK_mono s t hb⟩
    · intro us w' hus hdep hJ
      obtain ⟨x0, x1, x2, x3, x4, x5, x6, x7, x8, x9, x10, x11, x12, x13, x14, x15, x16, x17, x18, x19, rfl⟩ := list20 us hus
      obtain ⟨A15, c15, e15, hc15, hC15⟩ : suB (s ++ t).data.toList x15 w' := hdep 15 rfl
      subst e15
      have e9 : suR t.data.toList x9 w' := hdep 9 rfl
      have e2 : suOK s t 2 x2 w' := hdep 2 rfl
      change x2 = _ at e2
      subst e2
      refine goes_ (N := some 82) Try.func15 (by kernel_rfl) rfl #[.slice A15 (zs (s ++ t).data.toList).length c15] rfl rfl rfl (by (try simp only [List.map_toArray, List.map_cons, List.map_nil]); rfl) ((su_runes (s ++ t) (by first | omega | (rw [ByteArray.size_append]; omega)) A15 c15 w' hc15 hC15).mono ?_)
      rintro e w'' ⟨v, rfl, hR, hb⟩
      exact ⟨v, rfl, _, rfl, hR, hJ.trans (hb.mono hJ.size), suOK_mono s t hb⟩
    · intro us w' hus hdep hJ
      obtain ⟨x0, x1, x2, x3, x4, x5, x6, x7, x8, x9, x10, x11, x12, x13, x14, x15, x16, x17, x18, x19, rfl⟩ := list20 us hus
      have e16 : suR (s ++ t).data.toList x16 w' := hdep 16 rfl
      have e2 : suOK s t 2 x2 w' := hdep 2 rfl
      change x2 = _ at e2
      subst e2
      have hcv := Hc_own_runes (P := Try.prog) (src := 29) (dst := 9) (e := 21) Try.underlying29 Try.underlying21 Try.underlying9 (Kd.own_of_R e16)
      exact value_ (N := some 83) rfl rfl (su_run hcv) ⟨_, rfl, rfl, hJ, fun _ _ h => h⟩
    · intro us w' hus hdep hJ
      obtain ⟨x0, x1, x2, x3, x4, x5, x6, x7, x8, x9, x10, x11, x12, x13, x14, x15, x16, x17, x18, x19, rfl⟩ := list20 us hus
      have e11 : suOK s t 11 x11 w' := hdep 11 rfl
      change x11 = _ at e11
      subst e11
      have e17 : suOK s t 17 x17 w' := hdep 17 rfl
      change x17 = _ at e17
      subst e17
      have e2 : suOK s t 2 x2 w' := hdep 2 rfl
      change x2 = _ at e2
      subst e2
      exact value_ (N := some 84) rfl rfl (su_neq (p := suT s ++ suT t) (q := suT (s ++ t)) w' rfl rfl) ⟨_, rfl, rfl, hJ, fun _ _ h => h⟩
    · intro us w' hus hdep hJ
      obtain ⟨x0, x1, x2, x3, x4, x5, x6, x7, x8, x9, x10, x11, x12, x13, x14, x15, x16, x17, x18, x19, rfl⟩ := list20 us hus
      have e2 : suOK s t 2 x2 w' := hdep 2 rfl
      change x2 = _ at e2
      subst e2
      have e18 : suOK s t 18 x18 w' := hdep 18 rfl
      change x18 = _ at e18
      subst e18
      exact value_ (N := some 85) (v := .bool ((suT s ++ suT t).toList != (suT (s ++ t)).toList)) rfl rfl rfl ⟨_, rfl, rfl, hJ, fun _ _ h => h⟩
  case done =>
    intro us w' hus hok hJ
    have e19 : suOK s t 19 (us.getD 19 undef) w' := hok 19 (by decide)
    clear hok
    obtain ⟨x0, x1, x2, x3, x4, x5, x6, x7, x8, x9, x10, x11, x12, x13, x14, x15, x16, x17, x18, x19, rfl⟩ := list20 us hus
    change x19 = _ at e19
    subst e19
    have HJ := Aside0.mk hJ
    have HT := Aside0.mk (fun e => sure_twice s t attr e q1 q2 hs ht (HAPP.out e))
    clear hJ
    unfold Fr
    simp only [List.cons_append, List.nil_append]
    cases hB : ((suT s ++ suT t).toList != (suT (s ++ t)).toList) with
    | true =>
      clear hB
      go_wp2_with (go_at_call 11; refine (sievelaw06_awake.calls 400 true _ sure_awake).mono ?_; rintro e w9 ⟨rfl, hb9⟩)
      go_ret
      exact ⟨rfl, HJ.out.trans (hb9.mono HJ.out.size)⟩
    | false =>
      clear hB
      have BK0 := Aside0.mk (heap_alloc_new w' (.cells #[.bool false, .bool true] 4))
      have HJ1 := Aside0.mk (below_alloc HJ.out (.cells #[.bool false, .bool true] 4))
      go_wp2
      refine wp_loop_rounds 3 ?_
      rw [rounds_succ]
      go_wp2_with (go_at_call 12; ((with_reducible refine (charref_Next.calls 10000000 (s ++ t) attr false _ _ _ _ (HT.out false)).mono ?_); rintro e w9 ⟨rfl, hb9⟩; have HJ9 := Aside0.mk (below_step HJ1.out hb9); have BK9 := Aside0.mk (blk_below BK0.out hb9); clear hb9; have hc9 : w9.cell? ⟨w'.heap.size, 1, none⟩ = some (.bool true) := (blk_cell BK9.out 1).trans rfl))
      rw [rounds_succ]
      go_wp2_with (go_at_call 12; ((with_reducible refine (charref_Next.calls 10000000 (s ++ t) attr true _ _ _ _ (HT.out true)).mono ?_); rintro e w10 ⟨rfl, hb10⟩; have HJ10 := Aside0.mk (below_step HJ9.out hb10); clear hb10))
      rw [rounds_succ]
      go_wp2_with (go_at_call 11; refine (sievelaw06_awake.calls 400 true _ sure_awake).mono ?_; rintro e w11 ⟨rfl, hb11⟩; have HJ11 := Aside0.mk (below_step HJ10.out hb11); clear hb11)
      go_ret
      exact ⟨rfl, HJ11.out⟩
theorem CharrefSure_walk (s t : ByteArray) (attr : Bool) (hs : s.size ≤ 1048576) (ht : t.size ≤ 1048576) (w : World) :
    Calls Try.prog 5 #[.string s, .string t, .bool attr] w fun e w' => e = .returned (.bool true) ∧ Below w.heap.size w w' := by
  cases h : sureL s.data.toList attr with
  | true => exact Sure_yes s t attr w hs ht h
  | false => exact Sure_no s t attr w hs h
end Go.Proofs.Ytilpbfbnnmclhaa.P
end
section
namespace Go.Proofs.Ytilpbfbnnmclhaa.charrefSure
open Go.ChangeShapes Go.WideShapes Go.ChangeAt Go.RowKit
open Go.ChangeMaps (open_string shut_string)
set_option linter.unusedVariables false
theorem own : ownKnob Try.prog.godebug = none := by kernel_rfl
theorem short {H : Type} (s0 : ByteArray) (s1 : ByteArray) (d2 : DataW H) (hk : Rows.uptoSmall H [DataW.lit (H := H) (.string s0.data.toList), DataW.lit (H := H) (.string s1.data.toList), d2] = true) : s0.size ≤ 1048576 ∧ s1.size ≤ 1048576 := by
  have h : Rows.uptoBulkAll [DataW.lit (H := H) (.string s0.data.toList), DataW.lit (H := H) (.string s1.data.toList), d2] ≤ 1048576 := of_decide_eq_true hk
  simp only [Rows.uptoBulkAll, Rows.uptoBulk] at h
  have e0 : s0.data.toList.length = s0.size := by simp
  have e1 : s1.data.toList.length = s1.size := by simp
  exact ⟨by omega, by omega⟩
set_option maxRecDepth 100000 in
theorem contract (H : Type) (enc : TypeId × Value → H) (W : World) (base : Nat) (args : Array Value) (ds gs : List (DataW H)) (before : List MemPlace)
    (hval : ∀ (j : Nat) t v, Try.f5.params[j]? = some t → args[j]? = some v → Value.okWide Try.prog W .any base t v)
    (hW : DataW.Whole enc Try.prog Try.f5.params.toList Rows.charrefSureSpec.vars false W args.toList ds gs before) (hk : Rows.uptoSmall H (ds ++ gs) = true) :
    Calls Try.prog 5 args W fun e W' => ∃ v, e = .returned v ∧ Rows.charrefSureSpec.post enc Try.prog Try.f5 false true false false W args v W' := by
  have hW' := hW
  obtain ⟨p, q, hA0, hV, rfl, hfz, hnd⟩ := hW
  have hA : DataW.TrodAll enc Try.prog W 0 (fun _ => true) true Try.f5.params.toList args.toList ds p := hA0
  rw [Try.params5] at hA hval
  obtain ⟨v0, vs0, d0, ds0, p0, q0, hargs, rfl, rfl, h0, r0⟩ := trodAll_cons hA
  obtain ⟨v1, vs1, d1, ds1, p1, q1, rfl, rfl, rfl, h1, r1⟩ := trodAll_cons r0
  obtain ⟨v2, vs2, d2, ds2, p2, q2, rfl, rfl, rfl, h2, r2⟩ := trodAll_cons r1
  obtain ⟨rfl, rfl, rfl⟩ := trodAll_nil r2
  obtain rfl : args = #[v0, v1, v2] := by cases args; simp_all
  obtain ⟨rfl, rfl⟩ := trodVars_none hV
  obtain ⟨a0, rfl, rfl, rfl, y0⟩ := open_string Try.underlying9 (hval 0 9 v0 rfl rfl) h0
  obtain ⟨a1, rfl, rfl, rfl, y1⟩ := open_string Try.underlying9 (hval 1 9 v1 rfl rfl) h1
  obtain ⟨a2, rfl, rfl, rfl⟩ := open_bool Try.underlying4 (hval 2 4 v2 rfl rfl) h2
  clear hA0
  simp only [List.append_nil] at hk
  have hs := short a0 a1 _ hk
  refine (P.CharrefSure_walk a0 a1 a2 hs.1 hs.2 W).mono fun e W' ⟨he, bel⟩ => ?_
  subst he
  exact ⟨_, rfl, _, _, _, [], _, [], hW', trodAll_mk1 (shut_bool Try.underlying4 _), (trodAll_cons_mk (shut_string Try.underlying9 y0) (trodAll_cons_mk (shut_string Try.underlying9 y1) (trodAll_cons_mk (shut_bool Try.underlying4 _) trodAll_mk0))), rfl, bel.frame _, fun h => by cases h⟩
set_option maxRecDepth 100000 in
theorem lifted (os : Os) (started : os.Started) (H : Type) (enc : TypeId × Value → H) (F : Stop.Interp) :
    ReturnsInHanded {} Try.checked os 5 .any ((Rows.OpenSpec.upto Rows.charrefSureSpec).pre6 enc Try.prog Try.f5 Rows.charrefSureUptoRow.domain false) (((Rows.OpenSpec.upto Rows.charrefSureSpec).at F).post enc Try.prog Try.f5 false true false false) := by
  refine returnsInHanded_of_cond (C := Try.checked) (s := Rows.OpenSpec.upto Rows.charrefSureSpec) (k := Rows.uptoSmall) rfl own started (by kernel_rfl) Try.func5
    (OpenSpec.witness (enc := enc) (C := Try.checked) (s := Rows.OpenSpec.upto Rows.charrefSureSpec) (k := Rows.uptoSmall) rfl false ⟨#[], #[.string ByteArray.empty, .string ByteArray.empty, .bool false], []⟩ 8 (by kernel_rfl) (by kernel_rfl) (by kernel_rfl)
      (x := ([.lit (.string []), .lit (.string []), .lit (.bool false)], [], [])) (by kernel_rfl) rfl (by kernel_rfl)) ?_
  intro W base args ds gs before hval hW _ hk _
  exact contract H enc W base args ds gs before hval hW hk
theorem proved : Rows.CharrefSureUptoSaid :=
  OpenClaim.holds_of_cond 5 Try.f5 rfl rfl rfl rfl rfl rfl rfl ⟨rfl, rfl, rfl, rfl, rfl⟩ rfl rfl rfl rfl rfl (by kernel_rfl) Try.func5 (by kernel_rfl)
    (of_decide_eq_true (by kernel_rfl)) (by unfold Func.isWrapper; first | (rw [if_pos (by decide +kernel)]; kernel_rfl) | (rw [if_neg (by decide +kernel)]; exact ⟨rfl, rfl⟩))
    (fun os started H enc _ F => lifted os started H enc F)
#print axioms proved
end Go.Proofs.Ytilpbfbnnmclhaa.charrefSure
namespace Go.Proofs.Ytilpbfbnnmclhaa
/-- The row, under a short name, for the claim. -/
theorem charrefSure_holds : Rows.CharrefSureUptoSaid := charrefSure.proved
end Go.Proofs.Ytilpbfbnnmclhaa
end
