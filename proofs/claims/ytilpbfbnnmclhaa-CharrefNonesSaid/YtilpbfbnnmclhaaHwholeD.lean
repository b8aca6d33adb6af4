/-
  charref.replaced over Decode's literal.
-/
import Derived.Test.YtilpbfbnnmclhaaHrepD
import Derived.Deep.RegionWith
namespace Go.Proofs.Ytilpbfbnnmclhaa.P
open Go.RowKit Go.Shelf Go.Proofs.YtilpbfbnnmclhaaW.PrintWords Go.Proofs.YtilpbfbnnmclhaaW.PrintLast Go.Proofs.YtilpbfbnnmclhaaW.PrintMore
set_option linter.unusedVariables false
set_option linter.unusedSimpArgs false

theorem D_alloc_get {w : World} {k : Nat} {x : Obj} (o : Obj) (h : w.heap[k]? = some x) : (w.alloc o).heap[k]? = some x :=
  (Lib.alloc_old w o k (Array.getElem?_eq_some_iff.1 h).1).trans h

set_option maxRecDepth 100000 in
set_option maxHeartbeats 2000000 in
theorem D_replaced_calls (k : Nat) (m : ByteArray) (attr : Bool) (g : ByteArray → ByteArray) (refs : List (Nat × ByteArray × Nat)) (w : World) (hm : m.size ≤ 35184372088831) (href : refsGo attr m k 0 = some refs)
    (hlen : (repText g m.data.toList refs).length ≤ 140737488355328)
    (hby : ∀ x ∈ refs, ∀ (n : Int) (b : Bool) (W : World), Calls Try.prog 37 #[.agg #[.string x.2.1, .int .i64 n, .bool b]] W fun e W' => e = .returned (.string (g x.2.1)) ∧ Below W.heap.size W W') :
    Calls Try.prog 32 #[.string m, .bool attr, .func (.func 37) #[] #[]] w fun e w' =>
      e = .returned (.tuple #[.string ⟨(repText g m.data.toList refs).toArray⟩, .int .i64 (refs.length : Nat)]) ∧ Below w.heap.size w w' := by
  have HBY := Aside0.mk hby
  have HREF := Aside0.mk href
  have HLEN := Aside0.mk hlen
  clear hby href hlen
  have hasc := refsGo_asc attr m k 0 refs HREF.out
  have hend := Asc.end_ g m.data.toList refs (0, []) (Nat.zero_le _) hasc
  have HEND := Aside0.mk hend
  have HASC := Aside0.mk hasc
  clear hasc hend
  -- the world when the references begin
  have hw5 : RepI 37 w.heap.size m g w [] (((((w.alloc (.cells #[.string m] 9)).alloc (.cells #[.func (.func 37) #[] #[]] 69)).alloc (.cells #[.pointer none, .slice none 0 0] 86)).alloc (.cells #[.int .i64 0] 3)).alloc (.cells #[.int .i64 0] 3)) := by
    have z1 : (w.alloc (.cells #[.string m] 9)).heap.size = w.heap.size + 1 := by simp
    have z2 : ((w.alloc (.cells #[.string m] 9)).alloc (.cells #[.func (.func 37) #[] #[]] 69)).heap.size = w.heap.size + 2 := by simp
    have z3 : (((w.alloc (.cells #[.string m] 9)).alloc (.cells #[.func (.func 37) #[] #[]] 69)).alloc (.cells #[.pointer none, .slice none 0 0] 86)).heap.size = w.heap.size + 3 := by simp
    have z4 : ((((w.alloc (.cells #[.string m] 9)).alloc (.cells #[.func (.func 37) #[] #[]] 69)).alloc (.cells #[.pointer none, .slice none 0 0] 86)).alloc (.cells #[.int .i64 0] 3)).heap.size = w.heap.size + 4 := by simp
    refine ⟨.inl ⟨by omega, .slice none 0 0, ?_, ⟨rfl, .inl ⟨rfl, rfl⟩⟩, by simp [Value.ownBlock]⟩, ?_, ?_, ?_, ?_, ?_⟩
    · have := heap_alloc_new ((w.alloc (.cells #[.string m] 9)).alloc (.cells #[.func (.func 37) #[] #[]] 69)) (.cells #[.pointer none, .slice none 0 0] 86)
      rw [z2] at this
      exact D_alloc_get _ (D_alloc_get _ this)
    · exact D_alloc_get _ (D_alloc_get _ (D_alloc_get _ (D_alloc_get _ (heap_alloc_new w _))))
    · have := heap_alloc_new (w.alloc (.cells #[.string m] 9)) (.cells #[.func (.func 37) #[] #[]] 69)
      rw [z1] at this
      exact D_alloc_get _ (D_alloc_get _ (D_alloc_get _ this))
    · have := heap_alloc_new (((w.alloc (.cells #[.string m] 9)).alloc (.cells #[.func (.func 37) #[] #[]] 69)).alloc (.cells #[.pointer none, .slice none 0 0] 86)) (.cells #[.int .i64 0] 3)
      rw [z3] at this
      exact D_alloc_get _ this
    · have := heap_alloc_new ((((w.alloc (.cells #[.string m] 9)).alloc (.cells #[.func (.func 37) #[] #[]] 69)).alloc (.cells #[.pointer none, .slice none 0 0] 86)).alloc (.cells #[.int .i64 0] 3)) (.cells #[.int .i64 0] 3)
      rw [z4] at this
      exact this
    · exact (((((Below.refl _ w).alloc (Nat.le_refl _) _).alloc (by omega) _).alloc (by omega) _).alloc (by omega) _).alloc (by omega) _
  have HW5 := Aside0.mk hw5
  clear hw5
  have heach := fun W5 (h5 : RepI 37 w.heap.size m g w [] W5) => charref_each_calls k m attr #[.pointer (some ⟨w.heap.size + 1 + 1, 0, none⟩), .pointer (some ⟨w.heap.size, 0, none⟩), .pointer (some ⟨w.heap.size + 1 + 1 + 1, 0, none⟩), .pointer (some ⟨w.heap.size + 1, 0, none⟩), .pointer (some ⟨w.heap.size + 1 + 1 + 1 + 1, 0, none⟩)]
    refs (RepI 37 w.heap.size m g w) W5 hm HREF.out (fun pre W W' h hb => h.below hb) (by
      rintro pre x W b hinv ⟨post, hpost⟩
      have hmid := Asc.mid (n := m.size) g m.data.toList pre (0, []) x post (by rw [← List.append_cons] at hpost; rw [hpost]; exact HASC.out)
      refine D_rep1_calls w.heap.size m g w pre x W b hinv hmid.1 hmid.2.1 hm ?_ ?_ (HBY.out x (by rw [← hpost]; simp))
      · have h1 := hmid.2.2
        have h2 := hmid.1
        have h3 := hmid.2.1
        simp only [Nat.add_zero] at h1
        omega
      · have h1 := repSt_len g m.data.toList (pre ++ [x]) post
        rw [hpost] at h1
        have h2 := HLEN.out
        unfold repText at h2
        rw [List.length_append] at h2
        omega) h5
  have HEACH := Aside0.mk heach
  clear heach
  have hend := HEND.out
  have hlen := HLEN.out
  unfold repText at hlen
  have htx : repText g m.data.toList refs = (repSt g m.data.toList refs).2 ++ m.data.toList.drop (repSt g m.data.toList refs).1 := rfl
  have HTX := Aside0.mk htx
  clear htx
  change (repSt g m.data.toList refs).1 ≤ m.size ∧ refs.length + 0 ≤ (repSt g m.data.toList refs).1 at hend
  obtain ⟨fr, acc, hst⟩ : ∃ fr acc, repSt g m.data.toList refs = (fr, acc) := ⟨_, _, rfl⟩
  have hri : ∀ W, RepI 37 w.heap.size m g w refs W → Lib.IsBuilderF 86 5 w.heap.size (w.heap.size + 1 + 1) (Lib.byteCells acc) W ∧ W.heap[w.heap.size]? = some (.cells #[.string m] 9 (0, 0)) ∧
      W.heap[w.heap.size + 1 + 1 + 1]? = some (.cells #[.int .i64 (fr : Nat)] 3 (0, 0)) ∧ W.heap[w.heap.size + 1 + 1 + 1 + 1]? = some (.cells #[.int .i64 (refs.length : Nat)] 3 (0, 0)) ∧ Below w.heap.size w W := by
    rintro W ⟨h1, h2, _, h3, h4, h5⟩
    rw [hst] at h1 h3
    exact ⟨h1, h2, h3, h4, h5⟩
  have HRI := Aside0.mk hri
  clear hri
  rw [hst] at hend hlen HTX
  simp only at hend hlen HTX
  clear hst
  rw [List.length_append, List.length_drop] at hlen
  have hml : m.data.toList.length = m.size := by simp
  have HL := Aside0.mk (show acc.length + (m.extract fr m.size).size ≤ 140737488355328 by
    have e : (m.extract fr m.size).size = m.size - fr := by simp
    omega)
  clear hlen hml
  have s1 : ((0 : Int) ≤ (fr : Int)) = True := eq_true (by omega)
  have s2 : ((fr : Int) ≤ (m.size : Int)) = True := eq_true (by omega)
  go_enter Try.func32, Try.ntmps32
  go_wp2_with (first | (go_at_call 39; refine (HEACH.out _ HW5.out).mono ?_; rintro e w6 ⟨rfl, hr6⟩; have hr6' := HRI.out w6 hr6; clear hr6; obtain ⟨hI6, hS6, hF6, hN6, hB6⟩ := hr6'; have HI6 := Aside0.mk hI6; have HS6 := Aside0.mk hS6; have HF6 := Aside0.mk hF6; have HN6 := Aside0.mk hN6; have HB6 := Aside0.mk hB6; clear hI6 hS6 hF6 hN6 hB6; have hcS6 : w6.cell? ⟨w.heap.size, 0, none⟩ = some (.string m) := (blk_cell HS6.out 0).trans rfl; have hcF6 : w6.cell? ⟨w.heap.size + 1 + 1 + 1, 0, none⟩ = some (.int .i64 (fr : Nat)) := (blk_cell HF6.out 0).trans rfl) | (go_at_call 54; refine (bld_WriteString_k w.heap.size (w.heap.size + 1 + 1) (Lib.byteCells acc) (m.extract fr m.size) w6 HI6.out (by rw [Lib.byteCells_length]; exact HL.out) HB6.out.size).mono ?_; rintro e w7 ⟨rfl, hb7, hbel7, hok7⟩; have HI7 := Aside0.mk hb7; have HBEL7 := Aside0.mk hbel7; have HN7 := Aside0.mk (hok7 (w.heap.size + 1 + 1 + 1 + 1) _ HN6.out (by intro e; have e := Option.some.inj e; omega) (fun c fz e => by cases e)); clear hb7 hbel7 hok7; have hcN7 : w7.cell? ⟨w.heap.size + 1 + 1 + 1 + 1, 0, none⟩ = some (.int .i64 (refs.length : Nat)) := (blk_cell HN7.out 0).trans rfl))
  have hb7 : Lib.IsBuilderF 86 5 w.heap.size (w.heap.size + 1 + 1) (Lib.byteCells (acc ++ m.data.toList.drop fr)) w7 := by
    have e : (m.extract fr m.size).data.toList = m.data.toList.drop fr := by
      rw [Lib.extract_data, List.take_of_length_le (by simp)]
    rw [Lib.byteCells_append, ← e]
    exact .inr HI7.out
  have HSTR := Aside0.mk (Try.Builder_String_any_k w.heap.size (w.heap.size + 1 + 1) (acc ++ m.data.toList.drop fr) w7.drew hb7 (Nat.le_trans HB6.out.size HBEL7.out.size))
  clear hb7
  go_region_with (go_at_call 55; refine HSTR.out.mono ?_; rintro e w8 ⟨rfl, _, hbel8, hok8⟩; have HBEL8 := Aside0.mk hbel8; have HN8 := Aside0.mk (hok8 (w.heap.size + 1 + 1 + 1 + 1) _ HN7.out (by intro e; have e := Option.some.inj e; omega) (fun c fz e => by cases e)); clear hbel8 hok8; have hcN8 : w8.cell? ⟨w.heap.size + 1 + 1 + 1 + 1, 0, none⟩ = some (.int .i64 (refs.length : Nat)) := (blk_cell HN8.out 0).trans rfl)
  all_goals (try go_wp2)
  all_goals go_ret2
  all_goals exact ⟨by rw [HTX.out]; rfl, (below_drew (HB6.out.trans HBEL7.out)).trans HBEL8.out⟩
end Go.Proofs.Ytilpbfbnnmclhaa.P
