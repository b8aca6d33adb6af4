/-
  charref.replaced over Decode's literal: the function's own literal, which writes a reference's text, and the whole.
-/
import Derived.Test.YtilpbfbnnmclhaaHrep0
import Derived.Laws.EntriesVeiled
namespace Go.Proofs.Ytilpbfbnnmclhaa.P
open Go.RowKit Go.Shelf Go.Proofs.YtilpbfbnnmclhaaW.PrintWords Go.Proofs.YtilpbfbnnmclhaaW.PrintLast Go.Proofs.YtilpbfbnnmclhaaW.PrintMore
set_option linter.unusedVariables false
set_option linter.unusedSimpArgs false

set_option maxRecDepth 100000 in
set_option maxHeartbeats 8000000 in
theorem D_rep1_calls (b0 : Nat) (m : ByteArray) (g : ByteArray → ByteArray) (W0 : World) (pre : List (Nat × ByteArray × Nat)) (x : Nat × ByteArray × Nat) (W : World) (b : Bool)
    (h : RepI 37 b0 m g W0 pre W) (hle : (repSt g m.data.toList pre).1 ≤ x.1) (hx : x.1 + 1 + x.2.2 ≤ m.size) (hm : m.size ≤ 35184372088831) (hp : pre.length ≤ m.size)
    (hlen : (repSt g m.data.toList (pre ++ [x])).2.length ≤ 140737488355328)
    (hby : ∀ (n : Int) (b : Bool) (W : World), Calls Try.prog 37 #[.agg #[.string x.2.1, .int .i64 n, .bool b]] W fun e W' => e = .returned (.string (g x.2.1)) ∧ Below W.heap.size W W') :
    Calls Try.prog 53 (#[.int .i64 (x.1 : Nat), .agg #[.string x.2.1, .int .i64 (x.2.2 : Nat), .bool b]] ++
        #[.pointer (some ⟨b0 + 2, 0, none⟩), .pointer (some ⟨b0, 0, none⟩), .pointer (some ⟨b0 + 3, 0, none⟩), .pointer (some ⟨b0 + 1, 0, none⟩), .pointer (some ⟨b0 + 4, 0, none⟩)]) W fun e W' =>
      e = .returned (.bool true) ∧ RepI 37 b0 m g W0 (pre ++ [x]) W' ∧ ∀ (j : Nat) (cs : Array Value), W.heap[j]? = some (Obj.cells cs 60 (0, 0)) → W'.heap[j]? = some (Obj.cells cs 60 (0, 0)) := by
  obtain ⟨hI, hS, hBy, hF, hN, hB⟩ := h
  have HI := Aside0.mk hI
  have HS := Aside0.mk hS
  have HBy := Aside0.mk hBy
  have HF := Aside0.mk hF
  have HN := Aside0.mk hN
  have HB := Aside0.mk hB
  have HBY := Aside0.mk hby
  have HLEN := Aside0.mk hlen
  have HN4 := Aside0.mk (show b0 + 4 < W.heap.size from (Array.getElem?_eq_some_iff.1 hN).1)
  clear hI hS hBy hF hN hB hby hlen
  obtain ⟨at_, says, size⟩ := x
  simp only at hle hx HBY
  have hstep := repSt_snoc g m.data.toList pre (at_, says, size)
  generalize hst : repSt g m.data.toList pre = st at hle HI HF hstep
  obtain ⟨fr, acc⟩ := st
  simp only at hle HI HF hstep
  have HST := Aside0.mk hst
  have HSTEP := Aside0.mk hstep
  clear hst hstep
  have hl1 : acc.length + (m.extract fr at_).size ≤ 140737488355328 := by
    have := HLEN.out
    rw [HSTEP.out] at this
    simp [repStep] at this
    have e : (m.extract fr at_).size = at_ - fr := by simp; omega
    omega
  have hl2 : (acc ++ (m.extract fr at_).data.toList).length + (g says).size ≤ 140737488355328 := by
    have := HLEN.out
    rw [HSTEP.out] at this
    simp [repStep] at this
    have e : (m.extract fr at_).size = at_ - fr := by simp; omega
    have e2 : (g says).data.size = (g says).size := rfl
    simp
    omega
  have HL1 := Aside0.mk hl1
  have HL2 := Aside0.mk hl2
  clear hl1 hl2
  have s1 : ((0 : Int) ≤ (fr : Int)) = True := eq_true (by omega)
  have s2 : ((fr : Int) ≤ (at_ : Int)) = True := eq_true (by omega)
  have s3 : ((at_ : Int) ≤ (m.size : Int)) = True := eq_true (by omega)
  have w1 : IntKind.i64.wrap ((at_ : Int) + 1) = (at_ : Int) + 1 := IntWalk.i64_in _ (by omega)
  have w2 : IntKind.i64.wrap ((at_ : Int) + 1 + (size : Int)) = ((at_ + 1 + size : Nat) : Int) := by rw [IntWalk.i64_in _ (by omega)]; omega
  have w3 : IntKind.i64.wrap ((pre.length : Int) + 1) = ((pre.length + 1 : Nat) : Int) := by rw [IntWalk.i64_in _ (by omega)]; omega
  have hu60 := Try.underlying60
  have HB0 := Aside0.mk (Below.refl W.heap.size W)
  go_enter Try.func53, Try.ntmps53
  go_wp2_with (first | ((with_reducible refine gate_dst (N := 8) rfl ?_); refine box_event ?hg (N := 8) ?hd (cs := #[.string says, .int .i64 (size : Nat), .bool b]) (t := 60) ?hr ?_; (case hd => rfl); (case hg => rfl); (case hr => first | (go_simp; done) | (go_simp; rfl)); intro gb hg w5 hbox hb; have HB5 := Aside0.mk (below_step HB0.out hb); have BK5 := Aside0.mk hbox; have NE5 : some gb ≠ some (b0 + 2) := (by intro e; have e := Option.some.inj e; have := HN4.out; rw [hg] at e; omega); clear hb hbox hg; have hcS5 : w5.cell? ⟨b0, 0, none⟩ = some (.string m) := (blk_cell (blk_kept HB5.out HS.out) 0).trans rfl; have hcF5 : w5.cell? ⟨b0 + 3, 0, none⟩ = some (.int .i64 (fr : Nat)) := (blk_cell (blk_kept HB5.out HF.out) 0).trans rfl) | (go_at_call 54; refine (bld_WriteString_k b0 (b0 + 2) (Lib.byteCells (acc ++ (m.extract fr at_).data.toList)) (g says) w7 (by rw [Lib.byteCells_append]; exact bld_below (.inr HI6.out) HBEL7.out) (by rw [Lib.byteCells_length]; exact HL2.out) (by have := HN4.out; have := HB5.out.size; have := HBEL6.out.size; have := HBEL7.out.size; omega)).mono ?_; rintro e w8 ⟨rfl, hb8, hbel8, hok8⟩; have HOK8 := Aside0.mk hok8; have HI8 := Aside0.mk hb8; have HBEL8 := Aside0.mk hbel8; clear hok8 hb8 hbel8; have KP := Aside0.mk (fun (k : Nat) (o : Obj) (h5 : w5.heap[k]? = some o) (hne : some k ≠ some (b0 + 2)) (ho : ∀ c fz, o ≠ Obj.cells c 5 fz) => HOK8.out k o (blk_kept HBEL7.out (HOK6.out k o h5 hne ho)) hne ho); have BK8 := Aside0.mk (KP.out gb _ BK5.out NE5 (fun c fz e => by cases e)); have BF8 := Aside0.mk (KP.out (b0 + 3) _ (blk_kept HB5.out HF.out) (by simp) (fun c fz e => by cases e)); have BN8 := Aside0.mk (KP.out (b0 + 4) _ (blk_kept HB5.out HN.out) (by simp) (fun c fz e => by cases e)); have hch8 : w8.cell? ⟨gb, 1, none⟩ = some (.int .i64 (size : Nat)) := (blk_cell BK8.out 1).trans rfl; have hcF8 : w8.cell? ⟨b0 + 3, 0, none⟩ = some (.int .i64 (fr : Nat)) := (blk_cell BF8.out 0).trans rfl; have hcN8 : w8.cell? ⟨b0 + 4, 0, none⟩ = some (.int .i64 (pre.length : Nat)) := (blk_cell BN8.out 0).trans rfl; have hfF8 := blk_frozen BF8.out 0; have hfN8 := blk_frozen BN8.out 0) | (go_at_call 37; refine (HBY.out (size : Nat) b w6).mono ?_; rintro e w7 ⟨rfl, hbel7⟩; have HBEL7 := Aside0.mk hbel7; clear hbel7) | (go_at_call 54; refine (bld_WriteString_k b0 (b0 + 2) (Lib.byteCells acc) (m.extract fr at_) w5 (bld_below HI.out HB5.out) (by rw [Lib.byteCells_length]; exact HL1.out) (by have := HN4.out; have := HB5.out.size; omega)).mono ?_; rintro e w6 ⟨rfl, hb6, hbel6, hok6⟩; have HOK6 := Aside0.mk hok6; have HI6 := Aside0.mk hb6; have HBEL6 := Aside0.mk hbel6; clear hok6 hb6 hbel6; have BK6 := Aside0.mk (HOK6.out gb _ BK5.out NE5 (fun c fz e => by cases e)); have hcB6 : w6.cell? ⟨b0 + 1, 0, none⟩ = some (.func (.func 37) #[] #[]) := (blk_cell (HOK6.out (b0 + 1) _ (blk_kept HB5.out HBy.out) (by simp) (fun c fz e => by cases e)) 0).trans rfl; have hcg6 : w6.cell? ⟨gb, 0, none⟩ = some (.string says) := (blk_cell BK6.out 0).trans rfl; have hch6 : w6.cell? ⟨gb, 1, none⟩ = some (.int .i64 (size : Nat)) := (blk_cell BK6.out 1).trans rfl; have hci6 : w6.cell? ⟨gb, 2, none⟩ = some (.bool b) := (blk_cell BK6.out 2).trans rfl))
  go_ret
  have hext : (m.extract fr at_).data.toList = (m.data.toList.drop fr).take (at_ - fr) := Lib.extract_data m fr at_
  have kS := KP.out b0 _ (blk_kept HB5.out HS.out) (by intro e; have e := Option.some.inj e; omega) (fun c fz e => by cases e)
  have kBy := KP.out (b0 + 1) _ (blk_kept HB5.out HBy.out) (by intro e; have e := Option.some.inj e; omega) (fun c fz e => by cases e)
  refine ⟨rfl, ⟨?_, ?_, ?_, ?_, ?_, ?_⟩, ?_⟩
  · rw [HSTEP.out]
    show Lib.IsBuilderF _ _ _ _ (Lib.byteCells (acc ++ ((m.data.toList.drop fr).take (at_ - fr) ++ (g says).data.toList))) _
    rw [← hext, ← List.append_assoc, Lib.byteCells_append]
    refine bld_kept (.inr HI8.out) ?_
    intro k o ho hk
    have n3 : k ≠ b0 + 3 := by
      rintro rfl
      rcases hk with hk | ⟨c, fz, rfl⟩
      · omega
      · rw [BF8.out] at ho
        cases ho
    have n4 : k ≠ b0 + 4 := by
      rintro rfl
      rcases hk with hk | ⟨c, fz, rfl⟩
      · omega
      · rw [BN8.out] at ho
        cases ho
    rw [Below.heap_setCell _ _ _ _ n4, Below.heap_setCell _ _ _ _ n3]
    exact ho
  · rw [Below.heap_setCell _ _ _ _ (show b0 ≠ b0 + 4 by omega), Below.heap_setCell _ _ _ _ (show b0 ≠ b0 + 3 by omega)]
    exact kS
  · rw [Below.heap_setCell _ _ _ _ (show b0 + 1 ≠ b0 + 4 by omega), Below.heap_setCell _ _ _ _ (show b0 + 1 ≠ b0 + 3 by omega)]
    exact kBy
  · rw [Below.heap_setCell _ _ _ _ (show b0 + 3 ≠ b0 + 4 by omega), HSTEP.out]
    exact blk_put (cs := #[.int .i64 (fr : Nat)]) BF8.out 0 _ rfl
  · refine blk_put (cs := #[.int .i64 (pre.length : Nat)]) ?_ 0 _ ?_
    · rw [Below.heap_setCell _ _ _ _ (show b0 + 4 ≠ b0 + 3 by omega)]
      exact BN8.out
    · simp
  · have l1 := HN4.out
    have l2 := HBEL6.out.size
    exact (((((HB.out.trans (HB5.out.mono (by omega))).trans HBEL6.out).trans (HBEL7.out.mono (by have := HB5.out.size; omega))).trans HBEL8.out).setCell (p := ⟨b0 + 3, 0, none⟩) (by show b0 ≤ b0 + 3; omega) _).setCell (p := ⟨b0 + 4, 0, none⟩) (by show b0 ≤ b0 + 4; omega) _
  · intro j cs hj
    have hj5 := blk_kept HB5.out hj
    have n2 : j ≠ b0 + 2 := by
      rintro rfl
      obtain ⟨hB, v, hb, _⟩ := HI8.out
      have hlt : b0 + 2 < W.heap.size := (Array.getElem?_eq_some_iff.1 hj).1
      rcases HI.out with ⟨_, v, hb, _⟩ | ⟨_, v, hb, _⟩ <;> (rw [hj] at hb; cases hb)
    have n3 : j ≠ b0 + 3 := by
      rintro rfl
      rw [HF.out] at hj
      cases hj
    have n4 : j ≠ b0 + 4 := by
      rintro rfl
      rw [HN.out] at hj
      cases hj
    rw [Below.heap_setCell _ _ _ _ n4, Below.heap_setCell _ _ _ _ n3]
    exact KP.out j _ hj5 (fun e => n2 (Option.some.inj e)) (fun c fz e => by cases e)
end Go.Proofs.Ytilpbfbnnmclhaa.P
