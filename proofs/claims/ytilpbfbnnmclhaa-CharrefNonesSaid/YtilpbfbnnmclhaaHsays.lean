/-
  What a number says: the contract of 'charref.says' (numbers from 0 on), over the array of 'charref.windows'.
-/
import Derived.Test.YtilpbfbnnmclhaaPA0
import Derived.Deep.WholeRow
namespace Go.Proofs.Ytilpbfbnnmclhaa.P
open Go.RowKit Go.Proofs.YtilpbfbnnmclhaaW.PrintWords Go.Proofs.YtilpbfbnnmclhaaW.PrintLast Go.Proofs.YtilpbfbnnmclhaaW.PrintMore
set_option linter.unusedVariables false
set_option linter.unusedSimpArgs false

def winL : List Int := [8364, 129, 8218, 402, 8222, 8230, 8224, 8225, 710, 8240, 352, 8249, 338, 141, 381, 143, 144, 8216, 8217, 8220, 8221, 8226, 8211, 8212, 732, 8482, 353, 8250, 339, 157, 382, 376]
def winC : Array Value := #[.int .i32 8364, .int .i32 129, .int .i32 8218, .int .i32 402, .int .i32 8222, .int .i32 8230, .int .i32 8224, .int .i32 8225, .int .i32 710, .int .i32 8240, .int .i32 352, .int .i32 8249, .int .i32 338, .int .i32 141, .int .i32 381, .int .i32 143, .int .i32 144, .int .i32 8216, .int .i32 8217, .int .i32 8220, .int .i32 8221, .int .i32 8226, .int .i32 8211, .int .i32 8212, .int .i32 732, .int .i32 8482, .int .i32 353, .int .i32 8250, .int .i32 339, .int .i32 157, .int .i32 382, .int .i32 376]
def winZ : Array Value := #[.int .i32 0, .int .i32 0, .int .i32 0, .int .i32 0, .int .i32 0, .int .i32 0, .int .i32 0, .int .i32 0, .int .i32 0, .int .i32 0, .int .i32 0, .int .i32 0, .int .i32 0, .int .i32 0, .int .i32 0, .int .i32 0, .int .i32 0, .int .i32 0, .int .i32 0, .int .i32 0, .int .i32 0, .int .i32 0, .int .i32 0, .int .i32 0, .int .i32 0, .int .i32 0, .int .i32 0, .int .i32 0, .int .i32 0, .int .i32 0, .int .i32 0, .int .i32 0]
def winP : Array (Nat × Value) := #[(0, .int .i32 8364), (1, .int .i32 129), (2, .int .i32 8218), (3, .int .i32 402), (4, .int .i32 8222), (5, .int .i32 8230), (6, .int .i32 8224), (7, .int .i32 8225), (8, .int .i32 710), (9, .int .i32 8240), (10, .int .i32 352), (11, .int .i32 8249), (12, .int .i32 338), (13, .int .i32 141), (14, .int .i32 381), (15, .int .i32 143), (16, .int .i32 144), (17, .int .i32 8216), (18, .int .i32 8217), (19, .int .i32 8220), (20, .int .i32 8221), (21, .int .i32 8226), (22, .int .i32 8211), (23, .int .i32 8212), (24, .int .i32 732), (25, .int .i32 8482), (26, .int .i32 353), (27, .int .i32 8250), (28, .int .i32 339), (29, .int .i32 157), (30, .int .i32 382), (31, .int .i32 376)]
def winV : Value := .agg winC
theorem win_size : winC.size = 32 := rfl
theorem winZ_size : winZ.size = 32 := rfl
theorem win_one : winC.all (·.oneCell') = true := by kernel_rfl
theorem win_info : (Try.prog.info? 115).map (fun i => (i.zero, i.size)) = some (some (.agg winZ), 32) := by kernel_rfl
theorem win_under : Try.prog.underlying 115 = some (.array 32 21) := by kernel_rfl
theorem run_build_win (w : World) : (Instr.build 115 winP).run Try.prog w = .ok winV w := by kernel_rfl
theorem win_alloc (w : World) : (Instr.alloc 115 true (.tuple #[])).run Try.prog w = .ok (.pointer (some ⟨w.heap.size, 0, none⟩)) (w.alloc (.cells winZ 115)) := by
  have hz := (zero_of_info win_info).1 w
  simp [Instr.alloc, hz, go_sem, newVar, newRow, newObj, Value.cells]
  rfl

noncomputable def winOps1 : Array Oper := match Try.f86.body with
  | some (.seq (.region _ ops _) _) => ops
  | _ => #[]
noncomputable def winOps2 : Array Oper := match Try.f86.body with
  | some (.seq _ (.seq (.region _ ops _) _)) => ops
  | _ => #[]
theorem win_body : Try.f86.body = some (.seq (.region 0 winOps1 false) (.seq (.region 1 winOps2 false) .ret)) := by kernel_rfl
def winChk1 (l : List Oper) : Bool := match l with
  | [⟨some d, .alloc t, _, _, _, none⟩] => d == 0 && t == 115
  | _ => false
def winChk2 (l : List Oper) : Option (Array (Nat × Operand)) := match l with
  | [⟨some d, .build t ps, _, _, _, none⟩, ⟨none, .store t' (.tmp x) (.tmp y), _, _, _, none⟩] => if (d == 1 && t == 115 && t' == 115 && x == 0 && y == 1) = true then some ps else none
  | _ => none
def winOper : Nat × Operand → Option (Nat × Value)
  | (i, .const v) => some (i, v)
  | _ => none
theorem winChk1_ok : winChk1 winOps1.toList = true := by kernel_rfl
noncomputable def winPs : Array (Nat × Operand) := match winOps2.toList with
  | ⟨_, .build _ ps, _, _, _, _⟩ :: _ => ps
  | _ => #[]
theorem winChk2_ok : winChk2 winOps2.toList = some winPs := by kernel_rfl
theorem winPs_val (a : Act) : winPs.map (fun (i, x) => (i, a.eval x)) = winP := by kernel_rfl
theorem winChk1_some {l : List Oper} (h : winChk1 l = true) : ∃ ty pos after, l = [⟨some 0, .alloc 115, ty, pos, after, none⟩] := by
  unfold winChk1 at h
  split at h
  · rename_i d t ty pos after
    simp only [Bool.and_eq_true, beq_iff_eq] at h
    obtain ⟨rfl, rfl⟩ := h
    exact ⟨_, _, _, rfl⟩
  · cases h
theorem winChk2_some {l : List Oper} {ps : Array (Nat × Operand)} (h : winChk2 l = some ps) :
    ∃ ty pos after ty' pos' after', l = [⟨some 1, .build 115 ps, ty, pos, after, none⟩, ⟨none, .store 115 (.tmp 0) (.tmp 1), ty', pos', after', none⟩] := by
  unfold winChk2 at h
  split at h
  · rename_i d t ps' ty pos after t' x y ty' pos' after'
    split at h
    · rename_i hc
      simp only [Bool.and_eq_true, beq_iff_eq] at hc
      obtain ⟨⟨⟨⟨rfl, rfl⟩, rfl⟩, rfl⟩, rfl⟩ := hc
      injection h with h
      subst h
      exact ⟨_, _, _, _, _, _, rfl⟩
    · cases h
  · cases h

theorem win_calls (w : World) : Calls Try.prog 86 #[] w fun e w' => e = .returned winV ∧ Below w.heap.size w w' := by
  have hsz := win_size
  have hszZ := winZ_size
  have hone := win_one
  have hbld := run_build_win
  have hal := win_alloc w
  have hpv := winPs_val
  have hinf := (zero_of_info win_info).2
  have hun := win_under
  unfold winV at hbld ⊢
  generalize winC = C at hsz hone hbld ⊢
  generalize winZ = Z at hszZ hal
  generalize winP = PP at hbld hpv
  refine calls_of_wp Try.func86 win_body ?_
  refine (fun (h : ∀ a0 : Act, a0.tmps.size = 2 → a0.defers = [] → Code.wp _ _ _ a0 w) => h _ (by simp [Try.ntmps86]) rfl) ?_
  intro a0 hs0 hd0
  apply wp_seq_k; intro K1 hK1
  refine wp_region_list ?_
  obtain ⟨ty, pos, after, h1⟩ := winChk1_some winChk1_ok
  rw [h1]
  refine wpList_plain rfl fun K hK => ?_
  unfold Oper.wp
  simp only [execOp, Sem.run_bind, hal, Result.andThen_ok, Sem.run_pure]
  refine hK _ _ (wpList_nil (hK1 _ _ ?_))
  clear hK hK1 K K1
  apply wp_seq_k; intro K1 hK1
  refine wp_region_list ?_
  obtain ⟨ty2, pos2, after2, ty3, pos3, after3, h2⟩ := winChk2_some winChk2_ok
  rw [h2]
  refine wpList_plain rfl fun K hK => ?_
  unfold Oper.wp
  simp only [execOp, Sem.run_bind, hpv, hbld, Result.andThen_ok, Sem.run_pure]
  refine hK _ _ ?_
  clear hK K
  refine wpList_plain rfl fun K hK => ?_
  have e0 : Act.eval (Act.put (Act.put a0 (some 0) (Value.pointer (some ⟨w.heap.size, 0, none⟩))) (some 1) (Value.agg C)) (.tmp 0) = Value.pointer (some ⟨w.heap.size, 0, none⟩) := by
    simp [Act.eval, Act.put, hs0, Array.getD_eq_getD_getElem?, Array.getElem?_setIfInBounds]
  have e1 : Act.eval (Act.put (Act.put a0 (some 0) (Value.pointer (some ⟨w.heap.size, 0, none⟩))) (some 1) (Value.agg C)) (.tmp 1) = Value.agg C := by
    simp [Act.eval, Act.put, hs0, Array.getD_eq_getD_getElem?, Array.getElem?_setIfInBounds]
  have hst := run_storeAt_new (P := Try.prog) w 115 Z C (by rw [hinf, hsz]) (by rw [hszZ, hsz]) hone
  unfold Oper.wp
  simp only [execOp, e0, e1, Sem.run_bind, hst, Result.andThen_ok, Sem.run_pure]
  refine hK _ _ (wpList_nil (hK1 _ _ ?_))
  apply wp_ret
  refine bodyPost_ret (v := .agg C) ?_ ?_ ⟨rfl, (Below.refl _ _).alloc (Nat.le_refl _) _⟩
  · refine results_cell_row Try.results86 _ _ w.heap.size 115 C (0, 0) _ ?_ (heap_alloc_new w _) hun rfl (by rw [hinf, hsz])
    simp [Act.put, hs0, Array.getD_eq_getD_getElem?, Array.getElem?_setIfInBounds]
  · simp [Act.put, hd0]

theorem win_index (k : Nat) (hk : k < 32) (w : World) : (Instr.index 115 winV (.int .i64 (k : Int))).run Try.prog w = .ok (.int .i32 (winL.getD k 0)) w := by
  rcases (show k = 0 ∨ k = 1 ∨ k = 2 ∨ k = 3 ∨ k = 4 ∨ k = 5 ∨ k = 6 ∨ k = 7 ∨ k = 8 ∨ k = 9 ∨ k = 10 ∨ k = 11 ∨ k = 12 ∨ k = 13 ∨ k = 14 ∨ k = 15 ∨ k = 16 ∨ k = 17 ∨ k = 18 ∨ k = 19 ∨ k = 20 ∨ k = 21 ∨ k = 22 ∨ k = 23 ∨ k = 24 ∨ k = 25 ∨ k = 26 ∨ k = 27 ∨ k = 28 ∨ k = 29 ∨ k = 30 ∨ k = 31 from by omega) with rfl | rfl | rfl | rfl | rfl | rfl | rfl | rfl | rfl | rfl | rfl | rfl | rfl | rfl | rfl | rfl | rfl | rfl | rfl | rfl | rfl | rfl | rfl | rfl | rfl | rfl | rfl | rfl | rfl | rfl | rfl | rfl
  all_goals kernel_rfl

def saysF (n : Int) : Int × Bool :=
  if n = 0 ∨ n > 1114111 ∨ (n ≥ 55296 ∧ n ≤ 57343) then (65533, false)
  else if n ≥ 128 ∧ n ≤ 159 then (winL.getD (n - 128).toNat 0, winL.getD (n - 128).toNat 0 == n)
  else (n, true)
def charref_says.f (n : Int) : Option (Int × Bool) := if 0 ≤ n ∧ n ≤ 9223372036854775807 then some (saysF n) else none


theorem win_at (n : Int) (h0 : 128 ≤ n) (h1 : n ≤ 159) (w : World) : (Instr.index 115 winV (.int .i64 (n - 128))).run Try.prog w = .ok (.int .i32 (winL.getD (n - 128).toNat 0)) w := by
  obtain ⟨k, hk⟩ : ∃ k : Nat, n - 128 = (k : Int) := ⟨(n - 128).toNat, by omega⟩
  rw [hk, Int.toNat_natCast]
  exact win_index k (by omega) w

set_option maxHeartbeats 1000000 in
theorem charref_says.calls (a0 : Int) (r1 : Int) (r2 : Bool) (w : World) (h : charref_says.f a0 = some (r1, r2)) :
    Calls Try.prog 78 #[.int .i64 a0] w fun e w' => e = .returned (.tuple #[.int .i32 r1, .bool r2]) ∧ Below w.heap.size w w' := by
  unfold charref_says.f at h
  split at h
  · rename_i hd
    obtain ⟨h0, h63⟩ := hd
    have h := Option.some.inj h
    unfold saysF at h
    split at h
    · rename_i hc
      injection h with e1 e2
      subst e1 e2
      have hB : Below w.heap.size w w := Below.refl _ _
      rcases hc with hc | hc | ⟨hc, hc'⟩
      · subst hc
        go_enter Try.func78, Try.ntmps78
        go_wp2
        go_ret2
        exact ⟨rfl, hB⟩
      · have d0 : (a0 == 0) = false := by simp; omega
        have d1 : decide (1114111 < a0) = true := by simpa using hc
        go_enter Try.func78, Try.ntmps78
        go_wp2
        go_ret2
        exact ⟨rfl, hB⟩
      · have d0 : (a0 == 0) = false := by simp; omega
        have d1 : decide (1114111 < a0) = false := by simp; omega
        go_enter Try.func78, Try.ntmps78
        go_wp2
        go_ret2
        exact ⟨rfl, hB⟩
    · rename_i hc
      have d0 : (a0 == 0) = false := by simp; omega
      have d1 : decide (1114111 < a0) = false := by simp; omega
      have hwr : wrap32 a0 = a0 := by unfold wrap32; omega
      split at h
      · rename_i hw
        obtain ⟨hw1, hw2⟩ := hw
        injection h with e1 e2
        have hat := win_at a0 hw1 hw2
        generalize winL.getD (a0 - 128).toNat 0 = r at e1 e2 hat
        subst e1
        have d2 : decide (55296 ≤ a0) = false := by simp; omega
        go_enter Try.func78, Try.ntmps78
        go_wp2_with (go_at_call 86; refine (win_calls _).mono ?_; rintro e w' ⟨rfl, hb⟩)
        go_ret2
        exact ⟨by rw [← e2]; simp [hwr], by assumption⟩
      · rename_i hw
        injection h with e1 e2
        subst e1 e2
        have hB : Below w.heap.size w w := Below.refl _ _
        by_cases hlo : 55296 ≤ a0
        · have d3 : decide (a0 ≤ 57343) = false := by simp; omega
          go_enter Try.func78, Try.ntmps78
          go_wp2
          go_ret2
          exact ⟨by simp [hwr], hB⟩
        · have d2 : decide (55296 ≤ a0) = false := by simp; omega
          by_cases h8 : 128 ≤ a0
          · have d3 : decide (a0 ≤ 159) = false := by simp; omega
            go_enter Try.func78, Try.ntmps78
            go_wp2
            go_ret2
            exact ⟨by simp [hwr], hB⟩
          · go_enter Try.func78, Try.ntmps78
            go_wp2
            go_ret2
            exact ⟨by simp [hwr], hB⟩
  · cases h
end Go.Proofs.Ytilpbfbnnmclhaa.P
