-- PRINTED by this session's wip/xprint.py over the kit's print.py. Not trusted: Lean checks it.
import Derived.Test.YtilpbfbnnmclhaaPA0
import Derived.Test.YtilpbfbnnmclhaaHdec
namespace Go.Proofs.Ytilpbfbnnmclhaa.P
open Go.RowKit Go.Proofs.YtilpbfbnnmclhaaW.PrintWords Go.Proofs.YtilpbfbnnmclhaaW.PrintLast Go.Proofs.YtilpbfbnnmclhaaW.PrintMore
attribute [local go_sem] max2_int min2_int max_two min_two max_three min_three max_four min_four   -- for this text's walks alone
set_option linter.unusedVariables false
set_option linter.unusedSimpArgs false

/-! ### sievelaw06_awake: function 11 -/
def sievelaw06_awake.f (k : Nat)  : Option (Bool) := (charref_Decode.f k (⟨#[97, 38, 99, 111, 112, 121, 61, 49, 38, 35, 120, 52, 49, 59]⟩ : ByteArray) true).bind fun t307 => (if t307.toList = ([97, 38, 99, 111, 112, 121, 61, 49, 65] : List UInt8) then ((charref_Decode.f k (⟨#[38, 97, 109, 112, 59, 38, 108, 116, 59]⟩ : ByteArray) false).bind fun t308 => (some (t308.toList == ([38, 60] : List UInt8)))) else (some false))
theorem sievelaw06_awake.mono : ∀ k, LeO (sievelaw06_awake.f k ) (sievelaw06_awake.f (k + 1) ) := by
  intro  k
  unfold sievelaw06_awake.f
  repeat' first
      | (with_reducible exact charref_Decode.mono _ _ _)
      | (with_reducible exact LeO.refl _)
      | (with_reducible exact LeO.none _)
      | (with_reducible refine LeO.ite ?_ ?_)
      | (with_reducible refine LeO.bind ?_ (fun _ => ?_))
      | exact charref_Decode.mono _ _ _
      | exact LeO.none _
      | refine LeO.ite ?_ ?_
      | refine LeO.bind ?_ (fun _ => ?_)
set_option maxHeartbeats 8000000 in
set_option maxRecDepth 100000 in
theorem sievelaw06_awake.calls (k : Nat)  (r : Bool) (w : World) (h : sievelaw06_awake.f k  = some r) :
    Calls Try.prog 11 #[] w fun e w' => e = .returned (.bool r) ∧ Below w.heap.size w w' := by
  have HB := Aside0.mk (Below.refl w.heap.size w)
  have H : ((charref_Decode.f k (⟨#[97, 38, 99, 111, 112, 121, 61, 49, 38, 35, 120, 52, 49, 59]⟩ : ByteArray) true).bind fun t307 => (if t307.toList = ([97, 38, 99, 111, 112, 121, 61, 49, 65] : List UInt8) then ((charref_Decode.f k (⟨#[38, 97, 109, 112, 59, 38, 108, 116, 59]⟩ : ByteArray) false).bind fun t308 => (some (t308.toList == ([38, 60] : List UInt8)))) else (some false))) = some r := h
  clear h
  replace H := Option.bind_eq_some_iff.mp H
  obtain ⟨t307, A10, H⟩ := H
  replace H : (if t307.toList = ([97, 38, 99, 111, 112, 121, 61, 49, 65] : List UInt8) then ((charref_Decode.f k (⟨#[38, 97, 109, 112, 59, 38, 108, 116, 59]⟩ : ByteArray) false).bind fun t308 => (some (t308.toList == ([38, 60] : List UInt8)))) else (some false)) = some r := H
  have A1 := Aside0.mk A10
  clear A10
  by_cases c2 : t307.toList = ([97, 38, 99, 111, 112, 121, 61, 49, 65] : List UInt8)
  · rw [if_pos c2] at H
    have c2b0 : (t307.toList == ([97, 38, 99, 111, 112, 121, 61, 49, 65] : List UInt8)) = true := beq_iff_eq.mpr c2
    have c2b1 : (t307.toList != ([97, 38, 99, 111, 112, 121, 61, 49, 65] : List UInt8)) = false := bne_eq_false_iff_eq.mpr c2
    clear c2
    replace H := Option.bind_eq_some_iff.mp H
    obtain ⟨t308, A30, H⟩ := H
    replace H : (some (t308.toList == ([38, 60] : List UInt8))) = some r := H
    have A3 := Aside0.mk A30
    clear A30
    obtain rfl := Option.some.inj H
    go_enter Try.func11, Try.ntmps11
    go_wp2_with (first | ((with_reducible refine gate_callee (f := 18) rfl ?_); refine goesL_ (some 1) rfl rfl Try.func18 (by kernel_rfl) rfl #[.string (⟨#[97, 38, 99, 111, 112, 121, 61, 49, 38, 35, 120, 52, 49, 59]⟩ : ByteArray), .bool true] rfl (by (try simp only [List.map_toArray, List.map_cons, List.map_nil]); first | done | rfl | (simp only [List.length_drop, List.length_take]; rfl) | (simp [*] <;> rfl)) ?_; (with_reducible refine (charref_Decode.calls k (⟨#[97, 38, 99, 111, 112, 121, 61, 49, 38, 35, 120, 52, 49, 59]⟩ : ByteArray) true t307 _ A1.out).mono ?_); rintro e w4 ⟨rfl, hb⟩; refine ⟨_, rfl, ?_⟩; have n0_ := Aside0.mk (below_step (by repeat (first | (with_reducible first | exact HB.out | apply below_alloc | apply pw_below_drewN | apply below_drew1) | exact HB.out)) hb); clear HB; have HB := n0_; clear n0_; (try clear hb); (try clear hb2); (try clear hk); (try clear hi)) | (go_at_call 18; (with_reducible refine (charref_Decode.calls k (⟨#[38, 97, 109, 112, 59, 38, 108, 116, 59]⟩ : ByteArray) false t308 _ A3.out).mono ?_); rintro e w5 ⟨rfl, hb⟩; have n0_ := Aside0.mk (below_step (by repeat (first | (with_reducible first | exact HB.out | apply below_alloc | apply pw_below_drewN | apply below_drew1) | exact HB.out)) hb); clear HB; have HB := n0_; clear n0_; (try clear hb); (try clear hb2); (try clear hk); (try clear hi)))
    go_ret
    exact ⟨by first | rfl | (simp [errW_none, errW_some] <;> rfl) | (simp [*, errW_none, errW_some] <;> rfl), by repeat (first | (with_reducible first | exact HB.out | apply below_alloc | apply pw_below_drewN | apply below_drew1) | exact HB.out)⟩
  · rw [if_neg c2] at H
    have c2b0 : (t307.toList == ([97, 38, 99, 111, 112, 121, 61, 49, 65] : List UInt8)) = false := beq_eq_false_iff_ne.mpr c2
    have c2b1 : (t307.toList != ([97, 38, 99, 111, 112, 121, 61, 49, 65] : List UInt8)) = true := bne_iff_ne.mpr c2
    obtain rfl := Option.some.inj H
    go_enter Try.func11, Try.ntmps11
    go_wp2_with (first | ((with_reducible refine gate_callee (f := 18) rfl ?_); refine goesL_ (some 1) rfl rfl Try.func18 (by kernel_rfl) rfl #[.string (⟨#[97, 38, 99, 111, 112, 121, 61, 49, 38, 35, 120, 52, 49, 59]⟩ : ByteArray), .bool true] rfl (by (try simp only [List.map_toArray, List.map_cons, List.map_nil]); first | done | rfl | (simp only [List.length_drop, List.length_take]; rfl) | (simp [*] <;> rfl)) ?_; (with_reducible refine (charref_Decode.calls k (⟨#[97, 38, 99, 111, 112, 121, 61, 49, 38, 35, 120, 52, 49, 59]⟩ : ByteArray) true t307 _ A1.out).mono ?_); rintro e w6 ⟨rfl, hb⟩; refine ⟨_, rfl, ?_⟩; have n0_ := Aside0.mk (below_step (by repeat (first | (with_reducible first | exact HB.out | apply below_alloc | apply pw_below_drewN | apply below_drew1) | exact HB.out)) hb); clear HB; have HB := n0_; clear n0_; (try clear hb); (try clear hb2); (try clear hk); (try clear hi)))
    go_ret
    exact ⟨by first | rfl | (simp [errW_none, errW_some] <;> rfl) | (simp [*, errW_none, errW_some] <;> rfl), by repeat (first | (with_reducible first | exact HB.out | apply below_alloc | apply pw_below_drewN | apply below_drew1) | exact HB.out)⟩

end Go.Proofs.Ytilpbfbnnmclhaa.P
