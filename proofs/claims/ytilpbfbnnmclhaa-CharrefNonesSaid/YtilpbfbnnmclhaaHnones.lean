/-
  sievelaw06.CharrefNones: decoders that no call made: the walk of the statement's own function.
-/
import Derived.Test.YtilpbfbnnmclhaaPA9
import Derived.LoopN
namespace Go.Proofs.Ytilpbfbnnmclhaa.P
open Go.RowKit Go.Proofs.YtilpbfbnnmclhaaW.PrintWords Go.Proofs.YtilpbfbnnmclhaaW.PrintLast Go.Proofs.YtilpbfbnnmclhaaW.PrintMore
set_option linter.unusedVariables false
set_option linter.unusedSimpArgs false

/-- the document's examples, reckoned by the kernel -/
theorem awake_true : sievelaw06_awake.f 400 = some true := by decide +kernel

set_option maxRecDepth 100000 in
set_option maxHeartbeats 8000000 in
theorem CharrefNones_walk (s : ByteArray) (w : World) :
    Calls Try.prog 8 #[.string s] w fun e w' => e = .returned (.bool true) ∧ Below w.heap.size w w' := by
  go_enter Try.func8, Try.ntmps8
  go_wp2
  refine wp_loop_rounds 3 ?_
  rw [rounds_succ]
  go_wp2
  rw [rounds_succ]
  go_wp2
  rw [rounds_succ]
  go_wp2_with (go_at_call 11; refine (sievelaw06_awake.calls 400 true _ awake_true).mono ?_; rintro e w9 ⟨rfl, hb9⟩)
  go_ret
  exact ⟨rfl, below_step (by repeat (first | (with_reducible first | exact Below.refl _ _ | apply below_alloc | apply pw_below_drewN | apply below_drew) | exact Below.refl _ _)) hb9⟩
end Go.Proofs.Ytilpbfbnnmclhaa.P
