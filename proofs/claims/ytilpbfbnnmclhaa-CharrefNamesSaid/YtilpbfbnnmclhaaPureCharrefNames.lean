/-
  The two examples of the document, and the errors' numbers: reckoned by the kernel.
-/
import Derived.Test.YtilpbfbnnmclhaaPA10
namespace Go.Proofs.Ytilpbfbnnmclhaa.Pure
open Go.RowKit Go.Proofs.Ytilpbfbnnmclhaa.P Go.Proofs.YtilpbfbnnmclhaaW.PrintWords Go.Proofs.YtilpbfbnnmclhaaW.PrintLast

theorem CharrefNames : sievelaw06_CharrefNames.Pure := ⟨400, by decide +kernel⟩

end Go.Proofs.Ytilpbfbnnmclhaa.Pure
