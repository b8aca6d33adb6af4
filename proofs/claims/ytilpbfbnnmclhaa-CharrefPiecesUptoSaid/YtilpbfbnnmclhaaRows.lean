/-
  No cell of these rows narrows 'for every input' (looked for: loops, veiled, ifaces, maps, wideKeys, modest, calm, conditions, laid).
  DERIVED. THE GIVEN ROWS OF THIS SEAT. 7 by the template 'for every input the law returns true; each argument reads behind the call as it read before'; 0 by the template 'total and deterministic' (their statements: YtilpbfbnnmclhaaTotals.lean).
  GIVEN WITH THE SEED: the statements are not yours to turn. If you find one false, say at which input.
  Laid BY PROGRAM, IN A SANDBOX (cutbox-rows.mjs): the forced cells as the released guide's own fill.sh prints them over the translation e1a1a517dc165390… (all of the seat's roots in one cut). By AI agents, Wed Nov 11 2026. No macro, syntax, notation, axiom, sorry.
-/
import Derived.Test.YtilpbfbnnmclhaaChecked
import GoSem.Claim
import GoSem.ClaimJoined
import GoSem.ClaimMapViews
import Derived.JoinedTies
import Derived.KernelRfl
namespace Go.Proofs.Ytilpbfbnnmclhaa
/- THE CELL 'sum', in the pinned program and in every row, IS THE sha256 OF THE DUMP (.gsa) THAT YtilpbfbnnmclhaaProg.lean LOADS. Nothing in Lean hashes anything: it is a label: what it is worth is what the hold of that sum in a sandbox is worth. -/
noncomputable def Try.pinned : Pinned := { name := "ytilpbfbnnmclhaa", sum := "e1a1a517dc16539016533d7691c97d3d095b1b8ade714b95a13144c84197245b", checked := Try.checked }
namespace Rows
def none {H : Type} : Left H := { results := [], args := [] }

/-- 'sievelaw06.CharrefNames': WHATEVER THE INPUT: true; the input reads as it did. -/
def charrefNamesSpec : ChangeSpec := { name := "charrefNames", fn := fun _ => fun
  | [] => { results := [.lit (.bool true)], args := [] }
  | _ => none }
def charrefNamesRow : OpenClaim := { program := "ytilpbfbnnmclhaa", sum := "e1a1a517dc16539016533d7691c97d3d095b1b8ade714b95a13144c84197245b", func := "sieve/sievelaw06.CharrefNames", spec := "charrefNames", inPlace := ["internal/abi.NoEscape"], unfollowed := true, recurses := true, apart := false }
def CharrefNamesSaid : Prop := charrefNamesRow.holds Try.pinned (OpenSpec.ofChange charrefNamesSpec)

/-- ITS FALSE NEIGHBOUR: 'it returns false'. Refute it at one input. -/
def charrefNamesWrong : ChangeSpec := { name := "charrefNames", fn := fun _ => fun
  | [] => { results := [.lit (.bool false)], args := [] }
  | _ => none }
def CharrefNamesWrongFalsely : Prop := charrefNamesRow.holds Try.pinned (OpenSpec.ofChange charrefNamesWrong)

/-- 'sievelaw06.CharrefNexts': WHATEVER THE INPUT: true; the input reads as it did. -/
def charrefNextsSpec : ChangeSpec := { name := "charrefNexts", fn := fun _ => fun
  | [d1, d2, d3] => { results := [.lit (.bool true)], args := [d1, d2, d3] }
  | _ => none }
def charrefNextsRow : OpenClaim := { program := "ytilpbfbnnmclhaa", sum := "e1a1a517dc16539016533d7691c97d3d095b1b8ade714b95a13144c84197245b", func := "sieve/sievelaw06.CharrefNexts", spec := "charrefNexts", inPlace := ["internal/abi.NoEscape"], unfollowed := true, recurses := true, apart := false }
def CharrefNextsSaid : Prop := charrefNextsRow.holds Try.pinned (OpenSpec.ofChange charrefNextsSpec)

/-- ITS FALSE NEIGHBOUR: 'it returns false'. Refute it at one input. -/
def charrefNextsWrong : ChangeSpec := { name := "charrefNexts", fn := fun _ => fun
  | [d1, d2, d3] => { results := [.lit (.bool false)], args := [d1, d2, d3] }
  | _ => none }
def CharrefNextsWrongFalsely : Prop := charrefNextsRow.holds Try.pinned (OpenSpec.ofChange charrefNextsWrong)

/-- 'sievelaw06.CharrefSure': WHATEVER THE INPUT: true; the input reads as it did. -/
def charrefSureSpec : ChangeSpec := { name := "charrefSure", fn := fun _ => fun
  | [d1, d2, d3] => { results := [.lit (.bool true)], args := [d1, d2, d3] }
  | _ => none }
def charrefSureRow : OpenClaim := { program := "ytilpbfbnnmclhaa", sum := "e1a1a517dc16539016533d7691c97d3d095b1b8ade714b95a13144c84197245b", func := "sieve/sievelaw06.CharrefSure", spec := "charrefSure", inPlace := ["internal/abi.NoEscape"], unfollowed := true, recurses := true, apart := false }
def CharrefSureSaid : Prop := charrefSureRow.holds Try.pinned (OpenSpec.ofChange charrefSureSpec)

/-- ITS FALSE NEIGHBOUR: 'it returns false'. Refute it at one input. -/
def charrefSureWrong : ChangeSpec := { name := "charrefSure", fn := fun _ => fun
  | [d1, d2, d3] => { results := [.lit (.bool false)], args := [d1, d2, d3] }
  | _ => none }
def CharrefSureWrongFalsely : Prop := charrefSureRow.holds Try.pinned (OpenSpec.ofChange charrefSureWrong)

/-- 'sievelaw06.CharrefDecodes': WHATEVER THE INPUT: true; the input reads as it did. -/
def charrefDecodesSpec : ChangeSpec := { name := "charrefDecodes", fn := fun _ => fun
  | [d1, d2, d3] => { results := [.lit (.bool true)], args := [d1, d2, d3] }
  | _ => none }
def charrefDecodesRow : OpenClaim := { program := "ytilpbfbnnmclhaa", sum := "e1a1a517dc16539016533d7691c97d3d095b1b8ade714b95a13144c84197245b", func := "sieve/sievelaw06.CharrefDecodes", spec := "charrefDecodes", inPlace := ["internal/abi.NoEscape"], unfollowed := true, recurses := true, apart := false }
def CharrefDecodesSaid : Prop := charrefDecodesRow.holds Try.pinned (OpenSpec.ofChange charrefDecodesSpec)

/-- ITS FALSE NEIGHBOUR: 'it returns false'. Refute it at one input. -/
def charrefDecodesWrong : ChangeSpec := { name := "charrefDecodes", fn := fun _ => fun
  | [d1, d2, d3] => { results := [.lit (.bool false)], args := [d1, d2, d3] }
  | _ => none }
def CharrefDecodesWrongFalsely : Prop := charrefDecodesRow.holds Try.pinned (OpenSpec.ofChange charrefDecodesWrong)

/-- 'sievelaw06.CharrefCuts': WHATEVER THE INPUT: true; the input reads as it did. -/
def charrefCutsSpec : ChangeSpec := { name := "charrefCuts", fn := fun _ => fun
  | [d1, d2] => { results := [.lit (.bool true)], args := [d1, d2] }
  | _ => none }
def charrefCutsRow : OpenClaim := { program := "ytilpbfbnnmclhaa", sum := "e1a1a517dc16539016533d7691c97d3d095b1b8ade714b95a13144c84197245b", func := "sieve/sievelaw06.CharrefCuts", spec := "charrefCuts", inPlace := ["internal/abi.NoEscape"], unfollowed := true, recurses := true, apart := false }
def CharrefCutsSaid : Prop := charrefCutsRow.holds Try.pinned (OpenSpec.ofChange charrefCutsSpec)

/-- ITS FALSE NEIGHBOUR: 'it returns false'. Refute it at one input. -/
def charrefCutsWrong : ChangeSpec := { name := "charrefCuts", fn := fun _ => fun
  | [d1, d2] => { results := [.lit (.bool false)], args := [d1, d2] }
  | _ => none }
def CharrefCutsWrongFalsely : Prop := charrefCutsRow.holds Try.pinned (OpenSpec.ofChange charrefCutsWrong)

/-- 'sievelaw06.CharrefNones': WHATEVER THE INPUT: true; the input reads as it did. -/
def charrefNonesSpec : ChangeSpec := { name := "charrefNones", fn := fun _ => fun
  | [d] => { results := [.lit (.bool true)], args := [d] }
  | _ => none }
def charrefNonesRow : OpenClaim := { program := "ytilpbfbnnmclhaa", sum := "e1a1a517dc16539016533d7691c97d3d095b1b8ade714b95a13144c84197245b", func := "sieve/sievelaw06.CharrefNones", spec := "charrefNones", inPlace := ["internal/abi.NoEscape"], unfollowed := true, recurses := true, apart := false }
def CharrefNonesSaid : Prop := charrefNonesRow.holds Try.pinned (OpenSpec.ofChange charrefNonesSpec)

/-- ITS FALSE NEIGHBOUR: 'it returns false'. Refute it at one input. -/
def charrefNonesWrong : ChangeSpec := { name := "charrefNones", fn := fun _ => fun
  | [d] => { results := [.lit (.bool false)], args := [d] }
  | _ => none }
def CharrefNonesWrongFalsely : Prop := charrefNonesRow.holds Try.pinned (OpenSpec.ofChange charrefNonesWrong)

/-- 'sievelaw06.CharrefPieces': WHATEVER THE INPUT: true; the input reads as it did. -/
def charrefPiecesSpec : ChangeSpec := { name := "charrefPieces", fn := fun _ => fun
  | [d1, d2, d3] => { results := [.lit (.bool true)], args := [d1, d2, d3] }
  | _ => none }
def charrefPiecesRow : OpenClaim := { program := "ytilpbfbnnmclhaa", sum := "e1a1a517dc16539016533d7691c97d3d095b1b8ade714b95a13144c84197245b", func := "sieve/sievelaw06.CharrefPieces", spec := "charrefPieces", inPlace := ["internal/abi.NoEscape"], unfollowed := true, recurses := true, apart := false }
def CharrefPiecesSaid : Prop := charrefPiecesRow.holds Try.pinned (OpenSpec.ofChange charrefPiecesSpec)

/-- ITS FALSE NEIGHBOUR: 'it returns false'. Refute it at one input. -/
def charrefPiecesWrong : ChangeSpec := { name := "charrefPieces", fn := fun _ => fun
  | [d1, d2, d3] => { results := [.lit (.bool false)], args := [d1, d2, d3] }
  | _ => none }
def CharrefPiecesWrongFalsely : Prop := charrefPiecesRow.holds Try.pinned (OpenSpec.ofChange charrefPiecesWrong)

/- THE SECOND FORM. 'bulk': how many values and letters a reading holds, each counted each time it is reached (what is shared counts as often as it is met; a slice's spare places count too). A statement '..UptoSaid' is the law's where the arguments, and the package variables that the reading takes, are together of bulk at most 1048576: NARROWER than '..Said'. Prove '..Said' where nothing that the law and all that it calls make is longer than what came in: it says more and counts as full. Else prove '..UptoSaid'. A law counts once. -/
mutual
def uptoBulk {H : Type} : DataW H → Nat
  | .lit (.string bytes) => bytes.length + 1
  | .lit _ => 1
  | .nil => 1
  | .ptr d => uptoBulk d + 1
  | .slice elems spare => uptoBulkAll elems + uptoBulkAll spare + 1
  | .agg parts => uptoBulkAll parts + 1
  | .iface _ d => uptoBulk d + 1
  | .map entries => uptoBulkEntries entries + 1
  | .held _ => 1
def uptoBulkAll {H : Type} : List (DataW H) → Nat
  | [] => 0
  | d :: r => uptoBulk d + uptoBulkAll r
def uptoBulkEntries {H : Type} : List (Lit × DataW H) → Nat
  | [] => 0
  | x :: r => uptoBulkEntry x + uptoBulkEntries r
def uptoBulkEntry {H : Type} : Lit × DataW H → Nat
  | (.string bytes, d) => bytes.length + uptoBulk d + 1
  | (_, d) => uptoBulk d + 1
 end
def uptoSmall : (H : Type) → List (DataW H) → Bool := fun _ ds => decide (uptoBulkAll ds ≤ 1048576)
def OpenSpec.upto (s : _root_.Go.ChangeSpec) : _root_.Go.OpenSpec := { _root_.Go.OpenSpec.ofChange s with cond := some uptoSmall }

/-- 'sievelaw06.CharrefNames', WHERE WHAT IT READS IS OF BULK AT MOST 1048576: true; the input reads as it did. -/
def charrefNamesUptoRow : OpenClaim := { program := "ytilpbfbnnmclhaa", sum := "e1a1a517dc16539016533d7691c97d3d095b1b8ade714b95a13144c84197245b", func := "sieve/sievelaw06.CharrefNames", spec := "charrefNames", inPlace := ["internal/abi.NoEscape"], unfollowed := true, recurses := true, apart := false, narrowed := true }
def CharrefNamesUptoSaid : Prop := charrefNamesUptoRow.holds Try.pinned (OpenSpec.upto charrefNamesSpec)

/-- 'sievelaw06.CharrefNexts', WHERE WHAT IT READS IS OF BULK AT MOST 1048576: true; the input reads as it did. -/
def charrefNextsUptoRow : OpenClaim := { program := "ytilpbfbnnmclhaa", sum := "e1a1a517dc16539016533d7691c97d3d095b1b8ade714b95a13144c84197245b", func := "sieve/sievelaw06.CharrefNexts", spec := "charrefNexts", inPlace := ["internal/abi.NoEscape"], unfollowed := true, recurses := true, apart := false, narrowed := true }
def CharrefNextsUptoSaid : Prop := charrefNextsUptoRow.holds Try.pinned (OpenSpec.upto charrefNextsSpec)

/-- 'sievelaw06.CharrefSure', WHERE WHAT IT READS IS OF BULK AT MOST 1048576: true; the input reads as it did. -/
def charrefSureUptoRow : OpenClaim := { program := "ytilpbfbnnmclhaa", sum := "e1a1a517dc16539016533d7691c97d3d095b1b8ade714b95a13144c84197245b", func := "sieve/sievelaw06.CharrefSure", spec := "charrefSure", inPlace := ["internal/abi.NoEscape"], unfollowed := true, recurses := true, apart := false, narrowed := true }
def CharrefSureUptoSaid : Prop := charrefSureUptoRow.holds Try.pinned (OpenSpec.upto charrefSureSpec)

/-- 'sievelaw06.CharrefDecodes', WHERE WHAT IT READS IS OF BULK AT MOST 1048576: true; the input reads as it did. -/
def charrefDecodesUptoRow : OpenClaim := { program := "ytilpbfbnnmclhaa", sum := "e1a1a517dc16539016533d7691c97d3d095b1b8ade714b95a13144c84197245b", func := "sieve/sievelaw06.CharrefDecodes", spec := "charrefDecodes", inPlace := ["internal/abi.NoEscape"], unfollowed := true, recurses := true, apart := false, narrowed := true }
def CharrefDecodesUptoSaid : Prop := charrefDecodesUptoRow.holds Try.pinned (OpenSpec.upto charrefDecodesSpec)

/-- 'sievelaw06.CharrefCuts', WHERE WHAT IT READS IS OF BULK AT MOST 1048576: true; the input reads as it did. -/
def charrefCutsUptoRow : OpenClaim := { program := "ytilpbfbnnmclhaa", sum := "e1a1a517dc16539016533d7691c97d3d095b1b8ade714b95a13144c84197245b", func := "sieve/sievelaw06.CharrefCuts", spec := "charrefCuts", inPlace := ["internal/abi.NoEscape"], unfollowed := true, recurses := true, apart := false, narrowed := true }
def CharrefCutsUptoSaid : Prop := charrefCutsUptoRow.holds Try.pinned (OpenSpec.upto charrefCutsSpec)

/-- 'sievelaw06.CharrefNones', WHERE WHAT IT READS IS OF BULK AT MOST 1048576: true; the input reads as it did. -/
def charrefNonesUptoRow : OpenClaim := { program := "ytilpbfbnnmclhaa", sum := "e1a1a517dc16539016533d7691c97d3d095b1b8ade714b95a13144c84197245b", func := "sieve/sievelaw06.CharrefNones", spec := "charrefNones", inPlace := ["internal/abi.NoEscape"], unfollowed := true, recurses := true, apart := false, narrowed := true }
def CharrefNonesUptoSaid : Prop := charrefNonesUptoRow.holds Try.pinned (OpenSpec.upto charrefNonesSpec)

/-- 'sievelaw06.CharrefPieces', WHERE WHAT IT READS IS OF BULK AT MOST 1048576: true; the input reads as it did. -/
def charrefPiecesUptoRow : OpenClaim := { program := "ytilpbfbnnmclhaa", sum := "e1a1a517dc16539016533d7691c97d3d095b1b8ade714b95a13144c84197245b", func := "sieve/sievelaw06.CharrefPieces", spec := "charrefPieces", inPlace := ["internal/abi.NoEscape"], unfollowed := true, recurses := true, apart := false, narrowed := true }
def CharrefPiecesUptoSaid : Prop := charrefPiecesUptoRow.holds Try.pinned (OpenSpec.upto charrefPiecesSpec)

end Rows
end Go.Proofs.Ytilpbfbnnmclhaa
