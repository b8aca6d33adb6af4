/-
  No cell of these rows narrows 'for every input' (looked for: loops, veiled, ifaces, maps, wideKeys, modest, calm, conditions, laid).
  DERIVED. THE GIVEN ROWS OF THIS SEAT. 3 by the template 'for every input the law returns true; each argument reads behind the call as it read before'; 0 by the template 'total and deterministic' (their statements: YthmbbkbmlnaghaaTotals.lean).
  GIVEN WITH THE SEED: the statements are not yours to turn. If you find one false, say at which input.
  Laid BY PROGRAM, IN A SANDBOX (cutbox-rows.mjs): the forced cells as the released guide's own fill.sh prints them over the translation 4357bbbdf99d1ca4… (all of the seat's roots in one cut). By AI agents, Wed Nov 11 2026. No macro, syntax, notation, axiom, sorry.
-/
import Derived.Test.YthmbbkbmlnaghaaChecked
import GoSem.Claim
import GoSem.ClaimJoined
import GoSem.ClaimMapViews
import Derived.JoinedTies
import Derived.KernelRfl
namespace Go.Proofs.Ythmbbkbmlnaghaa
/- THE CELL 'sum', in the pinned program and in every row, IS THE sha256 OF THE DUMP (.gsa) THAT YthmbbkbmlnaghaaProg.lean LOADS. Nothing in Lean hashes anything: it is a label: what it is worth is what the hold of that sum in a sandbox is worth. -/
noncomputable def Try.pinned : Pinned := { name := "ythmbbkbmlnaghaa", sum := "4357bbbdf99d1ca43342a72c53c33bdb84244a4033bddcdd5f7e0f4aab0187fe", checked := Try.checked }
namespace Rows
def none {H : Type} : Left H := { results := [], args := [] }

/-- 'sievelaw05.EntityAll': WHATEVER THE INPUT: true; the input reads as it did. -/
def entityAllSpec : ChangeSpec := { name := "entityAll", fn := fun _ => fun
  | [d1, d2] => { results := [.lit (.bool true)], args := [d1, d2] }
  | _ => none }
def entityAllRow : OpenClaim := { program := "ythmbbkbmlnaghaa", sum := "4357bbbdf99d1ca43342a72c53c33bdb84244a4033bddcdd5f7e0f4aab0187fe", func := "sieve/sievelaw05.EntityAll", spec := "entityAll", unfollowed := true, recurses := true, apart := false }
def EntityAllSaid : Prop := entityAllRow.holds Try.pinned (OpenSpec.ofChange entityAllSpec)

/-- ITS FALSE NEIGHBOUR: 'it returns false'. Refute it at one input. -/
def entityAllWrong : ChangeSpec := { name := "entityAll", fn := fun _ => fun
  | [d1, d2] => { results := [.lit (.bool false)], args := [d1, d2] }
  | _ => none }
def EntityAllWrongFalsely : Prop := entityAllRow.holds Try.pinned (OpenSpec.ofChange entityAllWrong)

/-- 'sievelaw05.EntityEncodes': WHATEVER THE INPUT: true; the input reads as it did. -/
def entityEncodesSpec : ChangeSpec := { name := "entityEncodes", fn := fun _ => fun
  | [d] => { results := [.lit (.bool true)], args := [d] }
  | _ => none }
def entityEncodesRow : OpenClaim := { program := "ythmbbkbmlnaghaa", sum := "4357bbbdf99d1ca43342a72c53c33bdb84244a4033bddcdd5f7e0f4aab0187fe", func := "sieve/sievelaw05.EntityEncodes", spec := "entityEncodes", inPlace := ["internal/abi.NoEscape"], unfollowed := true, recurses := true, apart := false }
def EntityEncodesSaid : Prop := entityEncodesRow.holds Try.pinned (OpenSpec.ofChange entityEncodesSpec)

/-- ITS FALSE NEIGHBOUR: 'it returns false'. Refute it at one input. -/
def entityEncodesWrong : ChangeSpec := { name := "entityEncodes", fn := fun _ => fun
  | [d] => { results := [.lit (.bool false)], args := [d] }
  | _ => none }
def EntityEncodesWrongFalsely : Prop := entityEncodesRow.holds Try.pinned (OpenSpec.ofChange entityEncodesWrong)

/-- 'sievelaw06.CharrefDecodes': WHATEVER THE INPUT: true; the input reads as it did. -/
def charrefDecodesSpec : ChangeSpec := { name := "charrefDecodes", fn := fun _ => fun
  | [d1, d2, d3] => { results := [.lit (.bool true)], args := [d1, d2, d3] }
  | _ => none }
def charrefDecodesRow : OpenClaim := { program := "ythmbbkbmlnaghaa", sum := "4357bbbdf99d1ca43342a72c53c33bdb84244a4033bddcdd5f7e0f4aab0187fe", func := "sieve/sievelaw06.CharrefDecodes", spec := "charrefDecodes", inPlace := ["internal/abi.NoEscape"], unfollowed := true, recurses := true, apart := false }
def CharrefDecodesSaid : Prop := charrefDecodesRow.holds Try.pinned (OpenSpec.ofChange charrefDecodesSpec)

/-- ITS FALSE NEIGHBOUR: 'it returns false'. Refute it at one input. -/
def charrefDecodesWrong : ChangeSpec := { name := "charrefDecodes", fn := fun _ => fun
  | [d1, d2, d3] => { results := [.lit (.bool false)], args := [d1, d2, d3] }
  | _ => none }
def CharrefDecodesWrongFalsely : Prop := charrefDecodesRow.holds Try.pinned (OpenSpec.ofChange charrefDecodesWrong)

/- THE SECOND FORM. 'bulk': how many values and letters a reading holds, each counted each time it is reached (what is shared counts as often as it is met; a slice's spare places count too). A statement '..UptoSaid' is the law's where the arguments, and the package variables that the reading takes, are together of bulk at most 1048576: NARROWER than '..Said'. Prove '..Said' where nothing that the law and all that it calls make is longer than what came in: it says more and counts as full. Else prove '..UptoSaid'. A law counts once. -/
mutual
def uptoBulk {H : Type} : DataW H → Nat
  | .lit (.string bytes) => bytes.length + 1
  | .lit _ => 1
  | .nil => 1
  | .ptr d => uptoBulk d + 1
  | .slice elems spare => uptoBulkAll elems + uptoBulkAll spare + 1
  | .agg parts => uptoBulkAll parts + 1
  | .iface _ d => uptoBulk d + 1
  | .map entries => uptoBulkEntries entries + 1
  | .held _ => 1
def uptoBulkAll {H : Type} : List (DataW H) → Nat
  | [] => 0
  | d :: r => uptoBulk d + uptoBulkAll r
def uptoBulkEntries {H : Type} : List (Lit × DataW H) → Nat
  | [] => 0
  | x :: r => uptoBulkEntry x + uptoBulkEntries r
def uptoBulkEntry {H : Type} : Lit × DataW H → Nat
  | (.string bytes, d) => bytes.length + uptoBulk d + 1
  | (_, d) => uptoBulk d + 1
 end
def uptoSmall : (H : Type) → List (DataW H) → Bool := fun _ ds => decide (uptoBulkAll ds ≤ 1048576)
def OpenSpec.upto (s : _root_.Go.ChangeSpec) : _root_.Go.OpenSpec := { _root_.Go.OpenSpec.ofChange s with cond := some uptoSmall }

/-- 'sievelaw05.EntityAll', WHERE WHAT IT READS IS OF BULK AT MOST 1048576: true; the input reads as it did. -/
def entityAllUptoRow : OpenClaim := { program := "ythmbbkbmlnaghaa", sum := "4357bbbdf99d1ca43342a72c53c33bdb84244a4033bddcdd5f7e0f4aab0187fe", func := "sieve/sievelaw05.EntityAll", spec := "entityAll", unfollowed := true, recurses := true, apart := false, narrowed := true }
def EntityAllUptoSaid : Prop := entityAllUptoRow.holds Try.pinned (OpenSpec.upto entityAllSpec)

/-- 'sievelaw05.EntityEncodes', WHERE WHAT IT READS IS OF BULK AT MOST 1048576: true; the input reads as it did. -/
def entityEncodesUptoRow : OpenClaim := { program := "ythmbbkbmlnaghaa", sum := "4357bbbdf99d1ca43342a72c53c33bdb84244a4033bddcdd5f7e0f4aab0187fe", func := "sieve/sievelaw05.EntityEncodes", spec := "entityEncodes", inPlace := ["internal/abi.NoEscape"], unfollowed := true, recurses := true, apart := false, narrowed := true }
def EntityEncodesUptoSaid : Prop := entityEncodesUptoRow.holds Try.pinned (OpenSpec.upto entityEncodesSpec)

/-- 'sievelaw06.CharrefDecodes', WHERE WHAT IT READS IS OF BULK AT MOST 1048576: true; the input reads as it did. -/
def charrefDecodesUptoRow : OpenClaim := { program := "ythmbbkbmlnaghaa", sum := "4357bbbdf99d1ca43342a72c53c33bdb84244a4033bddcdd5f7e0f4aab0187fe", func := "sieve/sievelaw06.CharrefDecodes", spec := "charrefDecodes", inPlace := ["internal/abi.NoEscape"], unfollowed := true, recurses := true, apart := false, narrowed := true }
def CharrefDecodesUptoSaid : Prop := charrefDecodesUptoRow.holds Try.pinned (OpenSpec.upto charrefDecodesSpec)

end Rows
end Go.Proofs.Ythmbbkbmlnaghaa
