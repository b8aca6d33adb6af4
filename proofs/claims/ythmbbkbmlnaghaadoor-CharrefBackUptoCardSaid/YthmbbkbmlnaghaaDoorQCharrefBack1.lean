/-
  Part 2 of 6 of the proof's texts, joined: Shelf, PA0, Hkeep, Hfmt, Hbld, HbldR, HbldB, PA1, Hent, Hname, Hsays, Hconv.
  (Where a joined text began as one that the kit's print.sh printed, it is trimmed here to what this claim uses, by this session's pack.py.)
-/
import Derived.Test.YthmbbkbmlnaghaaDoorQCharrefBack0
import Derived.Shelf.Strings.Builder1
import Derived.Shelf.Strings.Builder2
import Derived.Shelf.Strings.OnBuilder
import Derived.Shelf.Small.Utf8
import Derived.Shelf.Strings.BuilderF
import Derived.Shelf.Strings.BuilderK
import Derived.Shelf.Strings.BuilderRune
import Derived.Shelf.Utf8.AppendRune
import Derived.Shelf.Strings.Builder2Cap
import Derived.Shelf.Strconv.Itoa0
import Derived.Shelf.Strconv.Itoa1
import Derived.Shelf.LaysM
import Derived.Shelf.Strconv.Itoa2
import Derived.Shelf.Strconv.Itoa3
import Derived.Shelf.Strconv.Itoa4
import Derived.Shelf.Unicode.Latin
import Derived.Shelf.Unicode.Decode
import Derived.Shelf.Unicode.DecodeSlow
import Derived.Shelf.Unicode.DecodeAny
import Derived.Shelf.Unicode.CaseLookup
import Derived.Shelf.Unicode.CaseConvert
import Derived.Shelf.Unicode.CaseTo
import Derived.Shelf.Unicode.CaseLaid
import Derived.Shelf.Strings.MapAny
import Derived.Shelf.Strings.CaseAny
import Derived.Shelf.Strings.BuilderCap
import Derived.Test.YthmbbkbmlnaghaaDoorProg
import Derived.Below
import Derived.Deep.Draws
import Derived.Deep.AppendLies
import Derived.Maps.AppendAt
import Derived.OwnWalk
import Derived.Laws.BytesArg
import Derived.Laws.MakeOwn
import Derived.Laws.OwnMore
import Derived.Deep.OwnRows
import Derived.Tactics
import Derived.Lib.ConvBytes
import Derived.Laws.Slices
import Derived.WalkKit
import Derived.KernelRfl
import Derived.RowKit3
import Derived.Deep.LoopGhost
import Derived.Deep.QuietTactic
import Derived.BigQuiet
import Derived.WideLaws
import Derived.Deep.DeepCutAuto
import Derived.Deep.CutBlock
import Derived.Deep.RegionHeld3
import Derived.Laws.Rows
import Derived.Lib.AppendStr
import Derived.ArgAppend
import Derived.Laws.IdiomCopy
import Derived.OrdersHeld
import Derived.Laws.BitsLemmas
import Derived.RowKit
import Derived.RangeFuncBox
import Derived.RangeFuncNested
import Derived.RangeFuncBound
import Derived.RangeFuncCalls
import Derived.RangeFuncLeaves
import Derived.Shelf.Abstract
import Derived.Shelf.RegionOpen
import Derived.OwnWalkIn
import Derived.TacticsInMore
import Derived.LoopNIn
import Derived.LoopIn
import Derived.Lib.TrailingZeros
import Derived.Lib.OthersKept
import Derived.Deep.WholeRow
import Derived.Laws.Cover4
section
/-
 DERIVED: THE SHELF's CONTRACTS AT THIS DUMP, IN PLAIN WORDS (tools/lay-plain.mjs out of 'TrydShelf.lean', which tools/lay-shelf.mjs wrote): THE SAME DECLARATIONS UNDER THE SAME NAMES: 'import', 'namespace', 'open', 'def', 'theorem' AND NOTHING ELSE: no command of the shelf's: FOR A HAND-IN. Each laying: the table of numbers ('.._ren') and one theorem, a field a fact of the dump's own or the kernel's comparison; each contract: ONE APPLICATION.
-/
namespace Go.Proofs
open Go.Shelf
def Tryd.lays169_ren : Go.Shelf.Ren := ⟨fun | 169 => 35 | n => n, fun | 70 => 47 | 9 => 9 | 0 => 0 | 72 => 49 | 37 => 46 | 127 => 81 | 3 => 3 | 5 => 5 | n => n, fun | n => n⟩
theorem Tryd.lays169 : Go.Proofs.Lays.n169 Tryd.prog Tryd.lays169_ren := {
 mixed := by kernel_rfl
 f169 := Tryd.func35.trans (congrArg some (by kernel_rfl))
 t0 := Tryd.underlying0
 a0 := Tryd.isAgg0
 z0 := Tryd.sizeOf0
 v0 := Tryd.zeroValue0
 t3 := Tryd.underlying3
 a3 := Tryd.isAgg3
 z3 := Tryd.sizeOf3
 v3 := Tryd.zeroValue3
 t9 := Tryd.underlying9
 a9 := Tryd.isAgg9
 z9 := Tryd.sizeOf9
 v9 := Tryd.zeroValue9
 t37 := Tryd.underlying46
 a37 := Tryd.isAgg46
 z37 := Tryd.sizeOf46
 v37 := Tryd.zeroValue46
 t70 := Tryd.underlying47
 a70 := Tryd.isAgg47
 z70 := Tryd.sizeOf47
 v70 := Tryd.zeroValue47
 t72 := Tryd.underlying49
 a72 := Tryd.isAgg49
 z72 := Tryd.sizeOf49
 v72 := Tryd.zeroValue49
 t127 := Tryd.underlying81
 a127 := Tryd.isAgg81
 z127 := Tryd.sizeOf81
 v127 := Tryd.zeroValue81 }
theorem Tryd.Builder_Extra_169 : Builder.Extra Tryd.prog Tryd.lays169_ren := {
 sizeBuilder := by kernel_rfl
 liesBuilder := by kernel_rfl
 t5 := Tryd.underlying5
 a5 := Tryd.isAgg5
 z5 := Tryd.sizeOf5
 v5 := Tryd.zeroValue5
 infoByte := by kernel_rfl
 cellsByte := by kernel_rfl
 sizeByte := by kernel_rfl
 neB5 := by decide }
def Tryd.lays158_ren : Go.Shelf.Ren := ⟨fun | 158 => 33 | 165 => 52 | 166 => 32 | 167 => 30 | 169 => 35 | 230 => 53 | 203 => 54 | 240 => 47 | 241 => 65 | 197 => 66 | 118 => 67 | 168 => 29 | 270 => 68 | 262 => 69 | 276 => 63 | 277 => 83 | 260 => 84 | 242 => 48 | 313 => 85 | 278 => 64 | 274 => 95 | 275 => 96 | n => n, fun | 9 => 9 | 4 => 4 | 3 => 3 | 5 => 5 | 72 => 49 | 0 => 0 | 76 => 54 | 75 => 53 | 107 => 80 | 70 => 47 | 20 => 20 | 37 => 46 | 127 => 81 | 21 => 21 | 105 => 96 | 164 => 93 | 162 => 119 | 203 => 22 | 119 => 128 | 46 => 116 | 139 => 131 | 138 => 130 | 51 => 95 | 160 => 132 | 208 => 139 | 206 => 137 | 80 => 61 | n => n, fun | 13 => 0 | 3 => 3 | 4 => 4 | n => n⟩
theorem Tryd.lays158 : Go.Proofs.Lays.n158 Tryd.prog Tryd.lays158_ren := {
 mixed := by kernel_rfl
 f118 := Tryd.func67.trans (congrArg some (by kernel_rfl))
 f158 := Tryd.func33.trans (congrArg some (by kernel_rfl))
 f165 := Tryd.func52.trans (congrArg some (by kernel_rfl))
 f166 := Tryd.func32.trans (congrArg some (by kernel_rfl))
 f167 := Tryd.func30.trans (congrArg some (by kernel_rfl))
 f168 := Tryd.func29.trans (congrArg some (by kernel_rfl))
 f169 := Tryd.func35.trans (congrArg some (by kernel_rfl))
 f197 := Tryd.func66.trans (congrArg some (by kernel_rfl))
 f203 := Tryd.func54.trans (congrArg some (by kernel_rfl))
 f230 := Tryd.func53.trans (congrArg some (by kernel_rfl))
 f240 := Tryd.func47.trans (congrArg some (by kernel_rfl))
 f241 := Tryd.func65.trans (congrArg some (by kernel_rfl))
 f242 := Tryd.func48.trans (congrArg some (by kernel_rfl))
 f260 := Tryd.func84.trans (congrArg some (by kernel_rfl))
 f262 := Tryd.func69.trans (congrArg some (by kernel_rfl))
 f270 := Tryd.func68.trans (congrArg some (by kernel_rfl))
 f274 := Tryd.func95.trans (congrArg some (by kernel_rfl))
 f275 := Tryd.func96.trans (congrArg some (by kernel_rfl))
 f276 := Tryd.func63.trans (congrArg some (by kernel_rfl))
 f277 := Tryd.func83.trans (congrArg some (by kernel_rfl))
 f278 := Tryd.func64.trans (congrArg some (by kernel_rfl))
 f313 := Tryd.func85.trans (congrArg some (by kernel_rfl))
 t0 := Tryd.underlying0
 a0 := Tryd.isAgg0
 z0 := Tryd.sizeOf0
 v0 := Tryd.zeroValue0
 t3 := Tryd.underlying3
 a3 := Tryd.isAgg3
 z3 := Tryd.sizeOf3
 v3 := Tryd.zeroValue3
 t4 := Tryd.underlying4
 a4 := Tryd.isAgg4
 z4 := Tryd.sizeOf4
 v4 := Tryd.zeroValue4
 t5 := Tryd.underlying5
 a5 := Tryd.isAgg5
 z5 := Tryd.sizeOf5
 v5 := Tryd.zeroValue5
 t9 := Tryd.underlying9
 a9 := Tryd.isAgg9
 z9 := Tryd.sizeOf9
 v9 := Tryd.zeroValue9
 t20 := Tryd.underlying20
 a20 := Tryd.isAgg20
 z20 := Tryd.sizeOf20
 v20 := Tryd.zeroValue20
 t21 := Tryd.underlying21
 a21 := Tryd.isAgg21
 z21 := Tryd.sizeOf21
 v21 := Tryd.zeroValue21
 t37 := Tryd.underlying46
 a37 := Tryd.isAgg46
 z37 := Tryd.sizeOf46
 v37 := Tryd.zeroValue46
 t46 := Tryd.underlying116
 a46 := Tryd.isAgg116
 z46 := Tryd.sizeOf116
 v46 := Tryd.zeroValue116
 t51 := Tryd.underlying95
 a51 := Tryd.isAgg95
 z51 := Tryd.sizeOf95
 v51 := Tryd.zeroValue95
 t70 := Tryd.underlying47
 a70 := Tryd.isAgg47
 z70 := Tryd.sizeOf47
 v70 := Tryd.zeroValue47
 t72 := Tryd.underlying49
 a72 := Tryd.isAgg49
 z72 := Tryd.sizeOf49
 v72 := Tryd.zeroValue49
 t75 := Tryd.underlying53
 a75 := Tryd.isAgg53
 z75 := Tryd.sizeOf53
 v75 := Tryd.zeroValue53
 t76 := Tryd.underlying54
 a76 := Tryd.isAgg54
 z76 := Tryd.sizeOf54
 v76 := Tryd.zeroValue54
 t105 := Tryd.underlying96
 a105 := Tryd.isAgg96
 z105 := Tryd.sizeOf96
 v105 := Tryd.zeroValue96
 t107 := Tryd.underlying80
 a107 := Tryd.isAgg80
 z107 := Tryd.sizeOf80
 v107 := Tryd.zeroValue80
 t119 := Tryd.underlying128
 a119 := Tryd.isAgg128
 z119 := Tryd.sizeOf128
 t127 := Tryd.underlying81
 a127 := Tryd.isAgg81
 z127 := Tryd.sizeOf81
 v127 := Tryd.zeroValue81
 t138 := Tryd.underlying130
 a138 := Tryd.isAgg130
 z138 := Tryd.sizeOf130
 v138 := Tryd.zeroValue130
 t139 := Tryd.underlying131
 a139 := Tryd.isAgg131
 z139 := Tryd.sizeOf131
 v139 := Tryd.zeroValue131
 t160 := Tryd.underlying132
 a160 := Tryd.isAgg132
 z160 := Tryd.sizeOf132
 v160 := Tryd.zeroValue132
 t162 := Tryd.underlying119
 a162 := Tryd.isAgg119
 z162 := Tryd.sizeOf119
 v162 := Tryd.zeroValue119
 t164 := Tryd.underlying93
 a164 := Tryd.isAgg93
 z164 := Tryd.sizeOf93
 v164 := Tryd.zeroValue93
 t203 := Tryd.underlying22
 a203 := Tryd.isAgg22
 z203 := Tryd.sizeOf22
 v203 := Tryd.zeroValue22
 t206 := Tryd.underlying137
 a206 := Tryd.isAgg137
 z206 := Tryd.sizeOf137
 v206 := Tryd.zeroValue137
 t208 := Tryd.underlying139
 a208 := Tryd.isAgg139
 z208 := Tryd.sizeOf139
 v208 := Tryd.zeroValue139
 g3 := by kernel_rfl
 g4 := by kernel_rfl
 g13 := by kernel_rfl }
theorem Tryd.Builder_Extra_158 : Builder.Extra Tryd.prog Tryd.lays158_ren := {
 sizeBuilder := by kernel_rfl
 liesBuilder := by kernel_rfl
 t5 := Tryd.underlying5
 a5 := Tryd.isAgg5
 z5 := Tryd.sizeOf5
 v5 := Tryd.zeroValue5
 infoByte := by kernel_rfl
 cellsByte := by kernel_rfl
 sizeByte := by kernel_rfl
 neB5 := by decide }
open Go.RowKit in
/-- strings.ToUpper: "ToUpper returns s with all Unicode letters mapped to their upper case.": ON ASCII TEXT OF AT MOST 2^47 BYTES. Below the heap's end the world is as it was: where a letter turns, the call makes a builder and its buffer. (LAID: no walk: one application.) -/
theorem Tryd.strings_ToUpper_ascii (s : ByteArray) (w : World) (hs : s.size ≤ 140737488355328) (hascii : ∀ (j : Nat) (b : UInt8), s.data.toList[j]? = some b → b.toNat < 128) :
  Calls Tryd.prog 33 #[.string s] w fun e w' => e = .returned (.string ⟨(Lib.toUpperA s.data.toList).toArray⟩) ∧ Below w.heap.size w w' := Any.strings_ToUpper_ascii Tryd.lays158 Tryd.Builder_Extra_158 s w hs hascii
open Go.RowKit in
/-- (*strings.Builder).String: "String returns the accumulated string.": WHATEVER THE BUILDER HOLDS; THE FORM '_k': OVER 'Lib.IsBuilderF' (a builder that 'String()' may have read), AND WITH THE FRAME THAT REACHES ABOVE THE BUILDER: 'Lib.OthersKept': every block that is not b and is no row of uint8's stands as it stood: the iterator of a range among them. (LAID: no walk: one application.) -/
theorem Tryd.Builder_String_any_k (B b : Nat) (l : List UInt8) (w : World) (h : Lib.IsBuilderF 49 5 B b (Lib.byteCells l) w) (hBw : B ≤ w.heap.size) :
  Calls Tryd.prog 35 #[.pointer (some ⟨b, 0, none⟩)] w fun e w' => e = .returned (.string ⟨l.toArray⟩) ∧ (Lib.IsBuilderF 49 5 B b (Lib.byteCells l) w' ∧ Below B w w' ∧ Lib.OthersKept 5 (some b) w w') := Any.Builder_String_any_k Tryd.lays169 Tryd.Builder_Extra_169 B b l w h hBw
def Tryd.lays242_ren : Go.Shelf.Ren := ⟨fun | 242 => 48 | 278 => 64 | n => n, fun | 37 => 46 | 21 => 21 | 51 => 95 | 4 => 4 | 5 => 5 | 46 => 116 | n => n, fun | n => n⟩
theorem Tryd.lays242 : Go.Proofs.Lays.n242 Tryd.prog Tryd.lays242_ren := {
 mixed := by kernel_rfl
 f242 := Tryd.func48.trans (congrArg some (by kernel_rfl))
 f278 := Tryd.func64.trans (congrArg some (by kernel_rfl))
 t4 := Tryd.underlying4
 a4 := Tryd.isAgg4
 z4 := Tryd.sizeOf4
 v4 := Tryd.zeroValue4
 t5 := Tryd.underlying5
 a5 := Tryd.isAgg5
 z5 := Tryd.sizeOf5
 v5 := Tryd.zeroValue5
 t21 := Tryd.underlying21
 a21 := Tryd.isAgg21
 z21 := Tryd.sizeOf21
 v21 := Tryd.zeroValue21
 t37 := Tryd.underlying46
 a37 := Tryd.isAgg46
 z37 := Tryd.sizeOf46
 v37 := Tryd.zeroValue46
 t46 := Tryd.underlying116
 a46 := Tryd.isAgg116
 z46 := Tryd.sizeOf116
 v46 := Tryd.zeroValue116
 t51 := Tryd.underlying95
 a51 := Tryd.isAgg95
 z51 := Tryd.sizeOf95
 v51 := Tryd.zeroValue95 }
open Go.RowKit in
/-- unicode/utf8.AppendRune: "AppendRune appends the UTF-8 encoding of r to the end of p and returns the extended buffer. If the rune is out of range, it appends the encoding of RuneError.": ONTO A ROW OF BYTES THAT THE CALL OWNS (its head frozen or not): EVERY int32: 'Lib.runeCells r' goes in behind what the row holds; the world: one new block (the bytes as the call's variadic argument), then what 'append' does to the row. (LAID: no walk: one application.) -/
theorem Tryd.utf8_AppendRune_row (B : Nat) (v : Value) (n : Nat) (xs : List Value) (r : Int) (hr0 : -2147483648 ≤ r) (hr1 : r ≤ 2147483647) (w : World) (hown : w.ownsRowF B 5 1 v n xs) (hlen : n + 4 ≤ 140737488355328) (hBw : B ≤ w.heap.size) :
  Calls Tryd.prog 48 #[v, .int .i32 r] w fun e w' => ∃ v', e = .returned v' ∧ w'.ownsRowF B 5 1 v' (n + (Lib.runeCells r).length) (xs ++ Lib.runeCells r) ∧ ∃ o, (w.alloc o).grownBy w' v.ownBlock := Any.utf8_AppendRune_row Tryd.lays242 (by kernel_rfl) B v n xs r hr0 hr1 w hown hlen hBw
end Go.Proofs
end
section
namespace Go.Proofs.YthmbbkbmlnaghaaDoor.P
open Go.RowKit Go.Proofs.YthmbbkbmlnaghaaDoorW.PrintWords Go.Proofs.YthmbbkbmlnaghaaDoorW.PrintLast Go.Proofs.YthmbbkbmlnaghaaDoorW.PrintMore
attribute [local go_sem] max2_int min2_int max_two min_two max_three min_three max_four min_four   -- for this text's walks alone
set_option linter.unusedVariables false
set_option linter.unusedSimpArgs false



def errW : Option Int → Value
 | none => .nilIface
 | some c => .iface 0 (.int .i64 c)
theorem errW_none : errW none = .nilIface := rfl
theorem errW_some (c : Int) : errW (some c) = .iface 0 (.int .i64 c) := rfl

theorem info5 : (Tryd.prog.info? 5).map (fun i => (i.zero, i.size, i.bytes)) = some (some (.int .u8 0), 1, 1) := by kernel_rfl
theorem info21 : (Tryd.prog.info? 21).map (fun i => (i.zero, i.size, i.bytes)) = some (some (.int .i32 0), 1, 4) := by kernel_rfl
theorem info70 : (Tryd.prog.info? 70).map (fun i => (i.zero, i.size, i.bytes)) = some (some (.agg #[(.int .i32 0), (.int .i64 0), (.int .i64 0), (.bool false)]), 4, 32) := by kernel_rfl
-- the values' own types
/-! #### struct type 70 -/
structure S70 where
 f0 : Int
 f1 : Int
 f2 : Int
 f3 : Bool
def z70 : S70 := ⟨(0 : Int), (0 : Int), (0 : Int), false⟩
def k70 : Kd S70 := Kd.iso (Kd.pair (Kd.int .i32) (Kd.pair (Kd.int .i64) (Kd.pair (Kd.int .i64) Kd.bool))) (fun x : S70 => (x.f0, x.f1, x.f2, x.f3))
theorem k70_open {w : World} {x : S70} {cs : List Value} (h : k70.K w x cs) : cs = [.int .i32 x.f0, .int .i64 x.f1, .int .i64 x.f2, .bool x.f3] := by
 obtain ⟨_, _, rfl, rfl, ⟨_, _, rfl, rfl, ⟨_, _, rfl, rfl, rfl⟩⟩⟩ := h
 exact rfl
theorem k70_mkM (w : World) (base : Nat) (ok : Nat → Prop) (x : S70)  : k70.M w base ok x [.int .i32 x.f0, .int .i64 x.f1, .int .i64 x.f2, .bool x.f3] := ⟨[.int .i32 x.f0], [.int .i64 x.f1, .int .i64 x.f2, .bool x.f3], rfl, rfl, ⟨[.int .i64 x.f1], [.int .i64 x.f2, .bool x.f3], rfl, rfl, ⟨[.int .i64 x.f2], [.bool x.f3], rfl, rfl, rfl⟩⟩⟩
def rd_T70 (xs : List S70) (i : Int) : S70 := xs.getD i.toNat z70
theorem at_T70 {w : World} {A : Option Addr} {n : Nat} {xs : List S70} (h : Kd.C k70 w A n xs) (i : Int) (h0 : 0 ≤ i) (h1 : i < n) : ∃ ad , A = some ad ∧ w.cell? (ad.add (i.toNat * 4)) = some (.int .i32 (rd_T70 xs i).f0) ∧ w.cell? ⟨(ad.add (i.toNat * 4)).block, (ad.add (i.toNat * 4)).off + 1, none⟩ = some (.int .i64 (rd_T70 xs i).f1) ∧ w.cell? ⟨(ad.add (i.toNat * 4)).block, (ad.add (i.toNat * 4)).off + 2, none⟩ = some (.int .i64 (rd_T70 xs i).f2) ∧ w.cell? ⟨(ad.add (i.toNat * 4)).block, (ad.add (i.toNat * 4)).off + 3, none⟩ = some (.bool (rd_T70 xs i).f3) := by
 obtain ⟨ad, c, e, _, hK, hc0⟩ := Kd.C_get h z70 i h0 h1
 have hc : ∀ j u, c[j]? = some u → w.cell? (ad.add (i.toNat * 4 + j)) = some u := hc0
 obtain rfl := k70_open hK
 exact ⟨ad, e, hc 0 _ rfl, by rw [← add_field _ _ 1 (by omega)]; exact hc 1 _ rfl, by rw [← add_field _ _ 2 (by omega)]; exact hc 2 _ rfl, by rw [← add_field _ _ 3 (by omega)]; exact hc 3 _ rfl⟩

/-! #### struct type 75 -/
structure S75 where
 f0 : ByteArray
 f1 : Int
 f2 : Int
 f3 : Bool
def z75 : S75 := ⟨(⟨#[]⟩ : ByteArray), (0 : Int), (0 : Int), false⟩
def k75 : Kd S75 := Kd.iso (Kd.pair Kd.string (Kd.pair (Kd.int .i32) (Kd.pair (Kd.int .i32) Kd.bool))) (fun x : S75 => (x.f0, x.f1, x.f2, x.f3))
theorem k75_open {w : World} {x : S75} {cs : List Value} (h : k75.K w x cs) : cs = [.string x.f0, .int .i32 x.f1, .int .i32 x.f2, .bool x.f3] := by
 obtain ⟨_, _, rfl, rfl, ⟨_, _, rfl, rfl, ⟨_, _, rfl, rfl, rfl⟩⟩⟩ := h
 exact rfl
theorem k75_openM {w : World} {base : Nat} {ok : Nat → Prop} {x : S75} {cs : List Value} (h : k75.M w base ok x cs) : cs = [.string x.f0, .int .i32 x.f1, .int .i32 x.f2, .bool x.f3] := by
 obtain ⟨_, _, rfl, rfl, ⟨_, _, rfl, rfl, ⟨_, _, rfl, rfl, rfl⟩⟩⟩ := h
 exact rfl
theorem k75_mkM (w : World) (base : Nat) (ok : Nat → Prop) (x : S75)  : k75.M w base ok x [.string x.f0, .int .i32 x.f1, .int .i32 x.f2, .bool x.f3] := ⟨[.string x.f0], [.int .i32 x.f1, .int .i32 x.f2, .bool x.f3], rfl, rfl, ⟨[.int .i32 x.f1], [.int .i32 x.f2, .bool x.f3], rfl, rfl, ⟨[.int .i32 x.f2], [.bool x.f3], rfl, rfl, rfl⟩⟩⟩
def rd_T75 (xs : List S75) (i : Int) : S75 := xs.getD i.toNat z75
theorem at_T75 {w : World} {A : Option Addr} {n : Nat} {xs : List S75} (h : Kd.C k75 w A n xs) (i : Int) (h0 : 0 ≤ i) (h1 : i < n) : ∃ ad , A = some ad ∧ w.cell? (ad.add (i.toNat * 4)) = some (.string (rd_T75 xs i).f0) ∧ w.cell? ⟨(ad.add (i.toNat * 4)).block, (ad.add (i.toNat * 4)).off + 1, none⟩ = some (.int .i32 (rd_T75 xs i).f1) ∧ w.cell? ⟨(ad.add (i.toNat * 4)).block, (ad.add (i.toNat * 4)).off + 2, none⟩ = some (.int .i32 (rd_T75 xs i).f2) ∧ w.cell? ⟨(ad.add (i.toNat * 4)).block, (ad.add (i.toNat * 4)).off + 3, none⟩ = some (.bool (rd_T75 xs i).f3) := by
 obtain ⟨ad, c, e, _, hK, hc0⟩ := Kd.C_get h z75 i h0 h1
 have hc : ∀ j u, c[j]? = some u → w.cell? (ad.add (i.toNat * 4 + j)) = some u := hc0
 obtain rfl := k75_open hK
 exact ⟨ad, e, hc 0 _ rfl, by rw [← add_field _ _ 1 (by omega)]; exact hc 1 _ rfl, by rw [← add_field _ _ 2 (by omega)]; exact hc 2 _ rfl, by rw [← add_field _ _ 3 (by omega)]; exact hc 3 _ rfl⟩

end Go.Proofs.YthmbbkbmlnaghaaDoor.P
end
section
/-
 What is kept: boxes, rows of the call's own, marks of ranges over functions.
-/
namespace Go.Proofs.YthmbbkbmlnaghaaDoor.P
open Go.RowKit Go.Shelf Go.Proofs.YthmbbkbmlnaghaaDoorW.PrintWords Go.Proofs.YthmbbkbmlnaghaaDoorW.PrintLast Go.Proofs.YthmbbkbmlnaghaaDoorW.PrintMore
set_option linter.unusedVariables false
set_option linter.unusedSimpArgs false
attribute [local go_sem] Oper.semAt_some

theorem ownKept {W W' : World} {row : Option Nat} {B base : Nat} {e : TypeId} {size n : Nat} {v : Value} {xs : List Value} (h : W.ownsRow base e size v n xs) (hg : W.grownBy W' row) (hr : ∀ r, row = some r → B ≤ r ∧ ∃ o : Obj, W.heap[r]? = some o ∧ o.isCells = false) : W'.ownsRow base e size v n xs := by
 refine h.kept hg ?_
 rcases h.2 with ⟨rfl, _⟩ | ⟨g, cap, cur, rfl, _, hgb, _⟩
 ·exact .inl rfl
 ·refine .inr fun e => ?_
  obtain ⟨_, o, ho, hc⟩ := hr g e.symm
  rw [hgb] at ho
  cases ho
  cases hc
end Go.Proofs.YthmbbkbmlnaghaaDoor.P
end
section
/-
 strconv.FormatInt at base 16, of a number that is not negative and below 2^24.
-/
namespace Go.Proofs.YthmbbkbmlnaghaaDoor.P
open Go.RowKit Go.Shelf Go.Proofs.YthmbbkbmlnaghaaDoorW.PrintWords Go.Proofs.YthmbbkbmlnaghaaDoorW.PrintLast Go.Proofs.YthmbbkbmlnaghaaDoorW.PrintMore
set_option linter.unusedVariables false
set_option linter.unusedSimpArgs false

def DbTab (w : World) : Prop := Lib.TabIs Tryd.prog w "math/bits.deBruijn64tab" .u8 (Lib.deBruijn64tab.map Int.ofNat)
theorem dbNamed : Tryd.prog.globalNamed "math/bits.deBruijn64tab" = some 6 := by kernel_rfl

theorem tab_below {nm : String} {k : IntKind} {zs : List Int} {w w' : World} (h : Lib.TabIs Tryd.prog w nm k zs) (hb : Below w.heap.size w w') : Lib.TabIs Tryd.prog w' nm k zs := by
 unfold Lib.TabIs World.var? at *
 cases hg : Tryd.prog.globalNamed nm with
 | none => rw [hg] at h; cases h
 | some g =>
  rw [hg] at h
  simp only [Option.bind_some] at h ⊢
  cases ho : w.heap[g]? with
  | none => rw [ho] at h; cases h
  | some o =>
   rw [hb.block g (Array.getElem?_eq_some_iff.1 ho).1]
   exact h

set_option maxRecDepth 100000 in
theorem tz64_calls (w : World) (ht : DbTab w) : Calls Tryd.prog 98 #[.int .u64 16] w fun e w' => e = .returned (.int .i64 4) ∧ w' = w := by
 have hc : w.cell? ⟨6, 15, none⟩ = some (.int .u8 4) := by
  have := Lib.TabIs.cell ht dbNamed 15 (by decide)
  exact this
 clear ht
 have hm1 : bits .and .u64 16 (IntKind.u64.wrap (-16)) = 16 := by decide +kernel
 have hm2 : IntKind.u64.wrap (16 * 285870213051353865) / 288230376151711744 = 15 := by decide +kernel
 have hm3 : IntKind.u64.wrap 4573923408821661840 / 288230376151711744 = 15 := by decide +kernel
 go_enter Tryd.func98, Tryd.ntmps98
 go_wp2
 go_ret
 exact ⟨rfl, rfl⟩

set_option maxRecDepth 100000 in
theorem tz_calls (w : World) (ht : DbTab w) : Calls Tryd.prog 90 #[.int .u64 16] w fun e w' => e = .returned (.int .i64 4) ∧ w' = w := by
 go_enter Tryd.func90, Tryd.ntmps90
 go_wp2_with (go_at_call 98; refine (tz64_calls _ ht).mono ?_; rintro e w' ⟨rfl, rfl⟩)
 go_ret
 exact ⟨rfl, rfl⟩

set_option maxRecDepth 100000 in
theorem pow2_calls (w : World) : Calls Tryd.prog 89 #[.int .i64 16] w fun e w' => e = .returned (.bool true) ∧ w' = w := by
 go_enter Tryd.func89, Tryd.ntmps89
 go_wp2
 go_ret
 exact ⟨rfl, rfl⟩

def hexD (d : Nat) : UInt8 := if d < 10 then (48 + d).toUInt8 else (87 + d).toUInt8
def hexF : Nat → Nat → List UInt8
 | 0, _ => []
 | k + 1, v => if v < 16 then [hexD v] else hexF k (v / 16) ++ [hexD (v % 16)]
theorem hexF_big (k v : Nat) (hk : 1 ≤ k) (hv : 16 ≤ v) : hexF k v = hexF (k - 1) (v / 16) ++ [hexD (v % 16)] := by
 obtain ⟨j, rfl⟩ : ∃ j, k = j + 1 := ⟨k - 1, by omega⟩
 rw [hexF, if_neg (by omega)]
 rfl
theorem hexF_small (k v : Nat) (hk : 1 ≤ k) (hv : v < 16) : hexF k v = [hexD v] := by
 obtain ⟨j, rfl⟩ : ∃ j, k = j + 1 := ⟨k - 1, by omega⟩
 rw [hexF, if_pos hv]
theorem hexD_index : ∀ d, d < 16 → Lib.digits36.data[d]? = some (hexD d) := by decide +kernel
theorem idx_hex (k : IntKind) (d : Nat) (z : Int) (hz : z = (d : Int)) (hd : d < 16) (w : World) : (Instr.index 9 (.string Lib.digits36) (.int k z)).run Tryd.prog w = .ok (.int .u8 ((hexD d).toNat : Int)) w := by
 have h := hexD_index d hd
 subst hz
 rw [run_index_string w 9 Lib.digits36 k _ Tryd.underlying9, dif_pos ⟨by omega, by rw [Lib.digits36_size]; omega⟩]
 have e : ((d : Int)).toNat = d := by omega
 simp only [e]
 have hs : d < Lib.digits36.data.size := by have := Lib.digits36_size; show d < Lib.digits36.size; omega
 rw [Array.getElem?_eq_getElem hs] at h
 have h2 : Lib.digits36[d]'hs = hexD d := Option.some.inj h
 rw [h2]
/-- the digits so far lie behind place i of the array in block B -/
structure FmtJ (B : Nat) (i : Nat) (l : List UInt8) (w : World) : Prop where
 size : l.length + i = 65
 got : ∀ j (h : j < l.length), w.cell? ⟨B, i + j, none⟩ = some (.int .u8 (l[j].toNat : Int))
 cell : ∀ j, j < 65 → ∃ c, w.cell? ⟨B, j, none⟩ = some (.int .u8 c)
 soft : ∀ j, j < 65 → w.frozen? ⟨B, j, none⟩ = false

theorem FmtJ.step {B m : Nat} {l : List UInt8} {w : World} (h : FmtJ B (m + 1) l w) (c : UInt8) : FmtJ B m (c :: l) (w.setCell ⟨B, m, none⟩ (.int .u8 (c.toNat : Int))) where
 size := by have := h.size; simp only [List.length_cons]; omega
 got := fun j hj => by
  cases j with
  | zero =>
   obtain ⟨c0, hc0⟩ := h.cell m (by have := h.size; omega)
   exact World.cell?_setCell_same _ _ _ hc0
  | succ j =>
   rw [World.cell?_setCell_other _ _ _ _ (by simp), List.getElem_cons_succ, show m + (j + 1) = m + 1 + j by omega]
   exact h.got j (by simpa using hj)
 cell := fun j hj => by
  by_cases e : j = m
  ·subst e
   obtain ⟨c0, hc0⟩ := h.cell j hj
   exact ⟨_, World.cell?_setCell_same _ _ _ hc0⟩
  ·obtain ⟨c0, hc0⟩ := h.cell j hj
   exact ⟨c0, by rw [World.cell?_setCell_other _ _ _ _ (fun e' => e (by cases e'; rfl))]; exact hc0⟩
 soft := fun j hj => by rw [World.frozen?_setCell]; exact h.soft j hj
theorem zeros65 : Tryd.zeroCells123 = Array.replicate 65 (Value.int .u8 0) := by kernel_rfl
theorem fmt_start (w : World) (T : TypeId) : FmtJ w.heap.size 65 [] (w.alloc (.cells Tryd.zeroCells123 T)) where
 size := rfl
 got := fun j h => absurd h (Nat.not_lt_zero _)
 cell := fun j hj => ⟨0, by rw [World.cell?_alloc_new, zeros65, Array.getElem?_replicate, if_pos hj]⟩
 soft := fun j _ => World.frozen?_alloc_new _ _ _ _

set_option maxHeartbeats 2000000 in
set_option maxRecDepth 100000 in
theorem fmtBits_calls (n : Nat) (hn : n < 16777216) (w : World) (ht : DbTab w) :
  Calls Tryd.prog 73 #[.slice none 0 0, .int .u64 n, .int .i64 16, .bool false, .bool false] w fun e w' => e = .returned (.tuple #[.slice none 0 0, .string ⟨(hexF 6 n).toArray⟩]) ∧ Below w.heap.size w w' := by
 have HT := Aside0.mk ht
 clear ht
 go_enter Tryd.func73, Tryd.ntmps73
 go_name_bytes_deep 38 PM hPM
 clear hPM
 go_name_bytes_deep 30 DG hDG
 have eDG : DG = Lib.digits36 := by rw [← hDG]; decide +kernel
 subst eDG
 clear hDG
 go_wp2_with (first | (go_at_call 89; refine (pow2_calls _).mono ?_; rintro e w' ⟨rfl, rfl⟩) | (go_at_call 90; refine (tz_calls _ (tab_below HT.out ((Below.refl w.heap.size w).alloc (Nat.le_refl _) _))).mono ?_; rintro e w' ⟨rfl, rfl⟩))
 go_loopw [1, 13] (fun v1 v13 wr => ∃ (v i k : Nat) (l : List UInt8), v1 = .int .u64 v ∧ v13 = .int .i64 i ∧ Aside0 (FmtJ w.heap.size i l wr) ∧ Aside0 (Below w.heap.size w wr) ∧ Aside0 (hexF 6 n = hexF k v ++ l ∧ v < 16 ^ k) ∧ 1 ≤ k ∧ k ≤ 6 ∧ k + 59 = i) (fun v1 _ _ => (intOf v1).toNat)
 case atStart => exact ⟨n, 65, 6, [], rfl, rfl, ⟨fmt_start _ _⟩, ⟨(Below.refl w.heap.size w).alloc (Nat.le_refl _) _⟩, ⟨(List.append_nil _).symm, by omega⟩, by omega, by omega, by omega⟩
 case round =>
  obtain ⟨v, i, k, l, rfl, rfl, HJ, HB, HV, hk, hk6, hki⟩ := hrel
  obtain ⟨m, rfl⟩ : ∃ m, i = m + 1 := ⟨i - 1, by omega⟩
  have hv24 : v < 16777216 := Nat.lt_of_lt_of_le HV.out.2 (by have := Nat.pow_le_pow_right (show 0 < 16 by decide) (show k ≤ 6 by omega); omega)
  obtain ⟨c0, hc0⟩ := HJ.out.cell m (by omega)
  have hf0 := HJ.out.soft m (by omega)
  by_cases hv : 16 ≤ v
  ·have hand : bits .and .u64 (v : Int) 15 = ((v % 16 : Nat) : Int) := by rw [show (15 : Int) = ((15 : Nat) : Int) from rfl, bits_and_u64_nat v 15 (by omega) (by omega), Nat.and_two_pow_sub_one_eq_mod v 4]
   have hX := idx_hex .u64 (v % 16) ((v % 16 : Nat) : Int) rfl (Nat.mod_lt _ (by decide))
   generalize hd : ((v % 16 : Nat) : Int) = d at hand hX
   have HX := Aside0.mk hd
   clear hd
   go_wp2
   refine ⟨⟨v / 16, m, k - 1, hexD (v % 16) :: l, by simp, rfl, ⟨?_⟩, ⟨HB.out.setCell (Nat.le_refl _) _⟩, ⟨?_, ?_⟩, ?_, ?_, ?_⟩, ?_⟩
   ·exact HJ.out.step _
   ·rw [HV.out.1, hexF_big k v hk hv, List.append_assoc, List.singleton_append]
   ·have h2 := HV.out.2
    have e : 16 ^ k = 16 ^ (k - 1) * 16 := by rw [← Nat.pow_succ, show (k - 1).succ = k by omega]
    omega
   ·have h2 := HV.out.2
    rcases Nat.lt_or_ge 1 k with h1 | h1
    ·omega
    ·obtain rfl : k = 1 := by omega
     omega
   ·omega
   ·omega
   ·simp [intOf]; omega
  ·have hX := idx_hex .u64 v (v : Int) rfl (by omega)
   have hal : Tryd.prog.arrayLen 123 = 65 := by simp [Program.arrayLen, Tryd.underlying123]
   have hsl : ∀ W, (Instr.sliceAt 123 (.pointer (some ⟨w.heap.size, 0, none⟩)) (some (.int .i64 (m : Int))) none none).run Tryd.prog W = .ok (.slice (some ⟨w.heap.size, m, none⟩) (65 - m) (65 - m)) W := fun W => by
    rw [run_sliceAt_array_l W 123 ⟨w.heap.size, 0, none⟩ (by simp [Program.arrayLen, Program.elem, Tryd.underlying123]) .i64 (m : Int) (by omega) (by rw [hal]; omega)]
    go_simp
    omega
   have hl := HJ.out.size
   have HJ2 := HJ.out.step (hexD v)
   have hcv : (convert 46 9 (.slice (some ⟨w.heap.size, m, none⟩) (65 - m) (65 - m))).run Tryd.prog (wr.setCell ⟨w.heap.size, m, none⟩ (.int .u8 ((hexD v).toNat : Int))) = .ok (.string ⟨(hexD v :: l).toArray⟩) (wr.setCell ⟨w.heap.size, m, none⟩ (.int .u8 ((hexD v).toNat : Int))) := by
    have h := run_convert_bytes_back (P := Tryd.prog) (wr.setCell ⟨w.heap.size, m, none⟩ (.int .u8 ((hexD v).toNat : Int))) 46 9 5 ⟨w.heap.size, m, none⟩ (65 - m) (hexD v :: l) Tryd.underlying46 Tryd.underlying5 Tryd.underlying9 (fun j hj => by
     rw [Lib.add_plain]
     exact HJ2.got j hj)
    rw [List.length_cons, show l.length + 1 = 65 - m by omega] at h
    exact h
   have HW := Aside0.mk (HB.out.setCell (p := ⟨w.heap.size, m, none⟩) (Nat.le_refl _) (.int .u8 ((hexD v).toNat : Int)))
   have HE : hexF 6 n = hexD v :: l := by rw [HV.out.1, hexF_small k v hk (by omega)]; rfl
   have HE' := Aside0.mk HE
   clear HE HJ2 hl hal
   go_wp2
   go_ret2
   exact ⟨by rw [HE'.out]; rfl, HW.out⟩

set_option maxRecDepth 100000 in
theorem fmtInt_calls (n : Nat) (hn : n < 16777216) (w : World) (ht : DbTab w) :
  Calls Tryd.prog 34 #[.int .i64 n, .int .i64 16] w fun e w' => e = .returned (.string ⟨(hexF 6 n).toArray⟩) ∧ Below w.heap.size w w' := by
 have h1 : Calls Tryd.prog 55 #[.int .i64 n, .int .i64 16] w fun e w' => e = .returned (.string ⟨(hexF 6 n).toArray⟩) ∧ Below w.heap.size w w' := by
  have HT := Aside0.mk ht
  clear ht
  go_enter Tryd.func55, Tryd.ntmps55
  go_wp2_with (go_at_call 73; refine (fmtBits_calls n hn _ HT.out).mono ?_; rintro e w' ⟨rfl, hb⟩)
  go_ret
  exact ⟨rfl, hb⟩
 go_enter Tryd.func34, Tryd.ntmps34
 go_wp2_with (go_at_call 55; refine h1.mono ?_; rintro e w' ⟨rfl, hb⟩)
 go_ret
 exact ⟨rfl, hb⟩

end Go.Proofs.YthmbbkbmlnaghaaDoor.P
end
section
/-
 strings.Builder at this program's translation (copyCheck ends in a refusal here, so the shelf's own contracts on it do not lay): copyCheck, WriteString, WriteByte. The proofs are the shelf's, turned to this program.
-/
namespace Go.Proofs.YthmbbkbmlnaghaaDoor.P
open Go.RowKit Go.Shelf Go.Proofs.YthmbbkbmlnaghaaDoorW.PrintWords Go.Proofs.YthmbbkbmlnaghaaDoorW.PrintLast Go.Proofs.YthmbbkbmlnaghaaDoorW.PrintMore
set_option linter.unusedVariables false
set_option linter.unusedSimpArgs false

theorem bldX : (Tryd.prog.info? 49).map (·.size) = some 2 := by kernel_rfl
theorem bldLies : liesAt Tryd.prog Tryd.prog.depth 49 (2 / Tryd.prog.cellsOf 49) 0 49 1 = true := by kernel_rfl

set_option maxHeartbeats 1000000 in
set_option maxRecDepth 100000 in
theorem bld_copyCheck_used (b : Nat) (w : World) (h0 : w.cell? ⟨b, 0, none⟩ = some (.pointer (some ⟨b, 0, none⟩))) :
  Calls Tryd.prog 47 #[.pointer (some ⟨b, 0, none⟩)] w fun e w' => e = .returned (.tuple #[]) ∧ w' = w := by
 obtain ⟨j, hj, _⟩ := Option.map_eq_some_iff.1 bldX
 have u86 := run_underlying Tryd.underlying49
 have u84 := run_underlying Tryd.underlying47
 go_enter Tryd.func47, Tryd.ntmps47
 go_wp2
 rw [Lib.run_neq_ptr_same w _ Tryd.underlying47 hj]
 go_wp2
 go_end0
 exact ⟨rfl, rfl⟩

set_option maxHeartbeats 1000000 in
set_option maxRecDepth 100000 in
theorem bld_copyCheck_fresh (b : Nat) (w : World) (h0 : w.cell? ⟨b, 0, none⟩ = some (.pointer none)) (hsh : w.shape? b = some (49, 2)) (hfr : w.frozen? ⟨b, 0, none⟩ = false) :
  Calls Tryd.prog 47 #[.pointer (some ⟨b, 0, none⟩)] w fun e w' => e = .returned (.tuple #[]) ∧ w' = w.setCell ⟨b, 0, none⟩ (.pointer (some ⟨b, 0, none⟩)) := by
 obtain ⟨j, hj, hjs⟩ := Option.map_eq_some_iff.1 bldX
 go_enter Tryd.func47, Tryd.ntmps47
 go_wp2
 rw [Lib.run_to_unsafe w ⟨b, 0, none⟩ Tryd.underlying47 Tryd.underlying93 hj (by rw [hjs]; decide) hsh (Nat.zero_lt_succ 1)]
 simp only [Result.andThen]
 rw [Oper.upon_value]
 go_wp2
 rw [run_callFunc_extern Tryd.func63 (by kernel_rfl) (by kernel_rfl) (by kernel_rfl) (e := Extern.AbiNoEscape.same) (by kernel_rfl)]
 rw [Lib.run_noEscape]
 simp only [Result.andThen]
 rw [Oper.upon_value]
 go_wp2
 rw [Lib.run_from_unsafe w ⟨b, 0, none⟩ Tryd.underlying93 Tryd.underlying47 hj hsh bldLies]
 simp only [Result.andThen]
 rw [Oper.upon_value]
 go_wp2
 go_end0
 exact ⟨rfl, rfl⟩
theorem bldByte : (Tryd.prog.info? 5).map (fun i => (i.zero, i.size, i.bytes)) = some (some (.int .u8 0), 1, 1) := by kernel_rfl

set_option maxHeartbeats 2000000 in
set_option maxRecDepth 100000 in
theorem bld_copyCheck_k (B b : Nat) (bs : List Value) (w : World) (h : Lib.IsBuilderF 49 5 B b bs w) :
  Calls Tryd.prog 47 #[.pointer (some ⟨b, 0, none⟩)] w fun e w' => e = .returned (.tuple #[]) ∧ (Lib.BuilderAtF 49 5 B b (.pointer (some ⟨b, 0, none⟩)) bs w' ∧ Below B w w' ∧ Lib.OthersKept 5 (some b) w w') := by
 rcases h with h | h
 ·refine (bld_copyCheck_fresh b w h.cell0 h.shape h.frozen0).mono ?_
  rintro e w' ⟨rfl, rfl⟩
  exact ⟨rfl, h.used _, (Below.refl B w).setCell (p := ⟨b, 0, none⟩) h.1 _, (Lib.OthersKept.refl _ _ w).setCell ⟨b, 0, none⟩ rfl _⟩
 ·refine (bld_copyCheck_used b w h.cell0).mono ?_
  rintro e w' ⟨rfl, rfl⟩
  exact ⟨rfl, h, Below.refl B _, Lib.OthersKept.refl _ _ _⟩

set_option maxHeartbeats 2000000 in
set_option maxRecDepth 100000 in
theorem bld_WriteString_k (B b : Nat) (bs : List Value) (s : ByteArray) (w : World) (h : Lib.IsBuilderF 49 5 B b bs w) (hlen : bs.length + s.size ≤ 140737488355328) (hBw : B ≤ w.heap.size) :
  Calls Tryd.prog 32 #[.pointer (some ⟨b, 0, none⟩), .string s] w fun e w' => e = .returned (.tuple #[.int .i64 s.size, .nilIface]) ∧ (Lib.BuilderAtF 49 5 B b (.pointer (some ⟨b, 0, none⟩)) (bs ++ Lib.strCells s) w' ∧ Below B w w' ∧ Lib.OthersKept 5 (some b) w w') := by
 obtain ⟨i0, hi, hz0, hz1, hz2⟩ := info_parts bldByte
 go_enter Tryd.func32, Tryd.ntmps32
 go_wp2_with (go_at_call 47; refine (bld_copyCheck_k B b bs _ h).mono ?_)
 rintro e w1 ⟨rfl, h1, hb1, hk1⟩
 obtain ⟨hB, v, hbk, hown, hne⟩ := h1
 have c0 : w1.cell? ⟨b, 0, none⟩ = some (.pointer (some ⟨b, 0, none⟩)) := by rw [Lib.cell_of_heap hbk]; rfl
 have c1 : w1.cell? ⟨b, 1, none⟩ = some v := by rw [Lib.cell_of_heap hbk]; rfl
 go_wp2_with (at_builtin; refine Lib.wpList_append_own_stringF _ rfl _ _ 46 9 rfl B 5 i0 Tryd.underlying46 Tryd.underlying9 hi hz0 hz1 hz2 _ _ _ rfl hown s rfl ?c3 ?c4 ?c5 ?_)
 case c3 => unfold maxLen; omega
 case c4 => omega
 case c5 => have := hb1.size; omega
 intro v' w2 hown' hgrow _
 have hlt : b < w1.heap.size := by
  rcases Nat.lt_or_ge b w1.heap.size with h' | h'
  ·exact h'
  ·simp [Array.getElem?_eq_none h'] at hbk
 have hb2 : w2.heap[b]? = some (.cells #[.pointer (some ⟨b, 0, none⟩), v] 49 (0, 0)) := by
  rw [hgrow.block b hlt (fun e => hne e.symm)]
  exact hbk
 have d0 : w2.cell? ⟨b, 0, none⟩ = some (.pointer (some ⟨b, 0, none⟩)) := by rw [Lib.cell_of_heap hb2]; rfl
 have d1 : w2.cell? ⟨b, 1, none⟩ = some v := by rw [Lib.cell_of_heap hb2]; rfl
 have f1 : w2.frozen? ⟨b, 1, none⟩ = false := Lib.frozen_of_heap hb2 1
 obtain ⟨ao, n', cap, rfl⟩ : ∃ ao n' cap, v' = .slice ao n' cap := by
  rcases hown'.2 with ⟨hv, _⟩ | ⟨g, cap, cur, fz, hv, _⟩
  ·exact ⟨_, _, _, hv⟩
  ·exact ⟨_, _, _, hv⟩
 go_wp2
 go_ret2
 refine ⟨rfl, ?_, ?_, (hk1.grown hgrow (Lib.ownsRowF_kind hown)).setCell ⟨b, 1, none⟩ rfl _⟩
 ·exact Lib.BuilderAtF.put (T := 49) (e := 5) hB hb2 (bs' := bs ++ Lib.strCells s) (by simpa [Lib.strCells_length] using hown') (by decide)
 ·exact (hb1.grown hgrow (by have := hb1.size; omega) (fun k hk => (hown.lt k hk).1)).setCell (p := ⟨b, 1, none⟩) hB _

end Go.Proofs.YthmbbkbmlnaghaaDoor.P
end
section
/-
 (*strings.Builder).WriteRune (the shelf's proof, turned to this program).
-/
namespace Go.Proofs.YthmbbkbmlnaghaaDoor.P
open Go.RowKit Go.Shelf Go.Proofs.YthmbbkbmlnaghaaDoorW.PrintWords Go.Proofs.YthmbbkbmlnaghaaDoorW.PrintLast Go.Proofs.YthmbbkbmlnaghaaDoorW.PrintMore
set_option linter.unusedVariables false
set_option linter.unusedSimpArgs false

set_option maxHeartbeats 4000000 in
set_option maxRecDepth 100000 in
theorem bld_WriteRune_k (B b : Nat) (bs : List Value) (r : Int) (hr0 : -2147483648 ≤ r) (hr1 : r ≤ 2147483647) (w : World) (h : Lib.IsBuilderF 49 5 B b bs w) (hlen : bs.length + 4 ≤ 140737488355328) (hBw : B ≤ w.heap.size) :
  Calls Tryd.prog 29 #[.pointer (some ⟨b, 0, none⟩), .int .i32 r] w fun e w' => e = .returned (.tuple #[.int .i64 (Lib.runeCells r).length, .nilIface]) ∧ (Lib.BuilderAtF 49 5 B b (.pointer (some ⟨b, 0, none⟩)) (bs ++ Lib.runeCells r) w' ∧ Below B w w' ∧ Lib.OthersKept 5 (some b) w w') := by
 have hk4 := Lib.runeCells_le r
 go_enter Tryd.func29, Tryd.ntmps29
 go_wp2_with (go_at_call 47; refine (bld_copyCheck_k B b bs _ h).mono ?_)
 rintro e w1 ⟨rfl, h1, hb1, hk1⟩
 obtain ⟨hB, v, hbk, hown, hne⟩ := h1
 obtain ⟨ao, cap, rfl⟩ : ∃ ao cap, v = .slice ao bs.length cap := by
  rcases hown.2 with ⟨hv, h0⟩ | ⟨g, cap, cur, fz, hv, _⟩
  ·exact ⟨none, 0, by rw [hv, h0]⟩
  ·exact ⟨_, _, hv⟩
 have c0 : w1.cell? ⟨b, 0, none⟩ = some (.pointer (some ⟨b, 0, none⟩)) := by rw [Lib.cell_of_heap hbk]; rfl
 have c1 : w1.cell? ⟨b, 1, none⟩ = some (.slice ao bs.length cap) := by rw [Lib.cell_of_heap hbk]; rfl
 go_wp2_with (go_at_call 48; refine (Tryd.utf8_AppendRune_row B _ bs.length bs r hr0 hr1 _ hown hlen (by have := hb1.size; omega)).mono ?_)
 rintro e w2 ⟨v', rfl, hown', o, hgrow⟩
 have hlt : b < w1.heap.size := by
  rcases Nat.lt_or_ge b w1.heap.size with h' | h'
  ·exact h'
  ·simp [Array.getElem?_eq_none h'] at hbk
 have hb2 : w2.heap[b]? = some (.cells #[.pointer (some ⟨b, 0, none⟩), .slice ao bs.length cap] 49 (0, 0)) := by
  rw [hgrow.block b (by simp; omega) (fun e => hne e.symm), Lib.alloc_old w1 _ b hlt]
  exact hbk
 have d0 : w2.cell? ⟨b, 0, none⟩ = some (.pointer (some ⟨b, 0, none⟩)) := by rw [Lib.cell_of_heap hb2]; rfl
 have d1 : w2.cell? ⟨b, 1, none⟩ = some (.slice ao bs.length cap) := by rw [Lib.cell_of_heap hb2]; rfl
 have f1 : w2.frozen? ⟨b, 1, none⟩ = false := Lib.frozen_of_heap hb2 1
 obtain ⟨g, cap', rfl⟩ : ∃ g cap', v' = .slice (some ⟨g, 0, none⟩) (bs.length + (Lib.runeCells r).length) cap' := by
  rcases hown'.2 with ⟨_, h0⟩ | ⟨g, cap', cur, fz, hv, _⟩
  ·omega
  ·exact ⟨g, cap', hv⟩
 go_wp2
 go_ret2
 refine ⟨?_, ?_, ?_, ((hk1.alloc _).grown hgrow (Lib.ownsRowF_kind (hown.alloc _))).setCell ⟨b, 1, none⟩ rfl _⟩
 ·have e : ((bs.length : Int) + ((Lib.runeCells r).length : Int) - (bs.length : Int)) = ((Lib.runeCells r).length : Int) := by omega
  simp [e]
 ·exact Lib.BuilderAtF.put (T := 49) (e := 5) hB hb2 (bs' := bs ++ Lib.runeCells r) (by simpa using hown') (by decide)
 ·exact ((hb1.alloc (by have := hb1.size; omega) _).grown hgrow (by have := hb1.size; simp; omega) (fun k hk => (hown.lt k hk).1)).setCell (p := ⟨b, 1, none⟩) hB _

end Go.Proofs.YthmbbkbmlnaghaaDoor.P
end
section
/-
 (*strings.Builder).WriteByte (the shelf's proof, turned to this program).
-/
namespace Go.Proofs.YthmbbkbmlnaghaaDoor.P
open Go.RowKit Go.Shelf Go.Proofs.YthmbbkbmlnaghaaDoorW.PrintWords Go.Proofs.YthmbbkbmlnaghaaDoorW.PrintLast Go.Proofs.YthmbbkbmlnaghaaDoorW.PrintMore
set_option linter.unusedVariables false
set_option linter.unusedSimpArgs false

set_option maxHeartbeats 2000000 in
set_option maxRecDepth 100000 in
theorem bld_WriteByte_k (B b : Nat) (bs : List Value) (c : Int) (w : World) (h : Lib.IsBuilderF 49 5 B b bs w) (hlen : bs.length + 1 ≤ 140737488355328) (hBw : B ≤ w.heap.size) :
  Calls Tryd.prog 30 #[.pointer (some ⟨b, 0, none⟩), .int .u8 c] w fun e w' => e = .returned .nilIface ∧ (Lib.BuilderAtF 49 5 B b (.pointer (some ⟨b, 0, none⟩)) (bs ++ [.int .u8 c]) w' ∧ Below B w w' ∧ Lib.OthersKept 5 (some b) w w') := by
 obtain ⟨i0, hi, hz0, hz1, hz2⟩ := info_parts bldByte
 go_enter Tryd.func30, Tryd.ntmps30
 go_wp2_with (go_at_call 47; refine (bld_copyCheck_k B b bs _ h).mono ?_)
 rintro e w1 ⟨rfl, h1, hb1, hk1⟩
 obtain ⟨hB, v, hbk, hown, hne⟩ := h1
 have c0 : w1.cell? ⟨b, 0, none⟩ = some (.pointer (some ⟨b, 0, none⟩)) := by rw [Lib.cell_of_heap hbk]; rfl
 have c1 : w1.cell? ⟨b, 1, none⟩ = some v := by rw [Lib.cell_of_heap hbk]; rfl
 go_wp2_with (at_builtin; refine wpList_append_ownF _ rfl _ _ 46 rfl B 5 i0 (.int .u8 0) 1 1 Tryd.underlying46 hi hz0 hz1 hz2 rfl (by decide) _ _ _ rfl (hown.alloc _) ⟨w1.heap.size, 0, none⟩ 1 1 [.int .u8 c] rfl rfl ?c1 ?c2 ?c3 ?c4 ?c5 ?_)
 case c1 =>
  intro j u hj
  match j, hj with
  | 0, hj => simp at hj; subst hj; simp [Addr.add]
 case c2 => intro u hu; simp at hu; subst hu; rfl
 case c3 => unfold maxLen; omega
 case c4 => omega
 case c5 => have := hb1.size; simp; omega
 intro v' w2 hown' hgrow _
 have hlt : b < w1.heap.size := by
  rcases Nat.lt_or_ge b w1.heap.size with h' | h'
  ·exact h'
  ·simp [Array.getElem?_eq_none h'] at hbk
 have hb2 : w2.heap[b]? = some (.cells #[.pointer (some ⟨b, 0, none⟩), v] 49 (0, 0)) := by
  rw [hgrow.block b (by simp; omega) (fun e => hne e.symm), Lib.alloc_old w1 _ b hlt]
  exact hbk
 have d0 : w2.cell? ⟨b, 0, none⟩ = some (.pointer (some ⟨b, 0, none⟩)) := by rw [Lib.cell_of_heap hb2]; rfl
 have d1 : w2.cell? ⟨b, 1, none⟩ = some v := by rw [Lib.cell_of_heap hb2]; rfl
 have f1 : w2.frozen? ⟨b, 1, none⟩ = false := Lib.frozen_of_heap hb2 1
 obtain ⟨g, cap, rfl⟩ : ∃ g cap, v' = .slice (some ⟨g, 0, none⟩) (bs.length + 1) cap := by
  rcases hown'.2 with ⟨_, h0⟩ | ⟨g, cap, cur, fz, hv, _⟩
  ·omega
  ·exact ⟨g, cap, hv⟩
 go_wp2
 go_ret
 refine ⟨rfl, ?_, ?_, ((hk1.alloc _).grown hgrow (Lib.ownsRowF_kind (hown.alloc _))).setCell ⟨b, 1, none⟩ rfl _⟩
 ·exact Lib.BuilderAtF.put (T := 49) (e := 5) hB hb2 (bs' := bs ++ [.int .u8 c]) (by simpa using hown') (by decide)
 ·exact ((hb1.alloc (by have := hb1.size; omega) _).grown hgrow (by have := hb1.size; simp; omega) (fun k hk => (hown.lt k hk).1)).setCell (p := ⟨b, 1, none⟩) hB _

end Go.Proofs.YthmbbkbmlnaghaaDoor.P
end
section
namespace Go.Proofs.YthmbbkbmlnaghaaDoor.P
open Go.RowKit Go.Proofs.YthmbbkbmlnaghaaDoorW.PrintWords Go.Proofs.YthmbbkbmlnaghaaDoorW.PrintLast Go.Proofs.YthmbbkbmlnaghaaDoorW.PrintMore
attribute [local go_sem] max2_int min2_int max_two min_two max_three min_three max_four min_four   -- for this text's walks alone
set_option linter.unusedVariables false
set_option linter.unusedSimpArgs false

/-! ### names_Digit: function 37 -/
def names_Digit.f (a0 : Int) : Option (Bool) := if a0 ≥ 48 then (some (decide (a0 ≤ 57))) else (some false)
set_option maxHeartbeats 8000000 in
set_option maxRecDepth 100000 in
theorem names_Digit.calls (a0 : Int) (r : Bool) (w : World) (h : names_Digit.f a0 = some r) :
  Calls Tryd.prog 37 #[.int .i32 a0] w fun e w' => e = .returned (.bool r) ∧ Drawn0 w w' := by
 have H : (if a0 ≥ 48 then (some (decide (a0 ≤ 57))) else (some false)) = some r := h
 clear h
 by_cases c2 : a0 ≥ 48
 ·rw [if_pos c2] at H
  have c2b0 : decide (48 ≤ a0) = true := decide_eq_true c2
  clear c2
  obtain rfl := Option.some.inj H
  go_enter Tryd.func37, Tryd.ntmps37
  go_wp2
  go_ret
  exact ⟨by first | rfl | (simp; done) | (simp [*]; done), by repeat (first | exact Drawn0.refl _ | apply Drawn0.step)⟩
 ·rw [if_neg c2] at H
  have c2b0 : decide (48 ≤ a0) = false := decide_eq_false c2
  clear c2
  obtain rfl := Option.some.inj H
  go_enter Tryd.func37, Tryd.ntmps37
  go_wp2
  go_ret
  exact ⟨by first | rfl | (simp; done) | (simp [*]; done), by repeat (first | exact Drawn0.refl _ | apply Drawn0.step)⟩

/-! ### names_Value: function 17 -/
def names_Value.j0 : Nat → Int → Bool → Option (Int)
 | 0, _, _ => none
 | k + 1, x0, x9 => if x9 = true then (some (wrap64 ((wrap64 (wrap32 (x0 - 97))) + 10))) else (if x0 ≥ 65 then (if x0 ≤ 70 then (some (wrap64 ((wrap64 (wrap32 (x0 - 65))) + 10))) else (some (-1))) else (some (-1)))
def names_Value.f (k : Nat) (a0 : Int) : Option (Int) := (names_Digit.f a0).bind fun t101 => (if t101 = true then (some (wrap64 (wrap32 (a0 - 48)))) else (if a0 ≥ 97 then (names_Value.j0 k a0 (decide (a0 ≤ 102))) else (names_Value.j0 k a0 false)))
theorem names_Value.mono_l : ∀ k, (∀ y0 y1, LeO (names_Value.j0 k y0 y1) (names_Value.j0 (k + 1) y0 y1))
 | 0 => fun _ _ r h => by simp [names_Value.j0] at h
 | k + 1 => by
  have ih0 := names_Value.mono_l k
  ·intro y0 y1
   unfold names_Value.j0
   repeat' first
   | (with_reducible exact ih0 _ _)
   | (with_reducible exact LeO.refl _)
   | (with_reducible exact LeO.none _)
   | (with_reducible refine LeO.ite ?_ ?_)
   | (with_reducible refine LeO.bind ?_ (fun _ => ?_))
   | exact ih0 _ _
   | exact LeO.none _
   | refine LeO.ite ?_ ?_
   | refine LeO.bind ?_ (fun _ => ?_)
theorem names_Value.mono : ∀ a0 k, LeO (names_Value.f k a0) (names_Value.f (k + 1) a0) := by
 intro a0 k
 have ih0 := names_Value.mono_l k
 unfold names_Value.f
 repeat' first
   | (with_reducible exact ih0 _ _)
   | (with_reducible exact LeO.refl _)
   | (with_reducible exact LeO.none _)
   | (with_reducible refine LeO.ite ?_ ?_)
   | (with_reducible refine LeO.bind ?_ (fun _ => ?_))
   | exact ih0 _ _
   | exact LeO.none _
   | refine LeO.ite ?_ ?_
   | refine LeO.bind ?_ (fun _ => ?_)
set_option maxHeartbeats 8000000 in
set_option maxRecDepth 100000 in
theorem names_Value.calls (k : Nat) (a0 : Int) (r : Int) (w : World) (h : names_Value.f k a0 = some r) :
  Calls Tryd.prog 17 #[.int .i32 a0] w fun e w' => e = .returned (.int .i64 r) ∧ Drawn0 w w' := by
 have H : ((names_Digit.f a0).bind fun t101 => (if t101 = true then (some (wrap64 (wrap32 (a0 - 48)))) else (if a0 ≥ 97 then (names_Value.j0 k a0 (decide (a0 ≤ 102))) else (names_Value.j0 k a0 false)))) = some r := h
 clear h
 replace H := Option.bind_eq_some_iff.mp H
 obtain ⟨t101, A20, H⟩ := H
 replace H : (if t101 = true then (some (wrap64 (wrap32 (a0 - 48)))) else (if a0 ≥ 97 then (names_Value.j0 k a0 (decide (a0 ≤ 102))) else (names_Value.j0 k a0 false))) = some r := H
 have A2 := Aside0.mk A20
 clear A20
 by_cases c3 : t101 = true
 ·subst c3
  have H1 : (some (wrap64 (wrap32 (a0 - 48)))) = some r := by rw [if_pos rfl] at H; exact H
  clear H
  have H := H1
  clear H1
  obtain rfl := Option.some.inj H
  go_enter Tryd.func17, Tryd.ntmps17
  go_wp2_with (first | ((with_reducible refine gate_callee (f := 37) rfl ?_); refine goesL_ (some 5) rfl rfl Tryd.func37 (by kernel_rfl) rfl #[.int .i32 a0] rfl (by (try simp only [List.map_toArray, List.map_cons, List.map_nil]); first | done | rfl | (simp only [List.length_drop, List.length_take]; rfl) | (simp [*] <;> rfl)) ?_; (with_reducible refine (names_Digit.calls a0 true _ A2.out).mono ?_); rintro e w' ⟨rfl, ⟨nd, rfl⟩⟩; refine ⟨_, rfl, ?_⟩))
  go_ret
  exact ⟨by first | rfl | (simp; done) | (simp [*]; done), by repeat (first | exact Drawn0.refl _ | apply Drawn0.step)⟩
 ·replace c3 := Bool.eq_false_iff.mpr c3
  subst c3
  have H1 : (if a0 ≥ 97 then (names_Value.j0 k a0 (decide (a0 ≤ 102))) else (names_Value.j0 k a0 false)) = some r := by rw [if_neg (show ¬ (false = true) by decide)] at H; exact H
  clear H
  have H := H1
  clear H1
  have HC4 := Aside0.mk H
  clear H
  go_enter Tryd.func17, Tryd.ntmps17
  go_upto_region 3 with (first | ((with_reducible refine gate_callee (f := 37) rfl ?_); refine goesL_ (some 5) rfl rfl Tryd.func37 (by kernel_rfl) rfl #[.int .i32 a0] rfl (by (try simp only [List.map_toArray, List.map_cons, List.map_nil]); first | done | rfl | (simp only [List.length_drop, List.length_take]; rfl) | (simp [*] <;> rfl)) ?_; (with_reducible refine (names_Digit.calls a0 false _ A2.out).mono ?_); rintro e w' ⟨rfl, ⟨nd, rfl⟩⟩; refine ⟨_, rfl, ?_⟩))
  (try simp only [Act.put, List.setIfInBounds_toArray, List.set_cons_zero, List.set_cons_succ])
  go_cut [9] (fun v9 wc => ∃ (kq : Nat) (x9_3 : Bool), v9 = .bool x9_3 ∧ Aside0 (names_Value.j0 kq a0 x9_3 = some r) ∧ Aside0 (kq ≤ k) ∧ Drawn0 w wc)
  case first =>
   have H := HC4.out
   clear HC4
   by_cases c5 : a0 ≥ 97
   ·rw [if_pos c5] at H
    have c5b0 : decide (97 ≤ a0) = true := decide_eq_true c5
    clear c5
    (first | rw [c5b0] | (simp only [i64_w, i32_w]; rw [c5b0]) | skip)
    have H' := Aside0.mk H
    clear H
    go_wp2
    go_meet
    case rel => exact ⟨_, (decide (a0 ≤ 102)), (by first | rfl | (simp; done) | (simp [*]; done) | (unfold bt; split <;> first | rfl | (exfalso; simp_all; done) | (exfalso; simp_all; omega))), H', ⟨by first | omega | exact Nat.le_refl _⟩, by repeat (first | exact Drawn0.refl _ | apply Drawn0.step)⟩
   ·rw [if_neg c5] at H
    have c5b0 : decide (97 ≤ a0) = false := decide_eq_false c5
    clear c5
    (first | rw [c5b0] | (simp only [i64_w, i32_w]; rw [c5b0]) | skip)
    have H' := Aside0.mk H
    clear H
    go_wp2
    go_meet
    case rel => exact ⟨_, (false), (by first | rfl | (simp; done) | (simp [*]; done) | (unfold bt; split <;> first | rfl | (exfalso; simp_all; done) | (exfalso; simp_all; omega))), H', ⟨by first | omega | exact Nat.le_refl _⟩, by repeat (first | exact Drawn0.refl _ | apply Drawn0.step)⟩
  case rest =>
   clear HC4
   try clear c1
   try clear p2
   try clear c3
   try clear p3
   try clear c5
   try clear c5b0
   obtain ⟨kq, x9_3, rfl, HA, HJ3, ⟨mc3, rfl⟩⟩ := hcut
   cases kq with
   | zero => exact absurd HA.out (by simp [names_Value.j0])
   | succ kj3 =>
    have H := HA.out
    clear HA
    simp only [names_Value.j0] at H
    by_cases c6 : x9_3 = true
    ·subst c6
     have H1 : (some (wrap64 ((wrap64 (wrap32 (a0 - 97))) + 10))) = some r := by rw [if_pos rfl] at H; exact H
     clear H
     have H := H1
     clear H1
     obtain rfl := Option.some.inj H
     go_wp2
     go_ret
     exact ⟨by first | rfl | (simp; done) | (simp [*]; done), by repeat (first | exact Drawn0.refl _ | apply Drawn0.step)⟩
    ·replace c6 := Bool.eq_false_iff.mpr c6
     subst c6
     have H1 : (if a0 ≥ 65 then (if a0 ≤ 70 then (some (wrap64 ((wrap64 (wrap32 (a0 - 65))) + 10))) else (some (-1))) else (some (-1))) = some r := by rw [if_neg (show ¬ (false = true) by decide)] at H; exact H
     clear H
     have H := H1
     clear H1
     by_cases c7 : a0 ≥ 65
     ·rw [if_pos c7] at H
      have c7b0 : decide (65 ≤ a0) = true := decide_eq_true c7
      clear c7
      by_cases c8 : a0 ≤ 70
      ·rw [if_pos c8] at H
       have c8b0 : decide (a0 ≤ 70) = true := decide_eq_true c8
       clear c8
       obtain rfl := Option.some.inj H
       go_wp2
       go_ret
       exact ⟨by first | rfl | (simp; done) | (simp [*]; done), by repeat (first | exact Drawn0.refl _ | apply Drawn0.step)⟩
      ·rw [if_neg c8] at H
       have c8b0 : decide (a0 ≤ 70) = false := decide_eq_false c8
       clear c8
       obtain rfl := Option.some.inj H
       go_wp2
       go_ret
       exact ⟨by first | rfl | (simp; done) | (simp [*]; done), by repeat (first | exact Drawn0.refl _ | apply Drawn0.step)⟩
     ·rw [if_neg c7] at H
      have c7b0 : decide (65 ≤ a0) = false := decide_eq_false c7
      clear c7
      obtain rfl := Option.some.inj H
      go_wp2
      go_ret
      exact ⟨by first | rfl | (simp; done) | (simp [*]; done), by repeat (first | exact Drawn0.refl _ | apply Drawn0.step)⟩

-- NOT PRINTED: function 28 (charref_windows)

-- NOT PRINTED: function 70 (strconv_small)

-- NOT PRINTED: function 86 (strconv_log10Pow2)

-- NOT PRINTED: function 87 (bits_Len64)

-- NOT PRINTED: function 88 (strconv_bool2_int)

-- NOT PRINTED: function 71 (strconv_numDigits)

-- NOT PRINTED: function 72 (strconv_formatBase10)

-- NOT PRINTED: function 89 (strconv_isPowerOfTwo)

-- NOT PRINTED: function 97 (bits_TrailingZeros32)

-- NOT PRINTED: function 98 (bits_TrailingZeros64)

-- NOT PRINTED: function 90 (bits_TrailingZeros)

-- NOT PRINTED: function 73 (strconv_formatBits)

-- NOT PRINTED: function 55 (strconv_FormatInt_55)

-- NOT PRINTED: function 39 (strconv_Itoa_39)

-- NOT PRINTED: function 21 (strconv_Itoa_21)

-- NOT PRINTED: function 9 (charref_Encode)

-- NOT PRINTED: function 63 (abi_NoEscape)

-- NOT PRINTED: function 47 (strings_Builder_copyCheck)

-- NOT PRINTED: function 32 (strings_Builder_WriteString)

-- NOT PRINTED: function 35 (strings_Builder_String)

/-! ### stringslite_HasPrefix: function 92 -/
def stringslite_HasPrefix.f (a0 : ByteArray) (a1 : ByteArray) : Option (Bool) := if (a0.size : Int) ≥ (a1.size : Int) then (if 0 ≤ (a1.size : Int) then (if (a1.size : Int) ≤ (a0.size : Int) then (some ((a0.extract 0 ((a1.size : Int) : Int).toNat).toList == a1.toList)) else (none)) else (none)) else (some false)
set_option maxHeartbeats 8000000 in
set_option maxRecDepth 100000 in
theorem stringslite_HasPrefix.calls (a0 : ByteArray) (a1 : ByteArray) (r : Bool) (w : World) (h : stringslite_HasPrefix.f a0 a1 = some r) :
  Calls Tryd.prog 92 #[.string a0, .string a1] w fun e w' => e = .returned (.bool r) ∧ Drawn0 w w' := by
 have H : (if (a0.size : Int) ≥ (a1.size : Int) then (if 0 ≤ (a1.size : Int) then (if (a1.size : Int) ≤ (a0.size : Int) then (some ((a0.extract 0 ((a1.size : Int) : Int).toNat).toList == a1.toList)) else (none)) else (none)) else (some false)) = some r := h
 clear h
 by_cases c3 : (a0.size : Int) ≥ (a1.size : Int)
 ·rw [if_pos c3] at H
  have c3b0 : decide ((a1.size : Int) ≤ (a0.size : Int)) = true := decide_eq_true c3
  have c3b1 : decide (a1.size ≤ a0.size) = true := decide_eq_true (Int.ofNat_le.mp c3)
  clear c3
  by_cases c4 : 0 ≤ (a1.size : Int)
  ·rw [if_pos c4] at H
   have c4b0 := eq_true c4
   have c4b1 : decide (0 ≤ (a1.size : Int)) = true := decide_eq_true c4
   clear c4
   by_cases c5 : (a1.size : Int) ≤ (a0.size : Int)
   ·rw [if_pos c5] at H
    have c5b0 := eq_true c5
    have c5b1 : decide ((a1.size : Int) ≤ (a0.size : Int)) = true := decide_eq_true c5
    clear c5
    obtain rfl := Option.some.inj H
    go_enter Tryd.func92, Tryd.ntmps92
    go_wp2
    go_ret
    exact ⟨by first | rfl | (simp; done) | (simp [*]; done), by repeat (first | exact Drawn0.refl _ | apply Drawn0.step)⟩
   ·rw [if_neg c5] at H
    exact absurd H (by simp)
  ·rw [if_neg c4] at H
   exact absurd H (by simp)
 ·rw [if_neg c3] at H
  have c3b0 : decide ((a1.size : Int) ≤ (a0.size : Int)) = false := decide_eq_false c3
  have c3b1 : decide (a1.size ≤ a0.size) = false := decide_eq_false (fun h => c3 (Int.ofNat_le.mpr h))
  clear c3
  obtain rfl := Option.some.inj H
  go_enter Tryd.func92, Tryd.ntmps92
  go_wp2
  go_ret
  exact ⟨by first | rfl | (simp; done) | (simp [*]; done), by repeat (first | exact Drawn0.refl _ | apply Drawn0.step)⟩

/-! ### strings_HasPrefix: function 75 -/
def strings_HasPrefix.f (a0 : ByteArray) (a1 : ByteArray) : Option (Bool) := (stringslite_HasPrefix.f a0 a1).bind fun t118 => (some t118)
set_option maxHeartbeats 8000000 in
set_option maxRecDepth 100000 in
theorem strings_HasPrefix.calls (a0 : ByteArray) (a1 : ByteArray) (r : Bool) (w : World) (h : strings_HasPrefix.f a0 a1 = some r) :
  Calls Tryd.prog 75 #[.string a0, .string a1] w fun e w' => e = .returned (.bool r) ∧ Drawn0 w w' := by
 have H : ((stringslite_HasPrefix.f a0 a1).bind fun t118 => (some t118)) = some r := h
 clear h
 replace H := Option.bind_eq_some_iff.mp H
 obtain ⟨t118, A30, H⟩ := H
 replace H : (some t118) = some r := H
 have A3 := Aside0.mk A30
 clear A30
 obtain rfl := Option.some.inj H
 go_enter Tryd.func75, Tryd.ntmps75
 go_wp2_with (first | ((with_reducible refine gate_callee (f := 92) rfl ?_); refine goesL_ (some 7) rfl rfl Tryd.func92 (by kernel_rfl) rfl #[.string a0, .string a1] rfl (by (try simp only [List.map_toArray, List.map_cons, List.map_nil]); first | done | rfl | (simp only [List.length_drop, List.length_take]; rfl) | (simp [*] <;> rfl)) ?_; (with_reducible refine (stringslite_HasPrefix.calls a0 a1 t118 _ A3.out).mono ?_); rintro e w' ⟨rfl, ⟨nd, rfl⟩⟩; refine ⟨_, rfl, ?_⟩))
 go_ret
 exact ⟨by first | rfl | (simp; done) | (simp [*]; done), by repeat (first | exact Drawn0.refl _ | apply Drawn0.step)⟩

/-! ### entity_says: function 51 -/
def entity_says.f (a0_0 : ByteArray) (a0_1 : Int) (a0_2 : Int) (a0_3 : Bool) : Option (List Int) := if a0_2 = 0 then (some (([a0_1] : List Int))) else (some (([a0_1, a0_2] : List Int)))
set_option maxHeartbeats 8000000 in
set_option maxRecDepth 100000 in
theorem entity_says.calls (a0_0 : ByteArray) (a0_1 : Int) (a0_2 : Int) (a0_3 : Bool) (r : List Int) (w : World) (h : entity_says.f a0_0 a0_1 a0_2 a0_3 = some r) :
  Calls Tryd.prog 51 #[.agg #[.string a0_0, .int .i32 a0_1, .int .i32 a0_2, .bool a0_3]] w fun e w' => ∃ v0_ : Value, e = .returned (v0_) ∧ Kd.R (Kd.int .i32) 21 w' w.heap.size (fun _ => True) v0_ r ∧ Below w.heap.size w w' := by
 have hu75 := Tryd.underlying75
 have HB := Aside0.mk (Below.refl w.heap.size w)
 have H : (if a0_2 = 0 then (some (([a0_1] : List Int))) else (some (([a0_1, a0_2] : List Int)))) = some r := h
 clear h
 by_cases c2 : a0_2 = 0
 ·rw [if_pos c2] at H
  have c2b0 : (a0_2 == 0) = true := beq_iff_eq.mpr c2
  have c2b1 : (a0_2 != 0) = false := bne_eq_false_iff_eq.mpr c2
  clear c2
  obtain ⟨y120, hy120⟩ : ∃ y_ : List Int, y_ = (([a0_1] : List Int)) := ⟨_, rfl⟩
  replace H : (some y120) = some r := by first | (rw [hy120]; with_reducible exact H) | (have H2_ := (Option.bind_some _ _).symm.trans H; rw [hy120]; with_reducible exact H2_) | (have H2_ := (Option.bind_some _ _).symm.trans H; with_reducible exact H2_) | with_reducible exact H | (rw [hy120]; exact H) | exact H
  have Ny120 := Aside0.mk hy120
  clear hy120
  obtain rfl := Option.some.inj H
  go_enter Tryd.func51, Tryd.ntmps51
  go_wp2_with (first | ((with_reducible refine gate_dst (N := 1) rfl ?_); refine box_event ?hg (N := 1) ?hd (cs := #[.string a0_0, .int .i32 a0_1, .int .i32 a0_2, .bool a0_3]) (t := 75) ?hr ?_; (case hd => rfl); (case hg => rfl); (case hr => first | (go_simp; done) | (go_simp; rfl)); intro gb119 hg w3 hbox hb; have n0_ := Aside0.mk (below_step (by repeat (first | (with_reducible first | exact HB.out | apply below_alloc | apply pw_below_drewN | apply below_drew1) | exact HB.out)) hb); have n1_ := Aside0.mk (hbox); have n2_ := Aside0.mk ((by rw [hg]; exact (below_size (by repeat (first | (with_reducible first | exact HB.out | apply below_alloc | apply pw_below_drewN | apply below_drew1) | exact HB.out))) : w.heap.size ≤ gb119)); have n3_ := Aside0.mk ((by rw [hg]; exact (below_size (by repeat (first | (with_reducible first | exact HB.out | apply below_alloc | apply pw_below_drewN | apply below_drew1) | exact HB.out))) : w.heap.size ≤ gb119)); clear HB; have HB := n0_; have BK119 := n1_; have GW119 := n2_; have GE119 := n3_; clear n0_ n1_ n2_ n3_; clear hb hbox hg; have hcz4_0 : w3.cell? ⟨gb119, 0, none⟩ = some (.string a0_0) := (blk_cell BK119.out 0).trans rfl; have hcz4_1 : w3.cell? ⟨gb119, 1, none⟩ = some (.int .i32 a0_1) := (blk_cell BK119.out 1).trans rfl; have hcz4_2 : w3.cell? ⟨gb119, 2, none⟩ = some (.int .i32 a0_2) := (blk_cell BK119.out 2).trans rfl; have hcz4_3 : w3.cell? ⟨gb119, 3, none⟩ = some (.bool a0_3) := (blk_cell BK119.out 3).trans rfl; have hfz4_0 := blk_frozen BK119.out 0; have hfz4_1 := blk_frozen BK119.out 1; have hfz4_2 := blk_frozen BK119.out 2; have hfz4_3 := blk_frozen BK119.out 3) | ((with_reducible refine gate_dst (N := 13) rfl ?_); refine Kd.R_lit (Kd.int .i32) _ 21 ?hg (N := 13) ?hd (xs := ([a0_1] : List Int)) (inner := [.int .i32 a0_1]) (ok := fun _ => True) (okp := fun _ => True) ?hr ?hp (fun _ hk => hk) trivial (Below.refl _ _) (Nat.le_refl _) (by simp) ?_; (case hd => rfl); (case hg => rfl); (case hr => first | (go_simp; done) | (go_simp; rfl)); (case hp => exact (Reps.one (show Kd.M (Kd.int .i32) _ _ _ a0_1 [.int .i32 a0_1] from rfl) (Reps.none _ _))); intro v121 w5 ho6 hb hg_ hnew_; clear hg_ hnew_; (first | rw [← Ny120.out] at ho6 | (simp only [Int.reduceToNat] at ho6; rw [← Ny120.out] at ho6)); have n0_ := Aside0.mk (Kd.R_lower ho6 (below_size (by repeat (first | (with_reducible first | exact HB.out | apply below_alloc | apply pw_below_drewN | apply below_drew1 | refine below_set ?_ GE119.out) | exact HB.out)))); have n1_ := Aside0.mk (blk_below (g := gb119) (o := .cells #[.string a0_0, .int .i32 a0_1, .int .i32 a0_2, .bool a0_3] 75 (0, 0)) (by (with_reducible repeat (first | refine blk_drewN ?_ _ | refine blk_drew ?_ | refine blk_alloc ?_ _)); exact BK119.out) hb); have n2_ := Aside0.mk (below_step (by repeat (first | (with_reducible first | exact HB.out | apply below_alloc | apply pw_below_drewN | apply below_drew1 | refine below_set ?_ GE119.out) | exact HB.out)) hb); clear BK119; clear HB; have HO122 := n0_; have BK119 := n1_; have HB := n2_; clear n0_ n1_ n2_; clear hb ho6))
  go_ret
  exact ⟨_, by first | rfl | (simp [errW_none, errW_some] <;> rfl) | (simp [*, errW_none, errW_some] <;> rfl), by (with_reducible repeat (first | apply Kd.R_alloc | apply Kd.R_drewN | apply Kd.R_drew)); exact HO122.out, by repeat (first | (with_reducible first | exact HB.out | apply below_alloc | apply pw_below_drewN | apply below_drew1 | refine below_set ?_ GE119.out) | exact HB.out)⟩
 ·rw [if_neg c2] at H
  have c2b0 : (a0_2 == 0) = false := beq_eq_false_iff_ne.mpr c2
  have c2b1 : (a0_2 != 0) = true := bne_iff_ne.mpr c2
  obtain ⟨y123, hy123⟩ : ∃ y_ : List Int, y_ = (([a0_1, a0_2] : List Int)) := ⟨_, rfl⟩
  replace H : (some y123) = some r := by first | (rw [hy123]; with_reducible exact H) | (have H2_ := (Option.bind_some _ _).symm.trans H; rw [hy123]; with_reducible exact H2_) | (have H2_ := (Option.bind_some _ _).symm.trans H; with_reducible exact H2_) | with_reducible exact H | (rw [hy123]; exact H) | exact H
  have Ny123 := Aside0.mk hy123
  clear hy123
  obtain rfl := Option.some.inj H
  go_enter Tryd.func51, Tryd.ntmps51
  go_wp2_with (first | ((with_reducible refine gate_dst (N := 1) rfl ?_); refine box_event ?hg (N := 1) ?hd (cs := #[.string a0_0, .int .i32 a0_1, .int .i32 a0_2, .bool a0_3]) (t := 75) ?hr ?_; (case hd => rfl); (case hg => rfl); (case hr => first | (go_simp; done) | (go_simp; rfl)); intro gb119 hg w7 hbox hb; have n0_ := Aside0.mk (below_step (by repeat (first | (with_reducible first | exact HB.out | apply below_alloc | apply pw_below_drewN | apply below_drew1) | exact HB.out)) hb); have n1_ := Aside0.mk (hbox); have n2_ := Aside0.mk ((by rw [hg]; exact (below_size (by repeat (first | (with_reducible first | exact HB.out | apply below_alloc | apply pw_below_drewN | apply below_drew1) | exact HB.out))) : w.heap.size ≤ gb119)); have n3_ := Aside0.mk ((by rw [hg]; exact (below_size (by repeat (first | (with_reducible first | exact HB.out | apply below_alloc | apply pw_below_drewN | apply below_drew1) | exact HB.out))) : w.heap.size ≤ gb119)); clear HB; have HB := n0_; have BK119 := n1_; have GW119 := n2_; have GE119 := n3_; clear n0_ n1_ n2_ n3_; clear hb hbox hg; have hcz8_0 : w7.cell? ⟨gb119, 0, none⟩ = some (.string a0_0) := (blk_cell BK119.out 0).trans rfl; have hcz8_1 : w7.cell? ⟨gb119, 1, none⟩ = some (.int .i32 a0_1) := (blk_cell BK119.out 1).trans rfl; have hcz8_2 : w7.cell? ⟨gb119, 2, none⟩ = some (.int .i32 a0_2) := (blk_cell BK119.out 2).trans rfl; have hcz8_3 : w7.cell? ⟨gb119, 3, none⟩ = some (.bool a0_3) := (blk_cell BK119.out 3).trans rfl; have hfz8_0 := blk_frozen BK119.out 0; have hfz8_1 := blk_frozen BK119.out 1; have hfz8_2 := blk_frozen BK119.out 2; have hfz8_3 := blk_frozen BK119.out 3) | ((with_reducible refine gate_dst (N := 10) rfl ?_); refine Kd.R_lit (Kd.int .i32) _ 21 ?hg (N := 10) ?hd (xs := ([a0_1, a0_2] : List Int)) (inner := [.int .i32 a0_1, .int .i32 a0_2]) (ok := fun _ => True) (okp := fun _ => True) ?hr ?hp (fun _ hk => hk) trivial (Below.refl _ _) (Nat.le_refl _) (by simp) ?_; (case hd => rfl); (case hg => rfl); (case hr => first | (go_simp; done) | (go_simp; rfl)); (case hp => exact (Reps.one (show Kd.M (Kd.int .i32) _ _ _ a0_1 [.int .i32 a0_1] from rfl) (Reps.one (show Kd.M (Kd.int .i32) _ _ _ a0_2 [.int .i32 a0_2] from rfl) (Reps.none _ _)))); intro v124 w9 ho10 hb hg_ hnew_; clear hg_ hnew_; (first | rw [← Ny123.out] at ho10 | (simp only [Int.reduceToNat] at ho10; rw [← Ny123.out] at ho10)); have n0_ := Aside0.mk (Kd.R_lower ho10 (below_size (by repeat (first | (with_reducible first | exact HB.out | apply below_alloc | apply pw_below_drewN | apply below_drew1 | refine below_set ?_ GE119.out) | exact HB.out)))); have n1_ := Aside0.mk (blk_below (g := gb119) (o := .cells #[.string a0_0, .int .i32 a0_1, .int .i32 a0_2, .bool a0_3] 75 (0, 0)) (by (with_reducible repeat (first | refine blk_drewN ?_ _ | refine blk_drew ?_ | refine blk_alloc ?_ _)); exact BK119.out) hb); have n2_ := Aside0.mk (below_step (by repeat (first | (with_reducible first | exact HB.out | apply below_alloc | apply pw_below_drewN | apply below_drew1 | refine below_set ?_ GE119.out) | exact HB.out)) hb); clear BK119; clear HB; have HO125 := n0_; have BK119 := n1_; have HB := n2_; clear n0_ n1_ n2_; clear hb ho10))
  go_ret
  exact ⟨_, by first | rfl | (simp [errW_none, errW_some] <;> rfl) | (simp [*, errW_none, errW_some] <;> rfl), by (with_reducible repeat (first | apply Kd.R_alloc | apply Kd.R_drewN | apply Kd.R_drew)); exact HO125.out, by repeat (first | (with_reducible first | exact HB.out | apply below_alloc | apply pw_below_drewN | apply below_drew1 | refine below_set ?_ GE119.out) | exact HB.out)⟩

/-! ### names_Upper: function 93 -/
def names_Upper.f (a0 : Int) : Option (Bool) := if a0 ≥ 65 then (some (decide (a0 ≤ 90))) else (some false)
set_option maxHeartbeats 8000000 in
set_option maxRecDepth 100000 in
theorem names_Upper.calls (a0 : Int) (r : Bool) (w : World) (h : names_Upper.f a0 = some r) :
  Calls Tryd.prog 93 #[.int .i32 a0] w fun e w' => e = .returned (.bool r) ∧ Drawn0 w w' := by
 have H : (if a0 ≥ 65 then (some (decide (a0 ≤ 90))) else (some false)) = some r := h
 clear h
 by_cases c2 : a0 ≥ 65
 ·rw [if_pos c2] at H
  have c2b0 : decide (65 ≤ a0) = true := decide_eq_true c2
  clear c2
  obtain rfl := Option.some.inj H
  go_enter Tryd.func93, Tryd.ntmps93
  go_wp2
  go_ret
  exact ⟨by first | rfl | (simp; done) | (simp [*]; done), by repeat (first | exact Drawn0.refl _ | apply Drawn0.step)⟩
 ·rw [if_neg c2] at H
  have c2b0 : decide (65 ≤ a0) = false := decide_eq_false c2
  clear c2
  obtain rfl := Option.some.inj H
  go_enter Tryd.func93, Tryd.ntmps93
  go_wp2
  go_ret
  exact ⟨by first | rfl | (simp; done) | (simp [*]; done), by repeat (first | exact Drawn0.refl _ | apply Drawn0.step)⟩

/-! ### names_Letter: function 76 -/
def names_Letter.f (a0 : Int) : Option (Bool) := (names_Upper.f a0).bind fun t126 => (if t126 = true then (some true) else (if a0 ≥ 97 then (some (decide (a0 ≤ 122))) else (some false)))
set_option maxHeartbeats 8000000 in
set_option maxRecDepth 100000 in
theorem names_Letter.calls (a0 : Int) (r : Bool) (w : World) (h : names_Letter.f a0 = some r) :
  Calls Tryd.prog 76 #[.int .i32 a0] w fun e w' => e = .returned (.bool r) ∧ Drawn0 w w' := by
 have H : ((names_Upper.f a0).bind fun t126 => (if t126 = true then (some true) else (if a0 ≥ 97 then (some (decide (a0 ≤ 122))) else (some false)))) = some r := h
 clear h
 replace H := Option.bind_eq_some_iff.mp H
 obtain ⟨t126, A20, H⟩ := H
 replace H : (if t126 = true then (some true) else (if a0 ≥ 97 then (some (decide (a0 ≤ 122))) else (some false))) = some r := H
 have A2 := Aside0.mk A20
 clear A20
 by_cases c3 : t126 = true
 ·subst c3
  have H1 : (some true) = some r := by rw [if_pos rfl] at H; exact H
  clear H
  have H := H1
  clear H1
  obtain rfl := Option.some.inj H
  go_enter Tryd.func76, Tryd.ntmps76
  go_wp2_with (first | ((with_reducible refine gate_callee (f := 93) rfl ?_); refine goesL_ (some 4) rfl rfl Tryd.func93 (by kernel_rfl) rfl #[.int .i32 a0] rfl (by (try simp only [List.map_toArray, List.map_cons, List.map_nil]); first | done | rfl | (simp only [List.length_drop, List.length_take]; rfl) | (simp [*] <;> rfl)) ?_; (with_reducible refine (names_Upper.calls a0 true _ A2.out).mono ?_); rintro e w' ⟨rfl, ⟨nd, rfl⟩⟩; refine ⟨_, rfl, ?_⟩))
  go_ret
  exact ⟨by first | rfl | (simp; done) | (simp [*]; done), by repeat (first | exact Drawn0.refl _ | apply Drawn0.step)⟩
 ·replace c3 := Bool.eq_false_iff.mpr c3
  subst c3
  have H1 : (if a0 ≥ 97 then (some (decide (a0 ≤ 122))) else (some false)) = some r := by rw [if_neg (show ¬ (false = true) by decide)] at H; exact H
  clear H
  have H := H1
  clear H1
  by_cases c4 : a0 ≥ 97
  ·rw [if_pos c4] at H
   have c4b0 : decide (97 ≤ a0) = true := decide_eq_true c4
   clear c4
   obtain rfl := Option.some.inj H
   go_enter Tryd.func76, Tryd.ntmps76
   go_wp2_with (first | ((with_reducible refine gate_callee (f := 93) rfl ?_); refine goesL_ (some 4) rfl rfl Tryd.func93 (by kernel_rfl) rfl #[.int .i32 a0] rfl (by (try simp only [List.map_toArray, List.map_cons, List.map_nil]); first | done | rfl | (simp only [List.length_drop, List.length_take]; rfl) | (simp [*] <;> rfl)) ?_; (with_reducible refine (names_Upper.calls a0 false _ A2.out).mono ?_); rintro e w' ⟨rfl, ⟨nd, rfl⟩⟩; refine ⟨_, rfl, ?_⟩))
   go_ret
   exact ⟨by first | rfl | (simp; done) | (simp [*]; done), by repeat (first | exact Drawn0.refl _ | apply Drawn0.step)⟩
  ·rw [if_neg c4] at H
   have c4b0 : decide (97 ≤ a0) = false := decide_eq_false c4
   clear c4
   obtain rfl := Option.some.inj H
   go_enter Tryd.func76, Tryd.ntmps76
   go_wp2_with (first | ((with_reducible refine gate_callee (f := 93) rfl ?_); refine goesL_ (some 4) rfl rfl Tryd.func93 (by kernel_rfl) rfl #[.int .i32 a0] rfl (by (try simp only [List.map_toArray, List.map_cons, List.map_nil]); first | done | rfl | (simp only [List.length_drop, List.length_take]; rfl) | (simp [*] <;> rfl)) ?_; (with_reducible refine (names_Upper.calls a0 false _ A2.out).mono ?_); rintro e w' ⟨rfl, ⟨nd, rfl⟩⟩; refine ⟨_, rfl, ?_⟩))
   go_ret
   exact ⟨by first | rfl | (simp; done) | (simp [*]; done), by repeat (first | exact Drawn0.refl _ | apply Drawn0.step)⟩

/-! ### charref_word: function 59 -/
def charref_word.f (a0 : Int) : Option (Bool) := (names_Letter.f (wrap32 (a0))).bind fun t127 => (if t127 = true then (some true) else ((names_Digit.f (wrap32 (a0))).bind fun t128 => (some t128)))
set_option maxHeartbeats 8000000 in
set_option maxRecDepth 100000 in
theorem charref_word.calls (a0 : Int) (r : Bool) (w : World) (h : charref_word.f a0 = some r) :
  Calls Tryd.prog 59 #[.int .u8 a0] w fun e w' => e = .returned (.bool r) ∧ Drawn0 w w' := by
 have H : ((names_Letter.f (wrap32 (a0))).bind fun t127 => (if t127 = true then (some true) else ((names_Digit.f (wrap32 (a0))).bind fun t128 => (some t128)))) = some r := h
 clear h
 replace H := Option.bind_eq_some_iff.mp H
 obtain ⟨t127, A20, H⟩ := H
 replace H : (if t127 = true then (some true) else ((names_Digit.f (wrap32 (a0))).bind fun t128 => (some t128))) = some r := H
 have A2 := Aside0.mk A20
 clear A20
 by_cases c3 : t127 = true
 ·subst c3
  have H1 : (some true) = some r := by rw [if_pos rfl] at H; exact H
  clear H
  have H := H1
  clear H1
  obtain rfl := Option.some.inj H
  go_enter Tryd.func59, Tryd.ntmps59
  go_wp2_with (first | ((with_reducible refine gate_callee (f := 76) rfl ?_); refine goesL_ (some 5) rfl rfl Tryd.func76 (by kernel_rfl) rfl #[.int .i32 (wrap32 (a0))] rfl (by (try simp only [List.map_toArray, List.map_cons, List.map_nil]); first | done | rfl | (simp only [List.length_drop, List.length_take]; rfl) | (simp [*] <;> rfl)) ?_; (with_reducible refine (names_Letter.calls (wrap32 (a0)) true _ A2.out).mono ?_); rintro e w' ⟨rfl, ⟨nd, rfl⟩⟩; refine ⟨_, rfl, ?_⟩))
  go_ret
  exact ⟨by first | rfl | (simp; done) | (simp [*]; done), by repeat (first | exact Drawn0.refl _ | apply Drawn0.step)⟩
 ·replace c3 := Bool.eq_false_iff.mpr c3
  subst c3
  have H1 : ((names_Digit.f (wrap32 (a0))).bind fun t128 => (some t128)) = some r := by rw [if_neg (show ¬ (false = true) by decide)] at H; exact H
  clear H
  have H := H1
  clear H1
  replace H := Option.bind_eq_some_iff.mp H
  obtain ⟨t128, A40, H⟩ := H
  replace H : (some t128) = some r := H
  have A4 := Aside0.mk A40
  clear A40
  obtain rfl := Option.some.inj H
  go_enter Tryd.func59, Tryd.ntmps59
  go_wp2_with (first | ((with_reducible refine gate_callee (f := 76) rfl ?_); refine goesL_ (some 5) rfl rfl Tryd.func76 (by kernel_rfl) rfl #[.int .i32 (wrap32 (a0))] rfl (by (try simp only [List.map_toArray, List.map_cons, List.map_nil]); first | done | rfl | (simp only [List.length_drop, List.length_take]; rfl) | (simp [*] <;> rfl)) ?_; (with_reducible refine (names_Letter.calls (wrap32 (a0)) false _ A2.out).mono ?_); rintro e w' ⟨rfl, ⟨nd, rfl⟩⟩; refine ⟨_, rfl, ?_⟩) | (go_at_call 37; (with_reducible refine (names_Digit.calls (wrap32 (a0)) t128 _ A4.out).mono ?_); rintro e w' ⟨rfl, ⟨nd, rfl⟩⟩))
  go_ret
  exact ⟨by first | rfl | (simp; done) | (simp [*]; done), by repeat (first | exact Drawn0.refl _ | apply Drawn0.step)⟩

-- NOT PRINTED: function 60 (utf_All)

-- NOT PRINTED: function 44 (utf_Runes)

-- NOT PRINTED: function 64 (utf8_appendRuneNonASCII)

-- NOT PRINTED: function 48 (utf8_AppendRune)

-- NOT PRINTED: function 29 (strings_Builder_WriteRune)

-- NOT PRINTED: function 30 (strings_Builder_WriteByte)

/-! ### slices_Equal_rune_rune: function 50 -/
def slices_Equal_rune_rune.l0 : Nat → List Int → List Int → Int → Int → Option (Bool)
 | 0, _, _, _, _ => none
 | k + 1, x0, x1, x12, x13 => if x13 < x12 then (if 0 ≤ x13 then (if x13 < (x0.length : Int) then (if x13 < (x1.length : Int) then (if (rd x0 x13) = (rd x1 x13) then (slices_Equal_rune_rune.l0 k x0 x1 x12 (wrap64 (x13 + 1))) else (some false)) else (none)) else (none)) else (none)) else (some true)
def slices_Equal_rune_rune.f (k : Nat) (l0 : List Int) (l1 : List Int) : Option (Bool) := if (l0.length : Int) = (l1.length : Int) then (slices_Equal_rune_rune.l0 k l0 l1 (l0.length : Int) 0) else (some false)
set_option maxHeartbeats 8000000 in
set_option maxRecDepth 100000 in
theorem slices_Equal_rune_rune.calls (k : Nat) (A0 : Option Addr) (c0 : Nat) (l0 : List Int) (A1 : Option Addr) (c1 : Nat) (l1 : List Int) (r : Bool) (w : World) (hr0 : Kd.C (Kd.int .i32) w A0 l0.length l0) (hc0 : l0.length ≤ c0) (hr1 : Kd.C (Kd.int .i32) w A1 l1.length l1) (hc1 : l1.length ≤ c1) (h : slices_Equal_rune_rune.f k l0 l1 = some r) :
  Calls Tryd.prog 50 #[.slice A0 l0.length c0, .slice A1 l1.length c1] w fun e w' => e = .returned (.bool r) ∧ Drawn0 w w' := by
 have HR0 := Aside0.mk hr0
 have HC0 := Aside0.mk hc0
 clear hr0 hc0
 have HR1 := Aside0.mk hr1
 have HC1 := Aside0.mk hc1
 clear hr1 hc1
 have H : (if (l0.length : Int) = (l1.length : Int) then (slices_Equal_rune_rune.l0 k l0 l1 (l0.length : Int) 0) else (some false)) = some r := h
 clear h
 by_cases c3 : (l0.length : Int) = (l1.length : Int)
 ·rw [if_pos c3] at H
  have c3b0 : ((l0.length : Int) == (l1.length : Int)) = true := beq_iff_eq.mpr c3
  have c3b1 : ((l0.length : Int) != (l1.length : Int)) = false := bne_eq_false_iff_eq.mpr c3
  have c3b2 : (l0.length == l1.length) = true := by first | simpa using c3 | (simp at c3 ⊢; omega)
  clear c3
  have H' := Aside0.mk H
  clear H
  go_enter Tryd.func50, Tryd.ntmps50
  go_wp2
  repeat (go_quiet (fail); try go_wp2)
  go_loopg [13] k (fun kq v13 w' => ∃ (x13_1 : Int), v13 = .int .i64 x13_1 ∧ Aside0 (slices_Equal_rune_rune.l0 kq l0 l1 (l0.length : Int) x13_1 = some r) ∧ Aside0 (kq ≤ k) ∧ Drawn0 w w')
  case atStart => exact ⟨(0), (by first | rfl | (simp; done) | (simp [*]; done) | (unfold bt; split <;> first | rfl | (exfalso; simp_all; done) | (exfalso; simp_all; omega))), H', ⟨Nat.le_refl _⟩, by repeat (first | exact Drawn0.refl _ | apply Drawn0.step)⟩
  case round =>
   clear H'
   try clear c1
   try clear p2
   try clear c3
   try clear c3b0
   try clear c3b1
   try clear c3b2
   obtain ⟨x13_1, rfl, HA, HK1, ⟨m1, rfl⟩⟩ := hrel
   cases gk with
   | zero => exact absurd HA.out (by simp [slices_Equal_rune_rune.l0])
   | succ k1 =>
    have H := HA.out
    clear HA
    simp only [slices_Equal_rune_rune.l0] at H
    by_cases c4 : x13_1 < (l0.length : Int)
    ·rw [if_pos c4] at H
     have c4b0 : decide (x13_1 < (l0.length : Int)) = true := decide_eq_true c4
     clear c4
     by_cases c5 : 0 ≤ x13_1
     ·rw [if_pos c5] at H
      have c5b0 : decide (0 ≤ x13_1) = true := decide_eq_true c5
      clear c5
      by_cases c6 : x13_1 < (l0.length : Int)
      ·rw [if_pos c6] at H
       have c6b0 : decide (x13_1 < (l0.length : Int)) = true := decide_eq_true c6
       clear c6
       by_cases c7 : x13_1 < (l1.length : Int)
       ·rw [if_pos c7] at H
        have c7b0 : decide (x13_1 < (l1.length : Int)) = true := decide_eq_true c7
        clear c7
        by_cases c8 : (rd l0 x13_1) = (rd l1 x13_1)
        ·rw [if_pos c8] at H
         have c8b0 : ((rd l0 x13_1) == (rd l1 x13_1)) = true := beq_iff_eq.mpr c8
         have c8b1 : ((rd l0 x13_1) != (rd l1 x13_1)) = false := bne_eq_false_iff_eq.mpr c8
         clear c8
         have H' := Aside0.mk H
         clear H
         have p129 : 0 ≤ (x13_1 : Int) := of_decide_eq_true (by first | (with_reducible assumption) | assumption)
         have q129 : x13_1 < (l0.length : Int) := of_decide_eq_true (by first | (with_reducible assumption) | assumption)
         obtain ⟨ad129, e129, hx129_0⟩ := Kd.at_int HR0.out x13_1 p129 q129
         cases e129
         replace p129 := eq_true p129
         replace q129 := eq_true q129
         have p130 : 0 ≤ (x13_1 : Int) := of_decide_eq_true (by first | (with_reducible assumption) | assumption)
         have q130 : x13_1 < (l1.length : Int) := of_decide_eq_true (by first | (with_reducible assumption) | assumption)
         obtain ⟨ad130, e130, hx130_0⟩ := Kd.at_int HR1.out x13_1 p130 q130
         cases e130
         replace p130 := eq_true p130
         replace q130 := eq_true q130
         go_wp2
         repeat (go_quiet (fail); try go_wp2)
         go_roundg k1
         case measure => have := HK1.out; omega
         case rel => exact ⟨(wrap64 (x13_1 + 1)), (by first | rfl | (simp; done) | (simp [*]; done) | (unfold bt; split <;> first | rfl | (exfalso; simp_all; done) | (exfalso; simp_all; omega))), H', ⟨by have := HK1.out; omega⟩, by repeat (first | exact Drawn0.refl _ | apply Drawn0.step)⟩
        ·rw [if_neg c8] at H
         have c8b0 : ((rd l0 x13_1) == (rd l1 x13_1)) = false := beq_eq_false_iff_ne.mpr c8
         have c8b1 : ((rd l0 x13_1) != (rd l1 x13_1)) = true := bne_iff_ne.mpr c8
         obtain rfl := Option.some.inj H
         have p129 : 0 ≤ (x13_1 : Int) := of_decide_eq_true (by first | (with_reducible assumption) | assumption)
         have q129 : x13_1 < (l0.length : Int) := of_decide_eq_true (by first | (with_reducible assumption) | assumption)
         obtain ⟨ad129, e129, hx129_0⟩ := Kd.at_int HR0.out x13_1 p129 q129
         cases e129
         replace p129 := eq_true p129
         replace q129 := eq_true q129
         have p130 : 0 ≤ (x13_1 : Int) := of_decide_eq_true (by first | (with_reducible assumption) | assumption)
         have q130 : x13_1 < (l1.length : Int) := of_decide_eq_true (by first | (with_reducible assumption) | assumption)
         obtain ⟨ad130, e130, hx130_0⟩ := Kd.at_int HR1.out x13_1 p130 q130
         cases e130
         replace p130 := eq_true p130
         replace q130 := eq_true q130
         go_wp2
         repeat (go_quiet (fail); try go_wp2)
         go_ret
         exact ⟨by first | rfl | (simp; done) | (simp [*]; done), by repeat (first | exact Drawn0.refl _ | apply Drawn0.step)⟩
       ·rw [if_neg c7] at H
        exact absurd H (by simp)
      ·rw [if_neg c6] at H
       exact absurd H (by simp)
     ·rw [if_neg c5] at H
      exact absurd H (by simp)
    ·rw [if_neg c4] at H
     have c4b0 : decide (x13_1 < (l0.length : Int)) = false := decide_eq_false c4
     clear c4
     obtain rfl := Option.some.inj H
     go_wp2
     repeat (go_quiet (fail); try go_wp2)
     go_ret
     exact ⟨by first | rfl | (simp; done) | (simp [*]; done), by repeat (first | exact Drawn0.refl _ | apply Drawn0.step)⟩
 ·rw [if_neg c3] at H
  have c3b0 : ((l0.length : Int) == (l1.length : Int)) = false := beq_eq_false_iff_ne.mpr c3
  have c3b1 : ((l0.length : Int) != (l1.length : Int)) = true := bne_iff_ne.mpr c3
  have c3b2 : (l0.length == l1.length) = false := by first | simpa using c3 | (simp at c3 ⊢; omega)
  obtain rfl := Option.some.inj H
  go_enter Tryd.func50, Tryd.ntmps50
  go_wp2
  repeat (go_quiet (fail); try go_wp2)
  go_ret
  exact ⟨by first | rfl | (simp; done) | (simp [*]; done), by repeat (first | exact Drawn0.refl _ | apply Drawn0.step)⟩

-- NOT PRINTED: function 83 (bytealg_MakeNoZero)

-- NOT PRINTED: function 65 (strings_Builder_grow)

-- NOT PRINTED: function 52 (strings_Builder_Grow)

-- NOT PRINTED: function 84 (utf8_decodeRuneInStringSlow)

-- NOT PRINTED: function 66 (utf8_DecodeRuneInString)

-- NOT PRINTED: function 67 (utf8_RuneLen)

-- NOT PRINTED: function 68 (strings_Builder_Cap)

-- NOT PRINTED: function 53 (strings_Map)

-- NOT PRINTED: function 95 (unicode_lookupCaseRange)

-- NOT PRINTED: function 96 (unicode_convertCase)

-- NOT PRINTED: function 85 (unicode_to)

-- NOT PRINTED: function 69 (unicode_To)

-- NOT PRINTED: function 54 (unicode_ToUpper)

-- NOT PRINTED: function 33 (strings_ToUpper)

-- NOT PRINTED: function 34 (strconv_FormatInt_34)

/-! ### utf_bounds: function 94 -/
mutual
def utf_bounds.j0 : Nat → Int → Bool → Option (Int × Int × Int)
 | 0, _, _ => none
 | k + 1, x0, x8 => if x8 = true then (some (1, 128, 191)) else (if x0 = 224 then (some (2, 160, 191)) else (if x0 = 237 then (some (2, 128, 159)) else (if x0 ≥ 225 then (utf_bounds.j1 k x0 (decide (x0 ≤ 239))) else (utf_bounds.j1 k x0 false))))
def utf_bounds.j1 : Nat → Int → Bool → Option (Int × Int × Int)
 | 0, _, _ => none
 | k + 1, x0, x21 => if x21 = true then (some (2, 128, 191)) else (if x0 = 240 then (some (3, 144, 191)) else (if x0 ≥ 241 then (utf_bounds.j2 k x0 (decide (x0 ≤ 243))) else (utf_bounds.j2 k x0 false)))
def utf_bounds.j2 : Nat → Int → Bool → Option (Int × Int × Int)
 | 0, _, _ => none
 | k + 1, x0, x31 => if x31 = true then (some (3, 128, 191)) else (if x0 = 244 then (some (3, 128, 143)) else (some ((-1), 0, 0)))
end
def utf_bounds.f (k : Nat) (a0 : Int) : Option (Int × Int × Int) := if a0 < 128 then (some (0, 0, 0)) else (if a0 ≥ 194 then (utf_bounds.j0 k a0 (decide (a0 ≤ 223))) else (utf_bounds.j0 k a0 false))
set_option maxHeartbeats 8000000 in
set_option maxRecDepth 100000 in
theorem utf_bounds.calls (k : Nat) (a0 : Int) (r1 : Int) (r2 : Int) (r3 : Int) (w : World) (h : utf_bounds.f k a0 = some (r1, r2, r3)) :
  Calls Tryd.prog 94 #[.int .u8 a0] w fun e w' => e = .returned (.tuple #[.int .i64 r1, .int .u8 r2, .int .u8 r3]) ∧ Drawn0 w w' := by
 have H : (if a0 < 128 then (some (0, 0, 0)) else (if a0 ≥ 194 then (utf_bounds.j0 k a0 (decide (a0 ≤ 223))) else (utf_bounds.j0 k a0 false))) = some (r1, r2, r3) := h
 clear h
 by_cases c2 : a0 < 128
 ·rw [if_pos c2] at H
  have c2b0 : decide (a0 < 128) = true := decide_eq_true c2
  clear c2
  simp only [Option.some.injEq, Prod.mk.injEq] at H
  obtain ⟨rfl, rfl, rfl⟩ := H
  go_enter Tryd.func94, Tryd.ntmps94
  go_wp2
  go_ret3
  exact ⟨by first | rfl | (simp; done) | (simp [*]; done), by repeat (first | exact Drawn0.refl _ | apply Drawn0.step)⟩
 ·rw [if_neg c2] at H
  have c2b0 : decide (a0 < 128) = false := decide_eq_false c2
  clear c2
  have HC3 := Aside0.mk H
  clear H
  go_enter Tryd.func94, Tryd.ntmps94
  go_upto_region 3 with (fail)
  go_cut [8] (fun v8 wc => ∃ (kq : Nat) (x8_2 : Bool), v8 = .bool x8_2 ∧ Aside0 (utf_bounds.j0 kq a0 x8_2 = some (r1, r2, r3)) ∧ Aside0 (kq ≤ k) ∧ Drawn0 w wc)
  case first =>
   have H := HC3.out
   clear HC3
   by_cases c4 : a0 ≥ 194
   ·rw [if_pos c4] at H
    have c4b0 : decide (194 ≤ a0) = true := decide_eq_true c4
    clear c4
    (first | rw [c4b0] | (simp only [i64_w, i32_w]; rw [c4b0]) | skip)
    have H' := Aside0.mk H
    clear H
    go_wp2
    go_meet
    case rel => exact ⟨_, (decide (a0 ≤ 223)), (by first | rfl | (simp; done) | (simp [*]; done) | (unfold bt; split <;> first | rfl | (exfalso; simp_all; done) | (exfalso; simp_all; omega))), H', ⟨by first | omega | exact Nat.le_refl _⟩, by repeat (first | exact Drawn0.refl _ | apply Drawn0.step)⟩
   ·rw [if_neg c4] at H
    have c4b0 : decide (194 ≤ a0) = false := decide_eq_false c4
    clear c4
    (first | rw [c4b0] | (simp only [i64_w, i32_w]; rw [c4b0]) | skip)
    have H' := Aside0.mk H
    clear H
    go_wp2
    go_meet
    case rel => exact ⟨_, (false), (by first | rfl | (simp; done) | (simp [*]; done) | (unfold bt; split <;> first | rfl | (exfalso; simp_all; done) | (exfalso; simp_all; omega))), H', ⟨by first | omega | exact Nat.le_refl _⟩, by repeat (first | exact Drawn0.refl _ | apply Drawn0.step)⟩
  case rest =>
   clear HC3
   try clear c2
   try clear c2b0
   try clear p2
   try clear c4
   try clear c4b0
   obtain ⟨kq, x8_2, rfl, HA, HJ2, ⟨mc2, rfl⟩⟩ := hcut
   cases kq with
   | zero => exact absurd HA.out (by simp [utf_bounds.j0])
   | succ kj2 =>
    have H := HA.out
    clear HA
    simp only [utf_bounds.j0] at H
    by_cases c5 : x8_2 = true
    ·subst c5
     have H1 : (some (1, 128, 191)) = some (r1, r2, r3) := by rw [if_pos rfl] at H; exact H
     clear H
     have H := H1
     clear H1
     simp only [Option.some.injEq, Prod.mk.injEq] at H
     obtain ⟨rfl, rfl, rfl⟩ := H
     go_wp2
     go_ret3
     exact ⟨by first | rfl | (simp; done) | (simp [*]; done), by repeat (first | exact Drawn0.refl _ | apply Drawn0.step)⟩
    ·replace c5 := Bool.eq_false_iff.mpr c5
     subst c5
     have H1 : (if a0 = 224 then (some (2, 160, 191)) else (if a0 = 237 then (some (2, 128, 159)) else (if a0 ≥ 225 then (utf_bounds.j1 kj2 a0 (decide (a0 ≤ 239))) else (utf_bounds.j1 kj2 a0 false)))) = some (r1, r2, r3) := by rw [if_neg (show ¬ (false = true) by decide)] at H; exact H
     clear H
     have H := H1
     clear H1
     by_cases c6 : a0 = 224
     ·rw [if_pos c6] at H
      have c6b0 : (a0 == 224) = true := beq_iff_eq.mpr c6
      have c6b1 : (a0 != 224) = false := bne_eq_false_iff_eq.mpr c6
      clear c6
      simp only [Option.some.injEq, Prod.mk.injEq] at H
      obtain ⟨rfl, rfl, rfl⟩ := H
      go_wp2
      go_ret3
      exact ⟨by first | rfl | (simp; done) | (simp [*]; done), by repeat (first | exact Drawn0.refl _ | apply Drawn0.step)⟩
     ·rw [if_neg c6] at H
      have c6b0 : (a0 == 224) = false := beq_eq_false_iff_ne.mpr c6
      have c6b1 : (a0 != 224) = true := bne_iff_ne.mpr c6
      by_cases c7 : a0 = 237
      ·rw [if_pos c7] at H
       have c7b0 : (a0 == 237) = true := beq_iff_eq.mpr c7
       have c7b1 : (a0 != 237) = false := bne_eq_false_iff_eq.mpr c7
       clear c7
       simp only [Option.some.injEq, Prod.mk.injEq] at H
       obtain ⟨rfl, rfl, rfl⟩ := H
       go_wp2
       go_ret3
       exact ⟨by first | rfl | (simp; done) | (simp [*]; done), by repeat (first | exact Drawn0.refl _ | apply Drawn0.step)⟩
      ·rw [if_neg c7] at H
       have c7b0 : (a0 == 237) = false := beq_eq_false_iff_ne.mpr c7
       have c7b1 : (a0 != 237) = true := bne_iff_ne.mpr c7
       have HC8 := Aside0.mk H
       clear H
       go_upto_region 9 with (fail)
       go_cut [21] (fun v21 wc => ∃ (kq : Nat) (x21_7 : Bool), v21 = .bool x21_7 ∧ Aside0 (utf_bounds.j1 kq a0 x21_7 = some (r1, r2, r3)) ∧ Aside0 (kq ≤ kj2) ∧ Drawn0 w wc)
       case first =>
        have H := HC8.out
        clear HC8
        by_cases c9 : a0 ≥ 225
        ·rw [if_pos c9] at H
         have c9b0 : decide (225 ≤ a0) = true := decide_eq_true c9
         clear c9
         (first | rw [c9b0] | (simp only [i64_w, i32_w]; rw [c9b0]) | skip)
         have H' := Aside0.mk H
         clear H
         go_wp2
         go_meet
         case rel => exact ⟨_, (decide (a0 ≤ 239)), (by first | rfl | (simp; done) | (simp [*]; done) | (unfold bt; split <;> first | rfl | (exfalso; simp_all; done) | (exfalso; simp_all; omega))), H', ⟨by have := HJ2.out; first | omega | exact Nat.le_refl _⟩, by repeat (first | exact Drawn0.refl _ | apply Drawn0.step)⟩
        ·rw [if_neg c9] at H
         have c9b0 : decide (225 ≤ a0) = false := decide_eq_false c9
         clear c9
         (first | rw [c9b0] | (simp only [i64_w, i32_w]; rw [c9b0]) | skip)
         have H' := Aside0.mk H
         clear H
         go_wp2
         go_meet
         case rel => exact ⟨_, (false), (by first | rfl | (simp; done) | (simp [*]; done) | (unfold bt; split <;> first | rfl | (exfalso; simp_all; done) | (exfalso; simp_all; omega))), H', ⟨by have := HJ2.out; first | omega | exact Nat.le_refl _⟩, by repeat (first | exact Drawn0.refl _ | apply Drawn0.step)⟩
       case rest =>
        clear HC8
        try clear c2
        try clear c2b0
        try clear p2
        try clear c4
        try clear c4b0
        try clear c5
        try clear c6
        try clear c6b0
        try clear c6b1
        try clear c7
        try clear c7b0
        try clear c7b1
        try clear c9
        try clear c9b0
        try clear p2
        obtain ⟨kq, x21_7, rfl, HA, HJ7, ⟨mc7, rfl⟩⟩ := hcut
        cases kq with
        | zero => exact absurd HA.out (by simp [utf_bounds.j1])
        | succ kj7 =>
         have H := HA.out
         clear HA
         simp only [utf_bounds.j1] at H
         by_cases c10 : x21_7 = true
         ·subst c10
          have H1 : (some (2, 128, 191)) = some (r1, r2, r3) := by rw [if_pos rfl] at H; exact H
          clear H
          have H := H1
          clear H1
          simp only [Option.some.injEq, Prod.mk.injEq] at H
          obtain ⟨rfl, rfl, rfl⟩ := H
          go_wp2
          go_ret3
          exact ⟨by first | rfl | (simp; done) | (simp [*]; done), by repeat (first | exact Drawn0.refl _ | apply Drawn0.step)⟩
         ·replace c10 := Bool.eq_false_iff.mpr c10
          subst c10
          have H1 : (if a0 = 240 then (some (3, 144, 191)) else (if a0 ≥ 241 then (utf_bounds.j2 kj7 a0 (decide (a0 ≤ 243))) else (utf_bounds.j2 kj7 a0 false))) = some (r1, r2, r3) := by rw [if_neg (show ¬ (false = true) by decide)] at H; exact H
          clear H
          have H := H1
          clear H1
          by_cases c11 : a0 = 240
          ·rw [if_pos c11] at H
           have c11b0 : (a0 == 240) = true := beq_iff_eq.mpr c11
           have c11b1 : (a0 != 240) = false := bne_eq_false_iff_eq.mpr c11
           clear c11
           simp only [Option.some.injEq, Prod.mk.injEq] at H
           obtain ⟨rfl, rfl, rfl⟩ := H
           go_wp2
           go_ret3
           exact ⟨by first | rfl | (simp; done) | (simp [*]; done), by repeat (first | exact Drawn0.refl _ | apply Drawn0.step)⟩
          ·rw [if_neg c11] at H
           have c11b0 : (a0 == 240) = false := beq_eq_false_iff_ne.mpr c11
           have c11b1 : (a0 != 240) = true := bne_iff_ne.mpr c11
           have HC12 := Aside0.mk H
           clear H
           go_upto_region 13 with (fail)
           go_cut [31] (fun v31 wc => ∃ (kq : Nat) (x31_11 : Bool), v31 = .bool x31_11 ∧ Aside0 (utf_bounds.j2 kq a0 x31_11 = some (r1, r2, r3)) ∧ Aside0 (kq ≤ kj7) ∧ Drawn0 w wc)
           case first =>
            have H := HC12.out
            clear HC12
            by_cases c13 : a0 ≥ 241
            ·rw [if_pos c13] at H
             have c13b0 : decide (241 ≤ a0) = true := decide_eq_true c13
             clear c13
             (first | rw [c13b0] | (simp only [i64_w, i32_w]; rw [c13b0]) | skip)
             have H' := Aside0.mk H
             clear H
             go_wp2
             go_meet
             case rel => exact ⟨_, (decide (a0 ≤ 243)), (by first | rfl | (simp; done) | (simp [*]; done) | (unfold bt; split <;> first | rfl | (exfalso; simp_all; done) | (exfalso; simp_all; omega))), H', ⟨by have := HJ2.out; have := HJ7.out; first | omega | exact Nat.le_refl _⟩, by repeat (first | exact Drawn0.refl _ | apply Drawn0.step)⟩
            ·rw [if_neg c13] at H
             have c13b0 : decide (241 ≤ a0) = false := decide_eq_false c13
             clear c13
             (first | rw [c13b0] | (simp only [i64_w, i32_w]; rw [c13b0]) | skip)
             have H' := Aside0.mk H
             clear H
             go_wp2
             go_meet
             case rel => exact ⟨_, (false), (by first | rfl | (simp; done) | (simp [*]; done) | (unfold bt; split <;> first | rfl | (exfalso; simp_all; done) | (exfalso; simp_all; omega))), H', ⟨by have := HJ2.out; have := HJ7.out; first | omega | exact Nat.le_refl _⟩, by repeat (first | exact Drawn0.refl _ | apply Drawn0.step)⟩
           case rest =>
            clear HC12
            try clear c1
            try clear c2
            try clear c2b0
            try clear p2
            try clear c4
            try clear c4b0
            try clear c5
            try clear c6
            try clear c6b0
            try clear c6b1
            try clear c7
            try clear c7b0
            try clear c7b1
            try clear c9
            try clear c9b0
            try clear c10
            try clear c11
            try clear c11b0
            try clear c11b1
            try clear c13
            try clear c13b0
            try clear p2
            obtain ⟨kq, x31_11, rfl, HA, HJ11, ⟨mc11, rfl⟩⟩ := hcut
            cases kq with
            | zero => exact absurd HA.out (by simp [utf_bounds.j2])
            | succ kj11 =>
             have H := HA.out
             clear HA
             simp only [utf_bounds.j2] at H
             by_cases c14 : x31_11 = true
             ·subst c14
              have H1 : (some (3, 128, 191)) = some (r1, r2, r3) := by rw [if_pos rfl] at H; exact H
              clear H
              have H := H1
              clear H1
              simp only [Option.some.injEq, Prod.mk.injEq] at H
              obtain ⟨rfl, rfl, rfl⟩ := H
              go_wp2
              go_ret3
              exact ⟨by first | rfl | (simp; done) | (simp [*]; done), by repeat (first | exact Drawn0.refl _ | apply Drawn0.step)⟩
             ·replace c14 := Bool.eq_false_iff.mpr c14
              subst c14
              have H1 : (if a0 = 244 then (some (3, 128, 143)) else (some ((-1), 0, 0))) = some (r1, r2, r3) := by rw [if_neg (show ¬ (false = true) by decide)] at H; exact H
              clear H
              have H := H1
              clear H1
              by_cases c15 : a0 = 244
              ·rw [if_pos c15] at H
               have c15b0 : (a0 == 244) = true := beq_iff_eq.mpr c15
               have c15b1 : (a0 != 244) = false := bne_eq_false_iff_eq.mpr c15
               clear c15
               simp only [Option.some.injEq, Prod.mk.injEq] at H
               obtain ⟨rfl, rfl, rfl⟩ := H
               go_wp2
               go_ret3
               exact ⟨by first | rfl | (simp; done) | (simp [*]; done), by repeat (first | exact Drawn0.refl _ | apply Drawn0.step)⟩
              ·rw [if_neg c15] at H
               have c15b0 : (a0 == 244) = false := beq_eq_false_iff_ne.mpr c15
               have c15b1 : (a0 != 244) = true := bne_iff_ne.mpr c15
               simp only [Option.some.injEq, Prod.mk.injEq] at H
               obtain ⟨rfl, rfl, rfl⟩ := H
               go_wp2
               go_ret3
               exact ⟨by first | rfl | (simp; done) | (simp [*]; done), by repeat (first | exact Drawn0.refl _ | apply Drawn0.step)⟩

/-! ### utf_read: function 78 -/
def utf_read.l0 : Nat → List Int → Int → Int → Int → Int → Int → Option (Int × Int × Int)
 | 0, _, _, _, _, _, _ => none
 | k + 1, x0, x5, x6, x7, x8, x9 => if x9 ≤ x5 then (if x9 = (x0.length : Int) then (some (65533, x9, 2)) else (if 0 ≤ x9 then (if x9 < (x0.length : Int) then (if (rd x0 x9) < x6 then (some (65533, x9, 1)) else (if (rd x0 x9) > x7 then (some (65533, x9, 1)) else (utf_read.l0 k x0 x5 128 191 (Go.bits .or .i32 (wrap32 (x8 * 64)) (wrap32 (Go.bits .and .u8 (rd x0 x9) 63))) (wrap64 (x9 + 1))))) else (none)) else (none))) else (some (x8, wrap64 (x5 + 1), 0))
def utf_read.f (k : Nat) (l0 : List Int) : Option (Int × Int × Int) := if 0 < (l0.length : Int) then ((utf_bounds.f k (rd l0 0)).bind fun bt132 => (if bt132.1 < 0 then (some (65533, 1, 1)) else (if bt132.1 = 0 then (some (wrap32 (rd l0 0), 1, 0)) else (if 0 ≤ bt132.1 then (utf_read.l0 k l0 bt132.1 bt132.2.1 bt132.2.2 (Go.bits .and .i32 (wrap32 (rd l0 0)) (shr .i32 63 bt132.1)) 1) else (none))))) else (none)
set_option maxHeartbeats 8000000 in
set_option maxRecDepth 100000 in
theorem utf_read.calls (k : Nat) (A0 : Option Addr) (c0 : Nat) (l0 : List Int) (r1 : Int) (r2 : Int) (r3 : Int) (w : World) (hr0 : Kd.C (Kd.int .u8) w A0 l0.length l0) (hc0 : l0.length ≤ c0) (h : utf_read.f k l0 = some (r1, r2, r3)) :
  Calls Tryd.prog 78 #[.slice A0 l0.length c0] w fun e w' => e = .returned (.tuple #[.int .i32 r1, .int .i64 r2, .int .i64 r3]) ∧ Drawn0 w w' := by
 have HR0 := Aside0.mk hr0
 have HC0 := Aside0.mk hc0
 clear hr0 hc0
 have H : (if 0 < (l0.length : Int) then ((utf_bounds.f k (rd l0 0)).bind fun bt132 => (if bt132.1 < 0 then (some (65533, 1, 1)) else (if bt132.1 = 0 then (some (wrap32 (rd l0 0), 1, 0)) else (if 0 ≤ bt132.1 then (utf_read.l0 k l0 bt132.1 bt132.2.1 bt132.2.2 (Go.bits .and .i32 (wrap32 (rd l0 0)) (shr .i32 63 bt132.1)) 1) else (none))))) else (none)) = some (r1, r2, r3) := h
 clear h
 by_cases c2 : 0 < (l0.length : Int)
 ·rw [if_pos c2] at H
  have c2b0 : decide (0 < (l0.length : Int)) = true := decide_eq_true c2
  have c2b1 : decide (0 < l0.length) = true := decide_eq_true (by omega)
  clear c2
  replace H := Option.bind_eq_some_iff.mp H
  obtain ⟨⟨t132, t133, t134⟩, A30, H⟩ := H
  replace H : (if t132 < 0 then (some (65533, 1, 1)) else (if t132 = 0 then (some (wrap32 (rd l0 0), 1, 0)) else (if 0 ≤ t132 then (utf_read.l0 k l0 t132 t133 t134 (Go.bits .and .i32 (wrap32 (rd l0 0)) (shr .i32 63 t132)) 1) else (none)))) = some (r1, r2, r3) := H
  have A3 := Aside0.mk A30
  clear A30
  by_cases c4 : t132 < 0
  ·rw [if_pos c4] at H
   have c4b0 : decide (t132 < 0) = true := decide_eq_true c4
   clear c4
   simp only [Option.some.injEq, Prod.mk.injEq] at H
   obtain ⟨rfl, rfl, rfl⟩ := H
   have p131 : 0 ≤ (0 : Int) := (by omega)
   have q131 : 0 < (l0.length : Int) := of_decide_eq_true (by first | (with_reducible assumption) | assumption)
   obtain ⟨ad131, e131, hx131_0⟩ := Kd.at_int HR0.out 0 p131 q131
   cases e131
   have qi131 : (0 < l0.length) = True := eq_true (by omega)
   (try rw [show ((0 : Int)).toNat = 0 from rfl] at hx131_0)
   (try rw [Addr.add_zero'] at hx131_0)
   replace p131 := eq_true p131
   replace q131 := eq_true q131
   go_enter Tryd.func78, Tryd.ntmps78
   go_wp2_with (first | (go_at_call 94; (with_reducible refine (utf_bounds.calls k (rd l0 0) t132 t133 t134 _ A3.out).mono ?_); rintro e w' ⟨rfl, ⟨nd, rfl⟩⟩; (try first | exact ⟨rfl, _, World.drewN_drewN _ _ _⟩ | exact ⟨rfl, _, Eq.trans (World.drewN_drewN _ _ _) (congrArg (World.drewN _) (Nat.add_assoc _ _ _))⟩)))
   repeat (go_quiet (first | (go_at_call 94; (with_reducible refine (utf_bounds.calls k (rd l0 0) t132 t133 t134 _ A3.out).mono ?_); rintro e w' ⟨rfl, ⟨nd, rfl⟩⟩; (try first | exact ⟨rfl, _, World.drewN_drewN _ _ _⟩ | exact ⟨rfl, _, Eq.trans (World.drewN_drewN _ _ _) (congrArg (World.drewN _) (Nat.add_assoc _ _ _))⟩))); try go_wp2_with (first | (go_at_call 94; (with_reducible refine (utf_bounds.calls k (rd l0 0) t132 t133 t134 _ A3.out).mono ?_); rintro e w' ⟨rfl, ⟨nd, rfl⟩⟩; (try first | exact ⟨rfl, _, World.drewN_drewN _ _ _⟩ | exact ⟨rfl, _, Eq.trans (World.drewN_drewN _ _ _) (congrArg (World.drewN _) (Nat.add_assoc _ _ _))⟩))))
   go_ret3
   exact ⟨by first | rfl | (simp; done) | (simp [*]; done), by repeat (first | exact Drawn0.refl _ | apply Drawn0.step)⟩
  ·rw [if_neg c4] at H
   have c4b0 : decide (t132 < 0) = false := decide_eq_false c4
   clear c4
   by_cases c5 : t132 = 0
   ·rw [if_pos c5] at H
    have c5b0 : (t132 == 0) = true := beq_iff_eq.mpr c5
    have c5b1 : (t132 != 0) = false := bne_eq_false_iff_eq.mpr c5
    clear c5
    simp only [Option.some.injEq, Prod.mk.injEq] at H
    obtain ⟨rfl, rfl, rfl⟩ := H
    have p131 : 0 ≤ (0 : Int) := (by omega)
    have q131 : 0 < (l0.length : Int) := of_decide_eq_true (by first | (with_reducible assumption) | assumption)
    obtain ⟨ad131, e131, hx131_0⟩ := Kd.at_int HR0.out 0 p131 q131
    cases e131
    have qi131 : (0 < l0.length) = True := eq_true (by omega)
    (try rw [show ((0 : Int)).toNat = 0 from rfl] at hx131_0)
    (try rw [Addr.add_zero'] at hx131_0)
    replace p131 := eq_true p131
    replace q131 := eq_true q131
    go_enter Tryd.func78, Tryd.ntmps78
    go_wp2_with (first | (go_at_call 94; (with_reducible refine (utf_bounds.calls k (rd l0 0) t132 t133 t134 _ A3.out).mono ?_); rintro e w' ⟨rfl, ⟨nd, rfl⟩⟩; (try first | exact ⟨rfl, _, World.drewN_drewN _ _ _⟩ | exact ⟨rfl, _, Eq.trans (World.drewN_drewN _ _ _) (congrArg (World.drewN _) (Nat.add_assoc _ _ _))⟩); have p135 : 0 ≤ (0 : Int) := (by omega); have q135 : 0 < (l0.length : Int) := of_decide_eq_true (by first | (with_reducible assumption) | assumption); obtain ⟨ad135, e135, hx135_0⟩ := Kd.at_int HR0.out 0 p135 q135; obtain rfl : ad131 = ad135 := (by injection e135); have qi135 : (0 < l0.length) = True := eq_true (by omega); (try rw [show ((0 : Int)).toNat = 0 from rfl] at hx135_0); (try rw [Addr.add_zero'] at hx135_0); replace p135 := eq_true p135; replace q135 := eq_true q135))
    repeat (go_quiet (first | (go_at_call 94; (with_reducible refine (utf_bounds.calls k (rd l0 0) t132 t133 t134 _ A3.out).mono ?_); rintro e w' ⟨rfl, ⟨nd, rfl⟩⟩; (try first | exact ⟨rfl, _, World.drewN_drewN _ _ _⟩ | exact ⟨rfl, _, Eq.trans (World.drewN_drewN _ _ _) (congrArg (World.drewN _) (Nat.add_assoc _ _ _))⟩); have p135 : 0 ≤ (0 : Int) := (by omega); have q135 : 0 < (l0.length : Int) := of_decide_eq_true (by first | (with_reducible assumption) | assumption); obtain ⟨ad135, e135, hx135_0⟩ := Kd.at_int HR0.out 0 p135 q135; obtain rfl : ad131 = ad135 := (by injection e135); have qi135 : (0 < l0.length) = True := eq_true (by omega); (try rw [show ((0 : Int)).toNat = 0 from rfl] at hx135_0); (try rw [Addr.add_zero'] at hx135_0); replace p135 := eq_true p135; replace q135 := eq_true q135)); try go_wp2_with (first | (go_at_call 94; (with_reducible refine (utf_bounds.calls k (rd l0 0) t132 t133 t134 _ A3.out).mono ?_); rintro e w' ⟨rfl, ⟨nd, rfl⟩⟩; (try first | exact ⟨rfl, _, World.drewN_drewN _ _ _⟩ | exact ⟨rfl, _, Eq.trans (World.drewN_drewN _ _ _) (congrArg (World.drewN _) (Nat.add_assoc _ _ _))⟩); have p135 : 0 ≤ (0 : Int) := (by omega); have q135 : 0 < (l0.length : Int) := of_decide_eq_true (by first | (with_reducible assumption) | assumption); obtain ⟨ad135, e135, hx135_0⟩ := Kd.at_int HR0.out 0 p135 q135; obtain rfl : ad131 = ad135 := (by injection e135); have qi135 : (0 < l0.length) = True := eq_true (by omega); (try rw [show ((0 : Int)).toNat = 0 from rfl] at hx135_0); (try rw [Addr.add_zero'] at hx135_0); replace p135 := eq_true p135; replace q135 := eq_true q135)))
    go_ret3
    exact ⟨by first | rfl | (simp; done) | (simp [*]; done), by repeat (first | exact Drawn0.refl _ | apply Drawn0.step)⟩
   ·rw [if_neg c5] at H
    have c5b0 : (t132 == 0) = false := beq_eq_false_iff_ne.mpr c5
    have c5b1 : (t132 != 0) = true := bne_iff_ne.mpr c5
    by_cases c6 : 0 ≤ t132
    ·rw [if_pos c6] at H
     have c6b0 := eq_true c6
     have c6b1 : decide (0 ≤ t132) = true := decide_eq_true c6
     clear c6
     obtain ⟨ji7, hji7⟩ : ∃ j_ : Int, (shr .i32 63 t132) = j_ := ⟨_, rfl⟩
     replace H : (utf_read.l0 k l0 t132 t133 t134 (Go.bits .and .i32 (wrap32 (rd l0 0)) (ji7)) 1) = some (r1, r2, r3) := by first | (rw [hji7] at H; exact H) | (simp only [hji7] at H ⊢; exact H)
     (try rw [hji7] at A3)
     have hji7_ : (63 / 2 ^ min t132.toNat 32) = ji7 := hji7
     have hji7z : t132 ≤ 32 → (63 / 2 ^ t132.toNat) = ji7 := shr_small hji7
     have H' := Aside0.mk H
     clear H
     have p131 : 0 ≤ (0 : Int) := (by omega)
     have q131 : 0 < (l0.length : Int) := of_decide_eq_true (by first | (with_reducible assumption) | assumption)
     obtain ⟨ad131, e131, hx131_0⟩ := Kd.at_int HR0.out 0 p131 q131
     cases e131
     have qi131 : (0 < l0.length) = True := eq_true (by omega)
     (try rw [show ((0 : Int)).toNat = 0 from rfl] at hx131_0)
     (try rw [Addr.add_zero'] at hx131_0)
     replace p131 := eq_true p131
     replace q131 := eq_true q131
     go_enter Tryd.func78, Tryd.ntmps78
     go_wp2_with (first | (go_at_call 94; (with_reducible refine (utf_bounds.calls k (rd l0 0) t132 t133 t134 _ A3.out).mono ?_); rintro e w' ⟨rfl, ⟨nd, rfl⟩⟩; (try first | exact ⟨rfl, _, World.drewN_drewN _ _ _⟩ | exact ⟨rfl, _, Eq.trans (World.drewN_drewN _ _ _) (congrArg (World.drewN _) (Nat.add_assoc _ _ _))⟩); have p136 : 0 ≤ (0 : Int) := (by omega); have q136 : 0 < (l0.length : Int) := of_decide_eq_true (by first | (with_reducible assumption) | assumption); obtain ⟨ad136, e136, hx136_0⟩ := Kd.at_int HR0.out 0 p136 q136; obtain rfl : ad131 = ad136 := (by injection e136); have qi136 : (0 < l0.length) = True := eq_true (by omega); (try rw [show ((0 : Int)).toNat = 0 from rfl] at hx136_0); (try rw [Addr.add_zero'] at hx136_0); replace p136 := eq_true p136; replace q136 := eq_true q136))
     repeat (go_quiet (first | (go_at_call 94; (with_reducible refine (utf_bounds.calls k (rd l0 0) t132 t133 t134 _ A3.out).mono ?_); rintro e w' ⟨rfl, ⟨nd, rfl⟩⟩; (try first | exact ⟨rfl, _, World.drewN_drewN _ _ _⟩ | exact ⟨rfl, _, Eq.trans (World.drewN_drewN _ _ _) (congrArg (World.drewN _) (Nat.add_assoc _ _ _))⟩); have p136 : 0 ≤ (0 : Int) := (by omega); have q136 : 0 < (l0.length : Int) := of_decide_eq_true (by first | (with_reducible assumption) | assumption); obtain ⟨ad136, e136, hx136_0⟩ := Kd.at_int HR0.out 0 p136 q136; obtain rfl : ad131 = ad136 := (by injection e136); have qi136 : (0 < l0.length) = True := eq_true (by omega); (try rw [show ((0 : Int)).toNat = 0 from rfl] at hx136_0); (try rw [Addr.add_zero'] at hx136_0); replace p136 := eq_true p136; replace q136 := eq_true q136)); try go_wp2_with (first | (go_at_call 94; (with_reducible refine (utf_bounds.calls k (rd l0 0) t132 t133 t134 _ A3.out).mono ?_); rintro e w' ⟨rfl, ⟨nd, rfl⟩⟩; (try first | exact ⟨rfl, _, World.drewN_drewN _ _ _⟩ | exact ⟨rfl, _, Eq.trans (World.drewN_drewN _ _ _) (congrArg (World.drewN _) (Nat.add_assoc _ _ _))⟩); have p136 : 0 ≤ (0 : Int) := (by omega); have q136 : 0 < (l0.length : Int) := of_decide_eq_true (by first | (with_reducible assumption) | assumption); obtain ⟨ad136, e136, hx136_0⟩ := Kd.at_int HR0.out 0 p136 q136; obtain rfl : ad131 = ad136 := (by injection e136); have qi136 : (0 < l0.length) = True := eq_true (by omega); (try rw [show ((0 : Int)).toNat = 0 from rfl] at hx136_0); (try rw [Addr.add_zero'] at hx136_0); replace p136 := eq_true p136; replace q136 := eq_true q136)))
     go_loopg [6, 7, 8, 9] k (fun kq v6 v7 v8 v9 w' => ∃ (x6_1 : Int) (x7_1 : Int) (x8_1 : Int) (x9_1 : Int), v6 = .int .u8 x6_1 ∧ v7 = .int .u8 x7_1 ∧ v8 = .int .i32 x8_1 ∧ v9 = .int .i64 x9_1 ∧ Aside0 (utf_read.l0 kq l0 t132 x6_1 x7_1 x8_1 x9_1 = some (r1, r2, r3)) ∧ Aside0 (kq ≤ k) ∧ Drawn0 w w')
     case atStart => exact ⟨(t133), (t134), (Go.bits .and .i32 (wrap32 (rd l0 0)) (ji7)), (1), (by first | rfl | (simp; done) | (simp [*]; done) | (unfold bt; split <;> first | rfl | (exfalso; simp_all; done) | (exfalso; simp_all; omega))), (by first | rfl | (simp; done) | (simp [*]; done) | (unfold bt; split <;> first | rfl | (exfalso; simp_all; done) | (exfalso; simp_all; omega))), (by first | rfl | (simp; done) | (simp only [← hji7] <;> (first | rfl | simp)) | (simp [*]; done)), (by first | rfl | (simp; done) | (simp [*]; done) | (unfold bt; split <;> first | rfl | (exfalso; simp_all; done) | (exfalso; simp_all; omega))), H', ⟨Nat.le_refl _⟩, by repeat (first | exact Drawn0.refl _ | apply Drawn0.step)⟩
     case round =>
      clear H'
      try clear p1
      try clear q1
      try clear hx1
      try clear qi1
      try clear c2
      try clear c2b0
      try clear c2b1
      try clear p2
      try clear p3
      try clear c4
      try clear c4b0
      try clear c5
      try clear c5b0
      try clear c5b1
      try clear c6
      try clear c6b0
      try clear c6b1
      try clear c7
      try clear hx131_0
      try clear hx135_0
      try clear hx136_0
      try clear p131
      try clear p135
      try clear p136
      try clear q131
      try clear q135
      try clear q136
      obtain ⟨x6_1, x7_1, x8_1, x9_1, rfl, rfl, rfl, rfl, HA, HK1, ⟨m1, rfl⟩⟩ := hrel
      cases gk with
      | zero => exact absurd HA.out (by simp [utf_read.l0])
      | succ k1 =>
       have H := HA.out
       clear HA
       simp only [utf_read.l0] at H
       by_cases c8 : x9_1 ≤ t132
       ·rw [if_pos c8] at H
        have c8b0 : decide (x9_1 ≤ t132) = true := decide_eq_true c8
        clear c8
        by_cases c9 : x9_1 = (l0.length : Int)
        ·rw [if_pos c9] at H
         have c9b0 : (x9_1 == (l0.length : Int)) = true := beq_iff_eq.mpr c9
         have c9b1 : (x9_1 != (l0.length : Int)) = false := bne_eq_false_iff_eq.mpr c9
         clear c9
         simp only [Option.some.injEq, Prod.mk.injEq] at H
         obtain ⟨rfl, rfl, rfl⟩ := H
         go_wp2
         repeat (go_quiet (fail); try go_wp2)
         go_ret3
         exact ⟨by first | rfl | (simp; done) | (simp only [← hji7] <;> (first | rfl | simp)) | (simp [*]; done), by repeat (first | exact Drawn0.refl _ | apply Drawn0.step)⟩
        ·rw [if_neg c9] at H
         have c9b0 : (x9_1 == (l0.length : Int)) = false := beq_eq_false_iff_ne.mpr c9
         have c9b1 : (x9_1 != (l0.length : Int)) = true := bne_iff_ne.mpr c9
         by_cases c10 : 0 ≤ x9_1
         ·rw [if_pos c10] at H
          have c10b0 : decide (0 ≤ x9_1) = true := decide_eq_true c10
          clear c10
          by_cases c11 : x9_1 < (l0.length : Int)
          ·rw [if_pos c11] at H
           have c11b0 : decide (x9_1 < (l0.length : Int)) = true := decide_eq_true c11
           clear c11
           by_cases c12 : (rd l0 x9_1) < x6_1
           ·rw [if_pos c12] at H
            have c12b0 : decide ((rd l0 x9_1) < x6_1) = true := decide_eq_true c12
            clear c12
            simp only [Option.some.injEq, Prod.mk.injEq] at H
            obtain ⟨rfl, rfl, rfl⟩ := H
            have p137 : 0 ≤ (x9_1 : Int) := of_decide_eq_true (by first | (with_reducible assumption) | assumption)
            have q137 : x9_1 < (l0.length : Int) := of_decide_eq_true (by first | (with_reducible assumption) | assumption)
            obtain ⟨ad137, e137, hx137_0⟩ := Kd.at_int HR0.out x9_1 p137 q137
            obtain rfl : ad131 = ad137 := (by injection e137)
            replace p137 := eq_true p137
            replace q137 := eq_true q137
            go_wp2
            repeat (go_quiet (fail); try go_wp2)
            go_ret3
            exact ⟨by first | rfl | (simp; done) | (simp only [← hji7] <;> (first | rfl | simp)) | (simp [*]; done), by repeat (first | exact Drawn0.refl _ | apply Drawn0.step)⟩
           ·rw [if_neg c12] at H
            have c12b0 : decide ((rd l0 x9_1) < x6_1) = false := decide_eq_false c12
            clear c12
            by_cases c13 : (rd l0 x9_1) > x7_1
            ·rw [if_pos c13] at H
             have c13b0 : decide (x7_1 < (rd l0 x9_1)) = true := decide_eq_true c13
             clear c13
             simp only [Option.some.injEq, Prod.mk.injEq] at H
             obtain ⟨rfl, rfl, rfl⟩ := H
             have p137 : 0 ≤ (x9_1 : Int) := of_decide_eq_true (by first | (with_reducible assumption) | assumption)
             have q137 : x9_1 < (l0.length : Int) := of_decide_eq_true (by first | (with_reducible assumption) | assumption)
             obtain ⟨ad137, e137, hx137_0⟩ := Kd.at_int HR0.out x9_1 p137 q137
             obtain rfl : ad131 = ad137 := (by injection e137)
             replace p137 := eq_true p137
             replace q137 := eq_true q137
             have p138 : 0 ≤ (x9_1 : Int) := of_decide_eq_true (by first | (with_reducible assumption) | assumption)
             have q138 : x9_1 < (l0.length : Int) := of_decide_eq_true (by first | (with_reducible assumption) | assumption)
             obtain ⟨ad138, e138, hx138_0⟩ := Kd.at_int HR0.out x9_1 p138 q138
             obtain rfl : ad131 = ad138 := (by injection e138)
             replace p138 := eq_true p138
             replace q138 := eq_true q138
             go_wp2
             repeat (go_quiet (fail); try go_wp2)
             go_ret3
             exact ⟨by first | rfl | (simp; done) | (simp only [← hji7] <;> (first | rfl | simp)) | (simp [*]; done), by repeat (first | exact Drawn0.refl _ | apply Drawn0.step)⟩
            ·rw [if_neg c13] at H
             have c13b0 : decide (x7_1 < (rd l0 x9_1)) = false := decide_eq_false c13
             clear c13
             have H' := Aside0.mk H
             clear H
             have p137 : 0 ≤ (x9_1 : Int) := of_decide_eq_true (by first | (with_reducible assumption) | assumption)
             have q137 : x9_1 < (l0.length : Int) := of_decide_eq_true (by first | (with_reducible assumption) | assumption)
             obtain ⟨ad137, e137, hx137_0⟩ := Kd.at_int HR0.out x9_1 p137 q137
             obtain rfl : ad131 = ad137 := (by injection e137)
             replace p137 := eq_true p137
             replace q137 := eq_true q137
             have p138 : 0 ≤ (x9_1 : Int) := of_decide_eq_true (by first | (with_reducible assumption) | assumption)
             have q138 : x9_1 < (l0.length : Int) := of_decide_eq_true (by first | (with_reducible assumption) | assumption)
             obtain ⟨ad138, e138, hx138_0⟩ := Kd.at_int HR0.out x9_1 p138 q138
             obtain rfl : ad131 = ad138 := (by injection e138)
             replace p138 := eq_true p138
             replace q138 := eq_true q138
             have p139 : 0 ≤ (x9_1 : Int) := of_decide_eq_true (by first | (with_reducible assumption) | assumption)
             have q139 : x9_1 < (l0.length : Int) := of_decide_eq_true (by first | (with_reducible assumption) | assumption)
             obtain ⟨ad139, e139, hx139_0⟩ := Kd.at_int HR0.out x9_1 p139 q139
             obtain rfl : ad131 = ad139 := (by injection e139)
             replace p139 := eq_true p139
             replace q139 := eq_true q139
             go_wp2
             repeat (go_quiet (fail); try go_wp2)
             go_roundg k1
             case measure => have := HK1.out; omega
             case rel => exact ⟨(128), (191), (Go.bits .or .i32 (wrap32 (x8_1 * 64)) (wrap32 (Go.bits .and .u8 (rd l0 x9_1) 63))), (wrap64 (x9_1 + 1)), (by first | rfl | (simp; done) | (simp [*]; done) | (unfold bt; split <;> first | rfl | (exfalso; simp_all; done) | (exfalso; simp_all; omega))), (by first | rfl | (simp; done) | (simp [*]; done) | (unfold bt; split <;> first | rfl | (exfalso; simp_all; done) | (exfalso; simp_all; omega))), (by first | rfl | (simp; done) | (simp [*]; done) | (unfold bt; split <;> first | rfl | (exfalso; simp_all; done) | (exfalso; simp_all; omega))), (by first | rfl | (simp; done) | (simp [*]; done) | (unfold bt; split <;> first | rfl | (exfalso; simp_all; done) | (exfalso; simp_all; omega))), H', ⟨by have := HK1.out; omega⟩, by repeat (first | exact Drawn0.refl _ | apply Drawn0.step)⟩
          ·rw [if_neg c11] at H
           exact absurd H (by simp)
         ·rw [if_neg c10] at H
          exact absurd H (by simp)
       ·rw [if_neg c8] at H
        have c8b0 : decide (x9_1 ≤ t132) = false := decide_eq_false c8
        clear c8
        simp only [Option.some.injEq, Prod.mk.injEq] at H
        obtain ⟨rfl, rfl, rfl⟩ := H
        go_wp2
        repeat (go_quiet (fail); try go_wp2)
        go_ret3
        exact ⟨by first | rfl | (simp; done) | (simp only [← hji7] <;> (first | rfl | simp)) | (simp [*]; done), by repeat (first | exact Drawn0.refl _ | apply Drawn0.step)⟩
    ·rw [if_neg c6] at H
     exact absurd H (by simp)
 ·rw [if_neg c2] at H
  exact absurd H (by simp)

end Go.Proofs.YthmbbkbmlnaghaaDoor.P
end
section
/-
 The table of named references as plain data, and the contract of 'api.Entities': it hands back a new slice that holds just this table.
-/
namespace Go.Proofs.YthmbbkbmlnaghaaDoor.P
open Go.RowKit Go.Proofs.YthmbbkbmlnaghaaDoorW.PrintWords Go.Proofs.YthmbbkbmlnaghaaDoorW.PrintLast Go.Proofs.YthmbbkbmlnaghaaDoorW.PrintMore
set_option linter.unusedVariables false

def ents : List S75 := [
 ⟨⟨#[65, 69, 108, 105, 103]⟩, 198, 0, true⟩,
 ⟨⟨#[65, 77, 80]⟩, 38, 0, true⟩,
 ⟨⟨#[65, 97, 99, 117, 116, 101]⟩, 193, 0, true⟩,
 ⟨⟨#[65, 99, 105, 114, 99]⟩, 194, 0, true⟩,
 ⟨⟨#[65, 102, 114]⟩, 120068, 0, false⟩,
 ⟨⟨#[65, 103, 114, 97, 118, 101]⟩, 192, 0, true⟩,
 ⟨⟨#[65, 108, 112, 104, 97]⟩, 913, 0, false⟩,
 ⟨⟨#[65, 114, 105, 110, 103]⟩, 197, 0, true⟩,
 ⟨⟨#[65, 116, 105, 108, 100, 101]⟩, 195, 0, true⟩,
 ⟨⟨#[65, 117, 109, 108]⟩, 196, 0, true⟩,
 ⟨⟨#[66, 101, 116, 97]⟩, 914, 0, false⟩,
 ⟨⟨#[67, 79, 80, 89]⟩, 169, 0, true⟩,
 ⟨⟨#[67, 99, 101, 100, 105, 108]⟩, 199, 0, true⟩,
 ⟨⟨#[67, 104, 105]⟩, 935, 0, false⟩,
 ⟨⟨#[67, 111, 112, 102]⟩, 8450, 0, false⟩,
 ⟨⟨#[68, 97, 103, 103, 101, 114]⟩, 8225, 0, false⟩,
 ⟨⟨#[68, 101, 108, 116, 97]⟩, 916, 0, false⟩,
 ⟨⟨#[69, 84, 72]⟩, 208, 0, true⟩,
 ⟨⟨#[69, 97, 99, 117, 116, 101]⟩, 201, 0, true⟩,
 ⟨⟨#[69, 99, 105, 114, 99]⟩, 202, 0, true⟩,
 ⟨⟨#[69, 103, 114, 97, 118, 101]⟩, 200, 0, true⟩,
 ⟨⟨#[69, 112, 115, 105, 108, 111, 110]⟩, 917, 0, false⟩,
 ⟨⟨#[69, 116, 97]⟩, 919, 0, false⟩,
 ⟨⟨#[69, 117, 109, 108]⟩, 203, 0, true⟩,
 ⟨⟨#[71, 84]⟩, 62, 0, true⟩,
 ⟨⟨#[71, 97, 109, 109, 97]⟩, 915, 0, false⟩,
 ⟨⟨#[72, 97, 116]⟩, 94, 0, false⟩,
 ⟨⟨#[73, 97, 99, 117, 116, 101]⟩, 205, 0, true⟩,
 ⟨⟨#[73, 99, 105, 114, 99]⟩, 206, 0, true⟩,
 ⟨⟨#[73, 103, 114, 97, 118, 101]⟩, 204, 0, true⟩,
 ⟨⟨#[73, 111, 116, 97]⟩, 921, 0, false⟩,
 ⟨⟨#[73, 117, 109, 108]⟩, 207, 0, true⟩,
 ⟨⟨#[75, 97, 112, 112, 97]⟩, 922, 0, false⟩,
 ⟨⟨#[76, 84]⟩, 60, 0, true⟩,
 ⟨⟨#[76, 97, 109, 98, 100, 97]⟩, 923, 0, false⟩,
 ⟨⟨#[77, 117]⟩, 924, 0, false⟩,
 ⟨⟨#[78, 101, 119, 76, 105, 110, 101]⟩, 10, 0, false⟩,
 ⟨⟨#[78, 111, 116, 69, 113, 117, 97, 108, 84, 105, 108, 100, 101]⟩, 8770, 824, false⟩,
 ⟨⟨#[78, 116, 105, 108, 100, 101]⟩, 209, 0, true⟩,
 ⟨⟨#[78, 117]⟩, 925, 0, false⟩,
 ⟨⟨#[79, 69, 108, 105, 103]⟩, 338, 0, false⟩,
 ⟨⟨#[79, 97, 99, 117, 116, 101]⟩, 211, 0, true⟩,
 ⟨⟨#[79, 99, 105, 114, 99]⟩, 212, 0, true⟩,
 ⟨⟨#[79, 103, 114, 97, 118, 101]⟩, 210, 0, true⟩,
 ⟨⟨#[79, 109, 101, 103, 97]⟩, 937, 0, false⟩,
 ⟨⟨#[79, 109, 105, 99, 114, 111, 110]⟩, 927, 0, false⟩,
 ⟨⟨#[79, 115, 108, 97, 115, 104]⟩, 216, 0, true⟩,
 ⟨⟨#[79, 116, 105, 108, 100, 101]⟩, 213, 0, true⟩,
 ⟨⟨#[79, 117, 109, 108]⟩, 214, 0, true⟩,
 ⟨⟨#[80, 104, 105]⟩, 934, 0, false⟩,
 ⟨⟨#[80, 105]⟩, 928, 0, false⟩,
 ⟨⟨#[80, 114, 105, 109, 101]⟩, 8243, 0, false⟩,
 ⟨⟨#[80, 115, 105]⟩, 936, 0, false⟩,
 ⟨⟨#[81, 85, 79, 84]⟩, 34, 0, true⟩,
 ⟨⟨#[82, 69, 71]⟩, 174, 0, true⟩,
 ⟨⟨#[82, 104, 111]⟩, 929, 0, false⟩,
 ⟨⟨#[83, 99, 97, 114, 111, 110]⟩, 352, 0, false⟩,
 ⟨⟨#[83, 105, 103, 109, 97]⟩, 931, 0, false⟩,
 ⟨⟨#[84, 72, 79, 82, 78]⟩, 222, 0, true⟩,
 ⟨⟨#[84, 97, 98]⟩, 9, 0, false⟩,
 ⟨⟨#[84, 97, 117]⟩, 932, 0, false⟩,
 ⟨⟨#[84, 104, 101, 116, 97]⟩, 920, 0, false⟩,
 ⟨⟨#[84, 104, 105, 99, 107, 83, 112, 97, 99, 101]⟩, 8287, 8202, false⟩,
 ⟨⟨#[85, 97, 99, 117, 116, 101]⟩, 218, 0, true⟩,
 ⟨⟨#[85, 99, 105, 114, 99]⟩, 219, 0, true⟩,
 ⟨⟨#[85, 103, 114, 97, 118, 101]⟩, 217, 0, true⟩,
 ⟨⟨#[85, 112, 115, 105, 108, 111, 110]⟩, 933, 0, false⟩,
 ⟨⟨#[85, 117, 109, 108]⟩, 220, 0, true⟩,
 ⟨⟨#[88, 105]⟩, 926, 0, false⟩,
 ⟨⟨#[89, 97, 99, 117, 116, 101]⟩, 221, 0, true⟩,
 ⟨⟨#[89, 117, 109, 108]⟩, 376, 0, false⟩,
 ⟨⟨#[90, 101, 116, 97]⟩, 918, 0, false⟩,
 ⟨⟨#[97, 97, 99, 117, 116, 101]⟩, 225, 0, true⟩,
 ⟨⟨#[97, 99, 105, 114, 99]⟩, 226, 0, true⟩,
 ⟨⟨#[97, 99, 117, 116, 101]⟩, 180, 0, true⟩,
 ⟨⟨#[97, 101, 108, 105, 103]⟩, 230, 0, true⟩,
 ⟨⟨#[97, 103, 114, 97, 118, 101]⟩, 224, 0, true⟩,
 ⟨⟨#[97, 108, 101, 102, 115, 121, 109]⟩, 8501, 0, false⟩,
 ⟨⟨#[97, 108, 112, 104, 97]⟩, 945, 0, false⟩,
 ⟨⟨#[97, 109, 112]⟩, 38, 0, true⟩,
 ⟨⟨#[97, 110, 100]⟩, 8743, 0, false⟩,
 ⟨⟨#[97, 110, 103]⟩, 8736, 0, false⟩,
 ⟨⟨#[97, 112, 111, 115]⟩, 39, 0, false⟩,
 ⟨⟨#[97, 114, 105, 110, 103]⟩, 229, 0, true⟩,
 ⟨⟨#[97, 115, 116]⟩, 42, 0, false⟩,
 ⟨⟨#[97, 115, 121, 109, 112]⟩, 8776, 0, false⟩,
 ⟨⟨#[97, 116, 105, 108, 100, 101]⟩, 227, 0, true⟩,
 ⟨⟨#[97, 117, 109, 108]⟩, 228, 0, true⟩,
 ⟨⟨#[98, 100, 113, 117, 111]⟩, 8222, 0, false⟩,
 ⟨⟨#[98, 101, 116, 97]⟩, 946, 0, false⟩,
 ⟨⟨#[98, 110, 101]⟩, 61, 8421, false⟩,
 ⟨⟨#[98, 114, 118, 98, 97, 114]⟩, 166, 0, true⟩,
 ⟨⟨#[98, 115, 111, 108]⟩, 92, 0, false⟩,
 ⟨⟨#[98, 117, 108, 108]⟩, 8226, 0, false⟩,
 ⟨⟨#[99, 97, 112]⟩, 8745, 0, false⟩,
 ⟨⟨#[99, 99, 101, 100, 105, 108]⟩, 231, 0, true⟩,
 ⟨⟨#[99, 101, 100, 105, 108]⟩, 184, 0, true⟩,
 ⟨⟨#[99, 101, 110, 116]⟩, 162, 0, true⟩,
 ⟨⟨#[99, 104, 105]⟩, 967, 0, false⟩,
 ⟨⟨#[99, 105, 114, 99]⟩, 710, 0, false⟩,
 ⟨⟨#[99, 108, 117, 98, 115]⟩, 9827, 0, false⟩,
 ⟨⟨#[99, 111, 108, 111, 110]⟩, 58, 0, false⟩,
 ⟨⟨#[99, 111, 109, 109, 97]⟩, 44, 0, false⟩,
 ⟨⟨#[99, 111, 109, 109, 97, 116]⟩, 64, 0, false⟩,
 ⟨⟨#[99, 111, 110, 103]⟩, 8773, 0, false⟩,
 ⟨⟨#[99, 111, 112, 121]⟩, 169, 0, true⟩,
 ⟨⟨#[99, 114, 97, 114, 114]⟩, 8629, 0, false⟩,
 ⟨⟨#[99, 117, 112]⟩, 8746, 0, false⟩,
 ⟨⟨#[99, 117, 114, 114, 101, 110]⟩, 164, 0, true⟩,
 ⟨⟨#[100, 65, 114, 114]⟩, 8659, 0, false⟩,
 ⟨⟨#[100, 97, 103, 103, 101, 114]⟩, 8224, 0, false⟩,
 ⟨⟨#[100, 97, 114, 114]⟩, 8595, 0, false⟩,
 ⟨⟨#[100, 101, 103]⟩, 176, 0, true⟩,
 ⟨⟨#[100, 101, 108, 116, 97]⟩, 948, 0, false⟩,
 ⟨⟨#[100, 105, 97, 109, 115]⟩, 9830, 0, false⟩,
 ⟨⟨#[100, 105, 118, 105, 100, 101]⟩, 247, 0, true⟩,
 ⟨⟨#[100, 111, 108, 108, 97, 114]⟩, 36, 0, false⟩,
 ⟨⟨#[101, 97, 99, 117, 116, 101]⟩, 233, 0, true⟩,
 ⟨⟨#[101, 99, 105, 114, 99]⟩, 234, 0, true⟩,
 ⟨⟨#[101, 103, 114, 97, 118, 101]⟩, 232, 0, true⟩,
 ⟨⟨#[101, 109, 112, 116, 121]⟩, 8709, 0, false⟩,
 ⟨⟨#[101, 109, 115, 112]⟩, 8195, 0, false⟩,
 ⟨⟨#[101, 110, 115, 112]⟩, 8194, 0, false⟩,
 ⟨⟨#[101, 112, 115, 105, 108, 111, 110]⟩, 949, 0, false⟩,
 ⟨⟨#[101, 113, 117, 97, 108, 115]⟩, 61, 0, false⟩,
 ⟨⟨#[101, 113, 117, 105, 118]⟩, 8801, 0, false⟩,
 ⟨⟨#[101, 116, 97]⟩, 951, 0, false⟩,
 ⟨⟨#[101, 116, 104]⟩, 240, 0, true⟩,
 ⟨⟨#[101, 117, 109, 108]⟩, 235, 0, true⟩,
 ⟨⟨#[101, 117, 114, 111]⟩, 8364, 0, false⟩,
 ⟨⟨#[101, 120, 99, 108]⟩, 33, 0, false⟩,
 ⟨⟨#[101, 120, 105, 115, 116]⟩, 8707, 0, false⟩,
 ⟨⟨#[102, 106, 108, 105, 103]⟩, 102, 106, false⟩,
 ⟨⟨#[102, 110, 111, 102]⟩, 402, 0, false⟩,
 ⟨⟨#[102, 111, 114, 97, 108, 108]⟩, 8704, 0, false⟩,
 ⟨⟨#[102, 114, 97, 99, 49, 50]⟩, 189, 0, true⟩,
 ⟨⟨#[102, 114, 97, 99, 49, 52]⟩, 188, 0, true⟩,
 ⟨⟨#[102, 114, 97, 99, 51, 52]⟩, 190, 0, true⟩,
 ⟨⟨#[102, 114, 97, 115, 108]⟩, 8260, 0, false⟩,
 ⟨⟨#[103, 97, 109, 109, 97]⟩, 947, 0, false⟩,
 ⟨⟨#[103, 101]⟩, 8805, 0, false⟩,
 ⟨⟨#[103, 114, 97, 118, 101]⟩, 96, 0, false⟩,
 ⟨⟨#[103, 116]⟩, 62, 0, true⟩,
 ⟨⟨#[104, 65, 114, 114]⟩, 8660, 0, false⟩,
 ⟨⟨#[104, 97, 114, 114]⟩, 8596, 0, false⟩,
 ⟨⟨#[104, 101, 97, 114, 116, 115]⟩, 9829, 0, false⟩,
 ⟨⟨#[104, 101, 108, 108, 105, 112]⟩, 8230, 0, false⟩,
 ⟨⟨#[105, 97, 99, 117, 116, 101]⟩, 237, 0, true⟩,
 ⟨⟨#[105, 99, 105, 114, 99]⟩, 238, 0, true⟩,
 ⟨⟨#[105, 101, 120, 99, 108]⟩, 161, 0, true⟩,
 ⟨⟨#[105, 103, 114, 97, 118, 101]⟩, 236, 0, true⟩,
 ⟨⟨#[105, 109, 97, 103, 101]⟩, 8465, 0, false⟩,
 ⟨⟨#[105, 110, 102, 105, 110]⟩, 8734, 0, false⟩,
 ⟨⟨#[105, 110, 116]⟩, 8747, 0, false⟩,
 ⟨⟨#[105, 111, 116, 97]⟩, 953, 0, false⟩,
 ⟨⟨#[105, 113, 117, 101, 115, 116]⟩, 191, 0, true⟩,
 ⟨⟨#[105, 115, 105, 110]⟩, 8712, 0, false⟩,
 ⟨⟨#[105, 117, 109, 108]⟩, 239, 0, true⟩,
 ⟨⟨#[107, 97, 112, 112, 97]⟩, 954, 0, false⟩,
 ⟨⟨#[108, 65, 114, 114]⟩, 8656, 0, false⟩,
 ⟨⟨#[108, 97, 109, 98, 100, 97]⟩, 955, 0, false⟩,
 ⟨⟨#[108, 97, 110, 103]⟩, 10216, 0, false⟩,
 ⟨⟨#[108, 97, 113, 117, 111]⟩, 171, 0, true⟩,
 ⟨⟨#[108, 97, 114, 114]⟩, 8592, 0, false⟩,
 ⟨⟨#[108, 98, 114, 97, 99, 101]⟩, 123, 0, false⟩,
 ⟨⟨#[108, 98, 114, 97, 99, 107]⟩, 91, 0, false⟩,
 ⟨⟨#[108, 99, 101, 105, 108]⟩, 8968, 0, false⟩,
 ⟨⟨#[108, 99, 117, 98]⟩, 123, 0, false⟩,
 ⟨⟨#[108, 100, 113, 117, 111]⟩, 8220, 0, false⟩,
 ⟨⟨#[108, 101]⟩, 8804, 0, false⟩,
 ⟨⟨#[108, 102, 108, 111, 111, 114]⟩, 8970, 0, false⟩,
 ⟨⟨#[108, 111, 119, 97, 115, 116]⟩, 8727, 0, false⟩,
 ⟨⟨#[108, 111, 119, 98, 97, 114]⟩, 95, 0, false⟩,
 ⟨⟨#[108, 111, 122]⟩, 9674, 0, false⟩,
 ⟨⟨#[108, 112, 97, 114]⟩, 40, 0, false⟩,
 ⟨⟨#[108, 114, 109]⟩, 8206, 0, false⟩,
 ⟨⟨#[108, 115, 97, 113, 117, 111]⟩, 8249, 0, false⟩,
 ⟨⟨#[108, 115, 113, 98]⟩, 91, 0, false⟩,
 ⟨⟨#[108, 115, 113, 117, 111]⟩, 8216, 0, false⟩,
 ⟨⟨#[108, 116]⟩, 60, 0, true⟩,
 ⟨⟨#[109, 97, 99, 114]⟩, 175, 0, true⟩,
 ⟨⟨#[109, 100, 97, 115, 104]⟩, 8212, 0, false⟩,
 ⟨⟨#[109, 105, 99, 114, 111]⟩, 181, 0, true⟩,
 ⟨⟨#[109, 105, 100, 100, 111, 116]⟩, 183, 0, true⟩,
 ⟨⟨#[109, 105, 110, 117, 115]⟩, 8722, 0, false⟩,
 ⟨⟨#[109, 117]⟩, 956, 0, false⟩,
 ⟨⟨#[110, 97, 98, 108, 97]⟩, 8711, 0, false⟩,
 ⟨⟨#[110, 98, 115, 112]⟩, 160, 0, true⟩,
 ⟨⟨#[110, 100, 97, 115, 104]⟩, 8211, 0, false⟩,
 ⟨⟨#[110, 101]⟩, 8800, 0, false⟩,
 ⟨⟨#[110, 105]⟩, 8715, 0, false⟩,
 ⟨⟨#[110, 111, 116]⟩, 172, 0, true⟩,
 ⟨⟨#[110, 111, 116, 105, 110]⟩, 8713, 0, false⟩,
 ⟨⟨#[110, 111, 116, 105, 110, 118, 97]⟩, 8713, 0, false⟩,
 ⟨⟨#[110, 111, 116, 110, 105]⟩, 8716, 0, false⟩,
 ⟨⟨#[110, 115, 117, 98]⟩, 8836, 0, false⟩,
 ⟨⟨#[110, 116, 105, 108, 100, 101]⟩, 241, 0, true⟩,
 ⟨⟨#[110, 117]⟩, 957, 0, false⟩,
 ⟨⟨#[110, 117, 109]⟩, 35, 0, false⟩,
 ⟨⟨#[110, 118, 108, 116]⟩, 60, 8402, false⟩,
 ⟨⟨#[111, 97, 99, 117, 116, 101]⟩, 243, 0, true⟩,
 ⟨⟨#[111, 99, 105, 114, 99]⟩, 244, 0, true⟩,
 ⟨⟨#[111, 101, 108, 105, 103]⟩, 339, 0, false⟩,
 ⟨⟨#[111, 103, 114, 97, 118, 101]⟩, 242, 0, true⟩,
 ⟨⟨#[111, 108, 105, 110, 101]⟩, 8254, 0, false⟩,
 ⟨⟨#[111, 109, 101, 103, 97]⟩, 969, 0, false⟩,
 ⟨⟨#[111, 109, 105, 99, 114, 111, 110]⟩, 959, 0, false⟩,
 ⟨⟨#[111, 112, 108, 117, 115]⟩, 8853, 0, false⟩,
 ⟨⟨#[111, 114]⟩, 8744, 0, false⟩,
 ⟨⟨#[111, 114, 100, 102]⟩, 170, 0, true⟩,
 ⟨⟨#[111, 114, 100, 109]⟩, 186, 0, true⟩,
 ⟨⟨#[111, 115, 108, 97, 115, 104]⟩, 248, 0, true⟩,
 ⟨⟨#[111, 116, 105, 108, 100, 101]⟩, 245, 0, true⟩,
 ⟨⟨#[111, 116, 105, 109, 101, 115]⟩, 8855, 0, false⟩,
 ⟨⟨#[111, 117, 109, 108]⟩, 246, 0, true⟩,
 ⟨⟨#[112, 97, 114, 97]⟩, 182, 0, true⟩,
 ⟨⟨#[112, 97, 114, 116]⟩, 8706, 0, false⟩,
 ⟨⟨#[112, 101, 114, 99, 110, 116]⟩, 37, 0, false⟩,
 ⟨⟨#[112, 101, 114, 105, 111, 100]⟩, 46, 0, false⟩,
 ⟨⟨#[112, 101, 114, 109, 105, 108]⟩, 8240, 0, false⟩,
 ⟨⟨#[112, 101, 114, 112]⟩, 8869, 0, false⟩,
 ⟨⟨#[112, 104, 105]⟩, 966, 0, false⟩,
 ⟨⟨#[112, 105]⟩, 960, 0, false⟩,
 ⟨⟨#[112, 105, 118]⟩, 982, 0, false⟩,
 ⟨⟨#[112, 108, 117, 115]⟩, 43, 0, false⟩,
 ⟨⟨#[112, 108, 117, 115, 109, 110]⟩, 177, 0, true⟩,
 ⟨⟨#[112, 111, 117, 110, 100]⟩, 163, 0, true⟩,
 ⟨⟨#[112, 114, 105, 109, 101]⟩, 8242, 0, false⟩,
 ⟨⟨#[112, 114, 111, 100]⟩, 8719, 0, false⟩,
 ⟨⟨#[112, 114, 111, 112]⟩, 8733, 0, false⟩,
 ⟨⟨#[112, 115, 105]⟩, 968, 0, false⟩,
 ⟨⟨#[113, 117, 101, 115, 116]⟩, 63, 0, false⟩,
 ⟨⟨#[113, 117, 111, 116]⟩, 34, 0, true⟩,
 ⟨⟨#[114, 65, 114, 114]⟩, 8658, 0, false⟩,
 ⟨⟨#[114, 97, 100, 105, 99]⟩, 8730, 0, false⟩,
 ⟨⟨#[114, 97, 110, 103]⟩, 10217, 0, false⟩,
 ⟨⟨#[114, 97, 113, 117, 111]⟩, 187, 0, true⟩,
 ⟨⟨#[114, 97, 114, 114]⟩, 8594, 0, false⟩,
 ⟨⟨#[114, 98, 114, 97, 99, 101]⟩, 125, 0, false⟩,
 ⟨⟨#[114, 98, 114, 97, 99, 107]⟩, 93, 0, false⟩,
 ⟨⟨#[114, 99, 101, 105, 108]⟩, 8969, 0, false⟩,
 ⟨⟨#[114, 99, 117, 98]⟩, 125, 0, false⟩,
 ⟨⟨#[114, 100, 113, 117, 111]⟩, 8221, 0, false⟩,
 ⟨⟨#[114, 101, 97, 108]⟩, 8476, 0, false⟩,
 ⟨⟨#[114, 101, 103]⟩, 174, 0, true⟩,
 ⟨⟨#[114, 102, 108, 111, 111, 114]⟩, 8971, 0, false⟩,
 ⟨⟨#[114, 104, 111]⟩, 961, 0, false⟩,
 ⟨⟨#[114, 108, 109]⟩, 8207, 0, false⟩,
 ⟨⟨#[114, 112, 97, 114]⟩, 41, 0, false⟩,
 ⟨⟨#[114, 115, 97, 113, 117, 111]⟩, 8250, 0, false⟩,
 ⟨⟨#[114, 115, 113, 98]⟩, 93, 0, false⟩,
 ⟨⟨#[114, 115, 113, 117, 111]⟩, 8217, 0, false⟩,
 ⟨⟨#[115, 98, 113, 117, 111]⟩, 8218, 0, false⟩,
 ⟨⟨#[115, 99, 97, 114, 111, 110]⟩, 353, 0, false⟩,
 ⟨⟨#[115, 100, 111, 116]⟩, 8901, 0, false⟩,
 ⟨⟨#[115, 101, 99, 116]⟩, 167, 0, true⟩,
 ⟨⟨#[115, 101, 109, 105]⟩, 59, 0, false⟩,
 ⟨⟨#[115, 104, 121]⟩, 173, 0, true⟩,
 ⟨⟨#[115, 105, 103, 109, 97]⟩, 963, 0, false⟩,
 ⟨⟨#[115, 105, 103, 109, 97, 102]⟩, 962, 0, false⟩,
 ⟨⟨#[115, 105, 109]⟩, 8764, 0, false⟩,
 ⟨⟨#[115, 111, 108]⟩, 47, 0, false⟩,
 ⟨⟨#[115, 112, 97, 100, 101, 115]⟩, 9824, 0, false⟩,
 ⟨⟨#[115, 117, 98]⟩, 8834, 0, false⟩,
 ⟨⟨#[115, 117, 98, 101]⟩, 8838, 0, false⟩,
 ⟨⟨#[115, 117, 109]⟩, 8721, 0, false⟩,
 ⟨⟨#[115, 117, 112]⟩, 8835, 0, false⟩,
 ⟨⟨#[115, 117, 112, 49]⟩, 185, 0, true⟩,
 ⟨⟨#[115, 117, 112, 50]⟩, 178, 0, true⟩,
 ⟨⟨#[115, 117, 112, 51]⟩, 179, 0, true⟩,
 ⟨⟨#[115, 117, 112, 101]⟩, 8839, 0, false⟩,
 ⟨⟨#[115, 122, 108, 105, 103]⟩, 223, 0, true⟩,
 ⟨⟨#[116, 97, 117]⟩, 964, 0, false⟩,
 ⟨⟨#[116, 104, 101, 114, 101, 52]⟩, 8756, 0, false⟩,
 ⟨⟨#[116, 104, 101, 116, 97]⟩, 952, 0, false⟩,
 ⟨⟨#[116, 104, 101, 116, 97, 115, 121, 109]⟩, 977, 0, false⟩,
 ⟨⟨#[116, 104, 105, 110, 115, 112]⟩, 8201, 0, false⟩,
 ⟨⟨#[116, 104, 111, 114, 110]⟩, 254, 0, true⟩,
 ⟨⟨#[116, 105, 108, 100, 101]⟩, 732, 0, false⟩,
 ⟨⟨#[116, 105, 109, 101, 115]⟩, 215, 0, true⟩,
 ⟨⟨#[116, 114, 97, 100, 101]⟩, 8482, 0, false⟩,
 ⟨⟨#[117, 65, 114, 114]⟩, 8657, 0, false⟩,
 ⟨⟨#[117, 97, 99, 117, 116, 101]⟩, 250, 0, true⟩,
 ⟨⟨#[117, 97, 114, 114]⟩, 8593, 0, false⟩,
 ⟨⟨#[117, 99, 105, 114, 99]⟩, 251, 0, true⟩,
 ⟨⟨#[117, 103, 114, 97, 118, 101]⟩, 249, 0, true⟩,
 ⟨⟨#[117, 109, 108]⟩, 168, 0, true⟩,
 ⟨⟨#[117, 112, 115, 105, 104]⟩, 978, 0, false⟩,
 ⟨⟨#[117, 112, 115, 105, 108, 111, 110]⟩, 965, 0, false⟩,
 ⟨⟨#[117, 117, 109, 108]⟩, 252, 0, true⟩,
 ⟨⟨#[118, 101, 114, 98, 97, 114]⟩, 124, 0, false⟩,
 ⟨⟨#[118, 101, 114, 116]⟩, 124, 0, false⟩,
 ⟨⟨#[119, 101, 105, 101, 114, 112]⟩, 8472, 0, false⟩,
 ⟨⟨#[120, 105]⟩, 958, 0, false⟩,
 ⟨⟨#[121, 97, 99, 117, 116, 101]⟩, 253, 0, true⟩,
 ⟨⟨#[121, 101, 110]⟩, 165, 0, true⟩,
 ⟨⟨#[121, 117, 109, 108]⟩, 255, 0, true⟩,
 ⟨⟨#[122, 101, 116, 97]⟩, 950, 0, false⟩,
 ⟨⟨#[122, 102, 114]⟩, 120119, 0, false⟩,
 ⟨⟨#[122, 119, 106]⟩, 8205, 0, false⟩,
 ⟨⟨#[122, 119, 110, 106]⟩, 8204, 0, false⟩]
def api_Entities.f : Option (List S75) := some ents
def entV (x : S75) : Value := .agg #[.string x.f0, .int .i32 x.f1, .int .i32 x.f2, .bool x.f3]
def entCells (x : S75) : List Value := [.string x.f0, .int .i32 x.f1, .int .i32 x.f2, .bool x.f3]

/-- what an operation that builds an entity of constants into slot k builds -/
def entOp (k : Nat) (o : Oper) : Option S75 :=
 match o with
 | ⟨some d, .build t ps, _, _, _, none⟩ =>
  match ps.toList with
  | [(0, .const (.string s)), (1, .const (.int .i32 a)), (2, .const (.int .i32 b)), (3, .const (.bool c))] =>
   if d = k then (if t = 75 then some ⟨s, a, b, c⟩ else none) else none
  | _ => none
 | _ => none
def entExt : Nat → List Oper → List S75
 | _, [] => []
 | k, o :: os => match entOp k o with | some x => x :: entExt (k + 1) os | none => []

theorem entOp_some {k : Nat} {o : Oper} {x : S75} (h : entOp k o = some x) :
  ∃ ty pos after, o = ⟨some k, .build 75 #[(0, .const (.string x.f0)), (1, .const (.int .i32 x.f1)), (2, .const (.int .i32 x.f2)), (3, .const (.bool x.f3))], ty, pos, after, none⟩ := by
 unfold entOp at h
 split at h
 ·rename_i d t ps ty pos after
  split at h
  ·rename_i s a b c hps
   split at h
   ·rename_i hd
    split at h
    ·rename_i ht
     injection h with h
     subst h hd ht
     refine ⟨ty, pos, after, ?_⟩
     have hp : ps = #[(0, .const (.string s)), (1, .const (.int .i32 a)), (2, .const (.int .i32 b)), (3, .const (.bool c))] := by
      rw [← Array.toArray_toList (xs := ps), hps]
     rw [hp]
    ·cases h
   ·cases h
  ·cases h
 ·cases h

theorem run_build_ent (w : World) (s : ByteArray) (a b : Int) (c : Bool) :
  (Instr.build 75 #[(0, .string s), (1, .int .i32 a), (2, .int .i32 b), (3, .bool c)]).run Tryd.prog w = .ok (.agg #[.string s, .int .i32 a, .int .i32 b, .bool c]) w := by kernel_rfl

theorem wp_build_ent {ops : Array Oper} {Q : Exit → Act → World → Prop} {rest : List Oper} {a : Act} {w : World} {k : Nat} {o : Oper} {x : S75} (h : entOp k o = some x)
  (hr : wpList Tryd.prog ops Q rest (a.put (some k) (entV x)) w) : wpList Tryd.prog ops Q (o :: rest) a w := by
 obtain ⟨ty, pos, after, rfl⟩ := entOp_some h
 refine wpList_plain rfl fun K hK => ?_
 have hb := run_build_ent w x.f0 x.f1 x.f2 x.f3
 unfold Oper.wp
 simp only [execOp, Act.eval, List.map_toArray, List.map_cons, List.map_nil, Sem.run_bind, hb, Result.andThen_ok, Sem.run_pure]
 exact hK _ _ hr

theorem wp_builds {ops : Array Oper} {Q : Exit → Act → World → Prop} {rest : List Oper} {w : World} : ∀ (os : List Oper) (k : Nat) (a : Act), (entExt k os).length = os.length → k + os.length ≤ a.tmps.size →
  (∀ a' : Act, a'.defers = a.defers → a'.tmps.size = a.tmps.size → (∀ j x, (entExt k os)[j]? = some x → a'.tmps[k + j]? = some (entV x)) → (∀ i, i < k → a'.tmps[i]? = a.tmps[i]?) → wpList Tryd.prog ops Q rest a' w) →
  wpList Tryd.prog ops Q (os ++ rest) a w
 | [], k, a, _, _, h => h a rfl rfl (fun j x hj => by simp [entExt] at hj) (fun _ _ => rfl)
 | o :: os, k, a, hl, hs, h => by
  cases he : entOp k o with
  | none => simp [entExt, he] at hl
  | some x =>
   have hx : entExt k (o :: os) = x :: entExt (k + 1) os := by simp [entExt, he]
   rw [hx] at hl h
   simp only [List.length_cons] at hl hs
   refine wp_build_ent he (wp_builds os (k + 1) _ (by omega) (by simp [Act.put]; omega) fun a' h1 h2 h3 h4 => ?_)
   refine h a' (by rw [h1]; rfl) (by rw [h2]; simp [Act.put]) (fun j y hj => ?_) (fun i hi => ?_)
   ·cases j with
    | zero =>
     simp at hj
     subst hj
     rw [Nat.add_zero, h4 k (by omega)]
     simp [Act.put, show k < a.tmps.size by omega]
    | succ j =>
     simp only [List.getElem?_cons_succ] at hj
     rw [show k + (j + 1) = k + 1 + j from by omega]
     exact h3 j y hj
   ·rw [h4 i (by omega)]
    simp [Act.put, show ¬ k = i by omega]

/-! ### the slice's cells -/
theorem fill_ents : ∀ (xs : List S75) (k : Nat) (dn : List Value) (tl : List Value), dn.length = k * 4 → tl.length = xs.length * 4 →
  Instr.fill (fun i => some (i * 4, 4)) (dn ++ tl).toArray ((xs.zipIdx k).map fun p => (p.2, entV p.1)) = some (dn ++ xs.flatMap entCells).toArray
 | [], k, dn, tl, _, ht => by
  obtain rfl : tl = [] := List.eq_nil_of_length_eq_zero (by simpa using ht)
  simp [Instr.fill]
 | x :: xs, k, dn, tl, hd, ht => by
  match tl, ht with
  | t0 :: t1 :: t2 :: t3 :: tl, ht =>
   have ht' : tl.length = xs.length * 4 := by simp at ht; omega
   have ih := fill_ents xs (k + 1) (dn ++ entCells x) tl (by simp [entCells]; omega) ht'
   simp only [List.zipIdx_cons, List.map_cons, Instr.fill]
   have hc : (entV x).cells = #[.string x.f0, .int .i32 x.f1, .int .i32 x.f2, .bool x.f3] := rfl
   rw [hc]
   rw [if_neg (by simp; omega)]
   have e : (Array.zipIdx #[Value.string x.f0, .int .i32 x.f1, .int .i32 x.f2, .bool x.f3]).foldl (fun cs (c, j) => cs.setIfInBounds (k * 4 + j) c) (dn ++ t0 :: t1 :: t2 :: t3 :: tl).toArray = (dn ++ entCells x ++ tl).toArray := by
    rw [← hd]
    simp [entCells]
   rw [e, ih]
   simp [List.append_assoc]
  | [], ht => simp at ht
  | [_], ht => simp at ht; omega
  | [_, _], ht => simp at ht; omega
  | [_, _, _], ht => simp at ht; omega

noncomputable def entOps : Array Oper := match Tryd.f49.body with
 | some (.seq _ (.seq (.region _ ops _) _)) => ops
 | _ => #[]
noncomputable def entHead : Array Oper := match Tryd.f49.body with
 | some (.seq (.region _ ops _) _) => ops
 | _ => #[]
theorem ent_body : Tryd.f49.body = some (.seq (.region 0 entHead false) (.seq (.region 1 entOps false) .ret)) := by kernel_rfl
theorem ent_ext : entExt 1 (entOps.toList.take 301) = ents := by kernel_rfl
theorem ent_take : (entOps.toList.take 301).length = 301 := by kernel_rfl
def entTail (l : List Oper) : Option (Array (Nat × Operand)) :=
 match l with
 | [⟨some d, .buildSlice t n ps, _, _, _, none⟩, ⟨some d', .assign (.tmp u), _, _, _, none⟩] =>
  if d = 302 then (if t = 72 then (if n = 301 then (if d' = 0 then (if u = 302 then some ps else none) else none) else none) else none) else none
 | _ => none
theorem entTail_some {l : List Oper} {ps : Array (Nat × Operand)} (h : entTail l = some ps) :
  ∃ ty pos after ty' pos' after', l = [⟨some 302, .buildSlice 72 301 ps, ty, pos, after, none⟩, ⟨some 0, .assign (.tmp 302), ty', pos', after', none⟩] := by
 unfold entTail at h
 split at h
 ·rename_i d t n ps' ty pos after d' u ty' pos' after'
  by_cases h1 : d = 302
  ·rw [if_pos h1] at h
   by_cases h2 : t = 72
   ·rw [if_pos h2] at h
    by_cases h3 : n = 301
    ·rw [if_pos h3] at h
     by_cases h4 : d' = 0
     ·rw [if_pos h4] at h
      by_cases h5 : u = 302
      ·rw [if_pos h5] at h
       injection h with h
       subst h1 h2 h3 h4 h5 h
       exact ⟨ty, pos, after, ty', pos', after', rfl⟩
      ·rw [if_neg h5] at h; cases h
     ·rw [if_neg h4] at h; cases h
    ·rw [if_neg h3] at h; cases h
   ·rw [if_neg h2] at h; cases h
  ·rw [if_neg h1] at h; cases h
 ·cases h
theorem ent_tail : entTail (entOps.toList.drop 301) = some ((List.range 301).map fun i => (i, Operand.tmp (i + 1))).toArray := by kernel_rfl
theorem ent_headl : entHead = #[⟨some 0, .assign (.const (.slice none 0 0)), 72, "entities.go:12", #[], none⟩] := by kernel_rfl
theorem ents_length : ents.length = 301 := by kernel_rfl

theorem ents_cells_size : (ents.flatMap entCells).length = 1204 := by kernel_rfl
theorem infoEnt : (Tryd.prog.info? 75).map (fun i => (i.zero, i.size, i.bytes)) = some (some (.agg #[.string ⟨#[]⟩, .int .i32 0, .int .i32 0, .bool false]), 4, 32) := by kernel_rfl
theorem run_buildSlice_ents (w : World) (xs : List S75) (n : Nat) (hl : xs.length = n) (h0 : n ≠ 0) (hn : n ≤ 1000) :
  (Instr.buildSlice 72 n ((xs.zipIdx 0).map fun p => (p.2, entV p.1)).toArray).run Tryd.prog w =
  .ok (.slice (some ⟨w.heap.size, 0, none⟩) n n) (w.alloc (.cells (xs.flatMap entCells).toArray 75)) := by
 obtain ⟨i0, hi, hz0, hz1, hz2⟩ := info_parts infoEnt
 have hf : ∀ f : Nat → Value, Instr.fill (fun i => some (i * 4, 4)) (Array.map f (Array.range (n * 4))) ((xs.zipIdx 0).map fun p => (p.2, entV p.1)) = some (xs.flatMap entCells).toArray := fun f => by
  have h := fill_ents xs 0 [] (Array.map f (Array.range (n * 4))).toList rfl (by rw [hl]; simp)
  simpa only [List.nil_append, Array.toArray_toList] using h
 have hz := Tryd.zeroValue75 w
 have hg : ¬ 16777216 < n * 4 := by omega
 have h4 : ¬ n * 4 = 0 := by omega
 simp [Instr.buildSlice, go_sem, run_underlying Tryd.underlying72, sizeOf, typeInfo, hi, hz1, hg]
 rw [if_neg h4, hf]
 rfl

theorem zip_eval (xs : List S75) (a : Act) (h : ∀ j x, xs[j]? = some x → a.tmps[1 + j]? = some (entV x)) :
  ((List.range xs.length).map fun i => (i, a.eval (.tmp (i + 1)))) = (xs.zipIdx 0).map fun p => (p.2, entV p.1) := by
 apply List.ext_getElem
 ·simp
 ·intro i h1 h2
  simp only [List.getElem_map, List.getElem_range, List.getElem_zipIdx, Nat.zero_add]
  have hi : i < xs.length := by simpa using h1
  have := h i xs[i] (List.getElem?_eq_getElem hi)
  rw [Nat.add_comm] at this
  simp [Act.eval, Array.getD_eq_getD_getElem?, this]

theorem flat_len : ∀ xs : List S75, (xs.flatMap entCells).length = xs.length * 4
 | [] => rfl
 | x :: xs => by
  have := flat_len xs
  simp only [List.flatMap_cons, List.length_append, List.length_cons, this]
  simp only [entCells, List.length_cons, List.length_nil]
  omega
theorem flat_at : ∀ (xs : List S75) (j : Nat) (x : S75), xs[j]? = some x → ((xs.flatMap entCells).drop (j * 4)).take 4 = entCells x
 | [], j, x, h => by simp at h
 | y :: xs, 0, x, h => by
  simp at h
  subst h
  simp [entCells]
 | y :: xs, j + 1, x, h => by
  have := flat_at xs j x (by simpa using h)
  rw [show (j + 1) * 4 = 4 + j * 4 from by omega, List.flatMap_cons, ← List.drop_drop]
  have e : (entCells y ++ xs.flatMap entCells).drop 4 = xs.flatMap entCells := by simp [entCells]
  rw [e, this]
theorem reps_ents (w : World) (base : Nat) (ok : Nat → Prop) (xs : List S75) : Reps (k75.M w base ok) 4 xs (xs.flatMap entCells) :=
 ⟨flat_len xs, fun j p hj => by rw [flat_at xs j p hj]; exact k75_mkM w base ok p⟩

set_option maxRecDepth 100000 in
/-- **api.Entities()**: a new slice that holds the table. -/
theorem api_Entities.calls (r : List S75) (w : World) (h : api_Entities.f = some r) :
  Calls Tryd.prog 49 #[] w fun e w' => ∃ v0_ : Value, e = .returned (v0_) ∧ Kd.R k75 75 w' w.heap.size (fun _ => True) v0_ r ∧ Below w.heap.size w w' := by
 obtain rfl := Option.some.inj h
 have hlen := ents_length
 have hsz := ents_cells_size
 have hex := ent_ext
 generalize ents = xs at hlen hsz hex ⊢
 refine calls_of_wp Tryd.func49 ent_body ?_
 apply wp_seq_k; intro K1 hK1
 refine wp_region_list ?_
 rw [ent_headl]
 refine wpList_plain rfl fun K hK => ?_
 unfold Oper.wp
 simp only [execOp, Act.eval, Sem.run_pure]
 refine hK _ _ (wpList_nil (hK1 _ _ ?_))
 clear hK hK1 K K1
 apply wp_seq_k; intro K1 hK1
 refine wp_region_list ?_
 obtain ⟨ty, pos, after, ty', pos', after', ht⟩ := entTail_some ent_tail
 rw [← List.take_append_drop 301 entOps.toList, ht]
 have htk := ent_take
 refine wp_builds _ 1 _ (by rw [hex, hlen, htk]) (by rw [htk]; simp [Tryd.ntmps49, Act.put]) fun a' h1 h2 h3 h4 => ?_
 rw [hex] at h3
 have hsize : a'.tmps.size = 303 := by rw [h2]; simp [Tryd.ntmps49, Act.put]
 have hz := zip_eval xs a' h3
 rw [hlen] at hz
 have hrun := run_buildSlice_ents w xs 301 hlen (by omega) (by omega)
 rw [← hz] at hrun
 refine wpList_plain rfl fun K hK => ?_
 unfold Oper.wp
 simp only [execOp, List.map_toArray, List.map_map, Function.comp_def, Sem.run_bind, hrun, Result.andThen_ok, Sem.run_pure]
 refine hK _ _ ?_
 clear hK K
 refine wpList_plain rfl fun K hK => ?_
 unfold Oper.wp
 simp only [execOp, Sem.run_pure]
 refine hK _ _ (wpList_nil (hK1 _ _ ?_))
 apply wp_ret
 have e302 : (Act.put a' (some 302) (Value.slice (some ⟨w.heap.size, 0, none⟩) 301 301)).eval (.tmp 302) = Value.slice (some ⟨w.heap.size, 0, none⟩) 301 301 := by
  simp [Act.eval, Act.put, hsize, Array.getD_eq_getD_getElem?]
 refine bodyPost_ret (v := .slice (some ⟨w.heap.size, 0, none⟩) 301 301) ?_ ?_ ?_
 ·simp [results, Tryd.results49, Act.put, Act.eval, hsize, Array.getD_eq_getD_getElem?]
 ·simp [Act.put, h1]
 ·refine ⟨_, rfl, ⟨fun _ _ => trivial, xs.flatMap entCells, ⟨by rw [hlen, hsz]; rfl, .inr ⟨w.heap.size, 301, (xs.flatMap entCells).toArray, by rw [hlen], Nat.le_refl _, ?_, by omega, by simp only [maxLen]; omega, by simp [hsz]; rfl, ?_⟩⟩, ?_⟩, (Below.refl _ _).alloc (Nat.le_refl _) _⟩
  ·exact heap_alloc_new w _
  ·rw [hlen]
   refine List.take_of_length_le ?_
   show (xs.flatMap entCells).toArray.toList.length ≤ 301 * 4
   rw [show (xs.flatMap entCells).toArray.toList = xs.flatMap entCells from rfl]
   omega
  ·exact reps_ents _ _ _ xs
end Go.Proofs.YthmbbkbmlnaghaaDoor.P
end
section
/-
 entity.Name: the name of runes: by the table, in the program's order.
-/
namespace Go.Proofs.YthmbbkbmlnaghaaDoor.P
open Go.RowKit Go.Shelf Go.Proofs.YthmbbkbmlnaghaaDoorW.PrintWords Go.Proofs.YthmbbkbmlnaghaaDoorW.PrintLast Go.Proofs.YthmbbkbmlnaghaaDoorW.PrintMore
set_option linter.unusedVariables false
set_option linter.unusedSimpArgs false
attribute [local go_sem] Oper.semAt_some

abbrev EntN := S75
def nameB (x : EntN) : ByteArray := x.f0 ++ ⟨#[59]⟩
def saysN (x : EntN) : List Int := if x.f2 = 0 then [x.f1] else [x.f1, x.f2]
/-- is this entity's name to be taken? -/
def takeB (rs : List Int) (best : ByteArray) (x : EntN) : Bool :=
 decide (saysN x = rs) && (decide (best.toList = []) || decide ((nameB x).size < best.size) || (decide ((nameB x).size = best.size) && Op.bytesLess (nameB x).toList best.toList))
def nameStep (rs : List Int) (best : ByteArray) (x : EntN) : ByteArray := if takeB rs best x = true then nameB x else best
def nameP (rs : List Int) : ByteArray := ents.foldl (nameStep rs) ⟨#[]⟩

theorem eq_l0 (l0 l1 : List Int) (hl : l0.length = l1.length) (hs : l0.length ≤ 1000000000) : ∀ (d i k : Nat), l0.length - i = d → i ≤ l0.length → d + 1 ≤ k → l0.take i = l1.take i →
  slices_Equal_rune_rune.l0 k l0 l1 (l0.length : Int) (i : Int) = some (decide (l0 = l1))
 | 0, i, k, hd, hi, hk, ht => by
  obtain ⟨k, rfl⟩ : ∃ j, k = j + 1 := ⟨k - 1, by omega⟩
  obtain rfl : i = l0.length := by omega
  rw [slices_Equal_rune_rune.l0, if_neg (by omega)]
  rw [List.take_length, List.take_of_length_le (by omega)] at ht
  rw [decide_eq_true ht]
 | d + 1, i, k, hd, hi, hk, ht => by
  obtain ⟨k, rfl⟩ : ∃ j, k = j + 1 := ⟨k - 1, by omega⟩
  have e0 : rd l0 (i : Int) = l0[i]'(by omega) := by unfold rd; rw [Int.toNat_natCast, List.getD_eq_getElem?_getD, List.getElem?_eq_getElem (by omega)]; rfl
  have e1 : rd l1 (i : Int) = l1[i]'(by omega) := by unfold rd; rw [Int.toNat_natCast, List.getD_eq_getElem?_getD, List.getElem?_eq_getElem (by omega)]; rfl
  rw [slices_Equal_rune_rune.l0, if_pos (by omega), if_pos (by omega), if_pos (by omega), if_pos (by omega), e0, e1]
  by_cases c : l0[i]'(by omega) = l1[i]'(by omega)
  ·rw [if_pos c, show wrap64 ((i : Int) + 1) = ((i + 1 : Nat) : Int) by unfold wrap64; omega]
   refine eq_l0 l0 l1 hl hs d (i + 1) k (by omega) (by omega) (by omega) ?_
   rw [List.take_succ_eq_append_getElem (by omega), List.take_succ_eq_append_getElem (by omega), ht, c]
  ·rw [if_neg c, decide_eq_false]
   rintro rfl
   exact c rfl
theorem eq_f (l0 l1 : List Int) (hs : l0.length ≤ 1000000000) (k : Nat) (hk : l0.length + 1 ≤ k) : slices_Equal_rune_rune.f k l0 l1 = some (decide (l0 = l1)) := by
 unfold slices_Equal_rune_rune.f
 by_cases h : (l0.length : Int) = (l1.length : Int)
 ·rw [if_pos h]
  exact eq_l0 l0 l1 (by omega) hs l0.length 0 k (by omega) (by omega) (by omega) rfl
 ·rw [if_neg h, decide_eq_false]
  rintro rfl
  exact h rfl
theorem names_small : ∀ x ∈ ents, x.f0.size ≤ 100 := by decide +kernel
theorem saysN_f (x : EntN) : entity_says.f x.f0 x.f1 x.f2 x.f3 = some (saysN x) := by
 unfold entity_says.f saysN
 by_cases h : x.f2 = 0 <;> simp [h]
theorem ents_flat_inv {w : World} {base : Nat} {ok : Nat → Prop} : ∀ (ps : List EntN) (inner : List Value), Reps (k75.M w base ok) 4 ps inner → inner = ps.flatMap entCells
 | [], inner, h => List.eq_nil_of_length_eq_zero (by rw [h.1]; rfl)
 | p :: ps, inner, h => by
  have h0 := k75_openM (h.2 0 p rfl)
  rw [Nat.zero_mul, List.drop_zero] at h0
  have ht := ents_flat_inv ps (inner.drop 4) ⟨by rw [List.length_drop, h.1, List.length_cons]; omega, fun j q hq => by
   have := h.2 (j + 1) q (by simpa using hq)
   rw [List.drop_drop, show 4 + j * 4 = (j + 1) * 4 by omega]
   exact this⟩
  rw [List.flatMap_cons, ← ht]
  have := (List.take_append_drop 4 inner).symm
  rw [h0] at this
  exact this
theorem ents_cell_at (i j : Nat) (x : EntN) (h : ents[i]? = some x) (hj : j < 4) : (ents.flatMap entCells)[i * 4 + j]? = (entCells x)[j]? := by
 have h1 := flat_at ents i x h
 rw [← h1, List.getElem?_take, if_pos hj, List.getElem?_drop]
/-- the table in memory, as the call laid it -/
theorem entities_calls (w : World) : Calls Tryd.prog 49 #[] w fun e w' => ∃ A c, e = .returned (.slice A ents.length c) ∧ w'.ownsRow w.heap.size 75 4 (.slice A ents.length c) ents.length (ents.flatMap entCells) ∧ Below w.heap.size w w' := by
 refine (api_Entities.calls ents w rfl).mono ?_
 rintro e w' ⟨v, rfl, hR, hb⟩
 obtain ⟨A, c, rfl⟩ := Kd.R_slice hR
 obtain ⟨_, inner, hown, hreps⟩ := hR
 obtain rfl := ents_flat_inv ents inner hreps
 exact ⟨A, c, rfl, hown, hb⟩

set_option maxRecDepth 100000 in
set_option maxHeartbeats 8000000 in
theorem name_calls (A0 : Option Addr) (c0 : Nat) (rs : List Int) (w : World) (hC : Kd.C (Kd.int .i32) w A0 rs.length rs) (hc : rs.length ≤ c0) (hlen : rs.length ≤ 1000000000) :
  Calls Tryd.prog 31 #[.slice A0 rs.length c0] w fun e w' => e = .returned (.tuple #[.string (nameP rs), .bool (!(nameP rs).toList.isEmpty)]) ∧ Below w.heap.size w w' := by
 have HC := Aside0.mk hC
 have HCC := Aside0.mk hc
 have hel := ents_length
 clear hC hc
 refine (callsIn_wide (n := 4)).1 ?_
 refine callsIn_of_wp Tryd.func31 rfl trivial ?_ rfl
 simp only [Tryd.ntmps31, List.size_toArray, List.length_cons, List.length_nil, Nat.reduceAdd, Nat.reduceSub, Array.replicate_succ, Array.replicate_zero, List.push_toArray, List.append_toArray, List.nil_append, List.cons_append]
 gi_wp2_with (refine ⟨trivial, ?_⟩; gi_at_call 49; refine (callsIn_wide.2 (entities_calls _)).mono ?_; rintro e w1 ⟨A, c, rfl, hown, hb1⟩)
 rw [hel] at hown
 have HOWN := Aside0.mk hown
 have HB1 := Aside0.mk hb1
 clear hown hb1
 gi_loopw [4, 10] (fun v4 v10 wr => ∃ (i : Nat) (best : ByteArray), v4 = .string best ∧ v10 = .int .i64 (i : Nat) ∧ i ≤ 301 ∧ Aside0 (best = (ents.take i).foldl (nameStep rs) ⟨#[]⟩ ∧ best.size ≤ 200) ∧ Aside0 (Below w1.heap.size w1 wr)) (fun _ v10 _ => 301 - (intOf v10).toNat)
 case atStart => exact ⟨0, ⟨#[]⟩, rfl, rfl, Nat.zero_le _, ⟨rfl, Nat.zero_le _⟩, ⟨Below.refl _ _⟩⟩
 case round =>
  obtain ⟨i, best, rfl, rfl, hi, HBEST, HBr⟩ := hrel
  by_cases hlt : i < 301
  ·have hix : i < ents.length := by rw [ents_length]; exact hlt
   have hown := ownKept (B := 0) HOWN.out (grown_of_below HBr.out none) (fun r e => by cases e)
   obtain ⟨g, cp, eA, hg1, hg2⟩ := hown.form (by omega)
   have ec : c = cp := by injection eA
   have eA2 : A = some ⟨g, 0, none⟩ := by injection eA
   subst ec eA2
   have hxi : ents[i]? = some ents[i] := List.getElem?_eq_getElem hix
   have hcl : ∀ j, j < 4 → wr.cell? ⟨g, i * 4 + j, none⟩ = (entCells ents[i])[j]? := fun j hj => by
    rw [hown.cellAt (i * 4 + j) (by omega), ents_cell_at i j _ hxi hj]
   have hx0 := hcl 0 (by omega)
   have hx1 := hcl 1 (by omega)
   have hx2 := hcl 2 (by omega)
   have hx3 := hcl 3 (by omega)
   have hsm := names_small ents[i] (List.getElem_mem hix)
   have hst : (ents.take (i + 1)).foldl (nameStep rs) ⟨#[]⟩ = nameStep rs best ents[i] := by
    rw [List.take_succ_eq_append_getElem hix, List.foldl_append, ← HBEST.out.1]
    rfl
   have hbz := HBEST.out.2
   generalize ents[i] = x at hx0 hx1 hx2 hx3 hst hsm
   have HST := Aside0.mk hst
   have HSAY := Aside0.mk (fun W => entity_says.calls x.f0 x.f1 x.f2 x.f3 (saysN x) W (saysN_f x))
   have hsl : (saysN x).length ≤ 2 := by unfold saysN; split <;> simp
   have HEQ := Aside0.mk (eq_f (saysN x) rs (by omega) 10 (by omega))
   replace hx0 : wr.cell? ⟨g, i * 4, none⟩ = some (.string x.f0) := hx0
   replace hx1 : wr.cell? ⟨g, i * 4 + 1, none⟩ = some (.int .i32 x.f1) := hx1
   replace hx2 : wr.cell? ⟨g, i * 4 + 2, none⟩ = some (.int .i32 x.f2) := hx2
   replace hx3 : wr.cell? ⟨g, i * 4 + 3, none⟩ = some (.bool x.f3) := hx3
   have HSL := Aside0.mk hsl
   have hl1 : ((i : Int) < (301 : Int)) = True := eq_true (by omega)
   have hl2 : ((0 : Int) ≤ (i : Int)) = True := eq_true (by omega)
   have hw1 : IntKind.i64.wrap ((i : Int) + 1) = ((i + 1 : Nat) : Int) := (IntWalk.i64_in _ (by omega)).trans (by omega)
   have hz1 : (9223372036854775807 < x.f0.size + 1) = False := eq_false (by omega)
   clear hcl hxi hst hown eA hsl
   have hnz : (nameB x).size = x.f0.size + 1 := by unfold nameB; rw [ByteArray.size_append]; rfl
   have HNZ := Aside0.mk (show (nameB x).size ≤ 200 by omega)
   have HN1 := Aside0.mk hnz
   clear hnz
   by_cases cE : saysN x = rs
   ·rw [decide_eq_true cE] at HEQ
    have HE := Aside0.mk cE
    clear cE
    by_cases cB : best.toList = []
    ·have hb0 : (best.toList == []) = true := beq_iff_eq.2 cB
     have HTK := Aside0.mk (show takeB rs best x = true by unfold takeB; rw [decide_eq_true HE.out, decide_eq_true cB]; rfl)
     clear cB
     gi_wp2_with (first | (refine ⟨trivial, ?_⟩; gi_at_call 51; refine (callsIn_wide.2 (HSAY.out _)).mono ?_; rintro e w2 ⟨v, rfl, hR, hb2⟩; obtain ⟨A2, c2, rfl⟩ := Kd.R_slice hR; have HR2 := Aside0.mk (Kd.R_reads' hR); have HB2 := Aside0.mk (below_step (HBr.out.alloc HBr.out.size (.cells #[.string x.f0, .int .i32 x.f1, .int .i32 x.f2, .bool x.f3] 75)) hb2); clear hR hb2) | (refine ⟨trivial, ?_⟩; gi_at_call 50; refine (callsIn_wide.2 (slices_Equal_rune_rune.calls 10 A2 c2 (saysN x) A0 c0 rs _ _ HR2.out.2.2 HR2.out.2.1 (Kd.C_below (Kd.C_below HC.out HB1.out) HB2.out) HCC.out HEQ.out)).mono ?_; rintro e w3 ⟨rfl, hd⟩; obtain ⟨nd, rfl⟩ := hd.out; clear hd) | (with_reducible refine ⟨fun f hf => (by cases hf), ?_⟩))
     refine ⟨⟨i + 1, nameB x, rfl, by go_num, by omega, ⟨?_, HNZ.out⟩, ⟨pw_below_drewN HB2.out _⟩⟩, by simp [intOf]; omega⟩
     rw [HST.out]
     unfold nameStep
     rw [HTK.out]
     rfl
    ·have hb0 : (best.toList == []) = false := beq_eq_false_iff_ne.2 cB
     have HB0 := Aside0.mk cB
     clear cB
     by_cases cL : x.f0.size + 1 < best.size
     ·have hl3 : decide ((x.f0.size : Int) + 1 < (best.size : Int)) = true := decide_eq_true (by omega)
      have HTK := Aside0.mk (show takeB rs best x = true by unfold takeB; rw [decide_eq_true HE.out, decide_eq_false HB0.out, HN1.out, decide_eq_true cL]; rfl)
      gi_wp2_with (first | (refine ⟨trivial, ?_⟩; gi_at_call 51; refine (callsIn_wide.2 (HSAY.out _)).mono ?_; rintro e w2 ⟨v, rfl, hR, hb2⟩; obtain ⟨A2, c2, rfl⟩ := Kd.R_slice hR; have HR2 := Aside0.mk (Kd.R_reads' hR); have HB2 := Aside0.mk (below_step (HBr.out.alloc HBr.out.size (.cells #[.string x.f0, .int .i32 x.f1, .int .i32 x.f2, .bool x.f3] 75)) hb2); clear hR hb2) | (refine ⟨trivial, ?_⟩; gi_at_call 50; refine (callsIn_wide.2 (slices_Equal_rune_rune.calls 10 A2 c2 (saysN x) A0 c0 rs _ _ HR2.out.2.2 HR2.out.2.1 (Kd.C_below (Kd.C_below HC.out HB1.out) HB2.out) HCC.out HEQ.out)).mono ?_; rintro e w3 ⟨rfl, hd⟩; obtain ⟨nd, rfl⟩ := hd.out; clear hd) | (with_reducible refine ⟨fun f hf => (by cases hf), ?_⟩))
      refine ⟨⟨i + 1, nameB x, rfl, by go_num, by omega, ⟨?_, HNZ.out⟩, ⟨pw_below_drewN HB2.out _⟩⟩, by simp [intOf]; omega⟩
      rw [HST.out]
      unfold nameStep
      rw [HTK.out]
      rfl
     ·have hl3 : decide ((x.f0.size : Int) + 1 < (best.size : Int)) = false := decide_eq_false (by omega)
      by_cases cS : x.f0.size + 1 = best.size
      ·have hl4 : ((x.f0.size : Int) + 1 == (best.size : Int)) = true := beq_iff_eq.2 (by omega)
       have HS := Aside0.mk cS
       have HL := Aside0.mk cL
       clear cS cL
       cases hbl : Op.bytesLess (x.f0 ++ ⟨#[59]⟩ : ByteArray).toList best.toList with
       | true =>
        have HTK := Aside0.mk (show takeB rs best x = true by unfold takeB; rw [decide_eq_true HE.out, decide_eq_false HB0.out, HN1.out, decide_eq_false HL.out, decide_eq_true HS.out]; unfold nameB; rw [hbl]; rfl)
        gi_wp2_with (first | (refine ⟨trivial, ?_⟩; gi_at_call 51; refine (callsIn_wide.2 (HSAY.out _)).mono ?_; rintro e w2 ⟨v, rfl, hR, hb2⟩; obtain ⟨A2, c2, rfl⟩ := Kd.R_slice hR; have HR2 := Aside0.mk (Kd.R_reads' hR); have HB2 := Aside0.mk (below_step (HBr.out.alloc HBr.out.size (.cells #[.string x.f0, .int .i32 x.f1, .int .i32 x.f2, .bool x.f3] 75)) hb2); clear hR hb2) | (refine ⟨trivial, ?_⟩; gi_at_call 50; refine (callsIn_wide.2 (slices_Equal_rune_rune.calls 10 A2 c2 (saysN x) A0 c0 rs _ _ HR2.out.2.2 HR2.out.2.1 (Kd.C_below (Kd.C_below HC.out HB1.out) HB2.out) HCC.out HEQ.out)).mono ?_; rintro e w3 ⟨rfl, hd⟩; obtain ⟨nd, rfl⟩ := hd.out; clear hd) | (with_reducible refine ⟨fun f hf => (by cases hf), ?_⟩))
        refine ⟨⟨i + 1, nameB x, rfl, by go_num, by omega, ⟨?_, HNZ.out⟩, ⟨pw_below_drewN HB2.out _⟩⟩, by simp [intOf]; omega⟩
        rw [HST.out]
        unfold nameStep
        rw [HTK.out]
        rfl
       | false =>
        have HTK := Aside0.mk (show takeB rs best x = false by unfold takeB; rw [decide_eq_true HE.out, decide_eq_false HB0.out, HN1.out, decide_eq_false HL.out, decide_eq_true HS.out]; unfold nameB; rw [hbl]; rfl)
        gi_wp2_with (first | (refine ⟨trivial, ?_⟩; gi_at_call 51; refine (callsIn_wide.2 (HSAY.out _)).mono ?_; rintro e w2 ⟨v, rfl, hR, hb2⟩; obtain ⟨A2, c2, rfl⟩ := Kd.R_slice hR; have HR2 := Aside0.mk (Kd.R_reads' hR); have HB2 := Aside0.mk (below_step (HBr.out.alloc HBr.out.size (.cells #[.string x.f0, .int .i32 x.f1, .int .i32 x.f2, .bool x.f3] 75)) hb2); clear hR hb2) | (refine ⟨trivial, ?_⟩; gi_at_call 50; refine (callsIn_wide.2 (slices_Equal_rune_rune.calls 10 A2 c2 (saysN x) A0 c0 rs _ _ HR2.out.2.2 HR2.out.2.1 (Kd.C_below (Kd.C_below HC.out HB1.out) HB2.out) HCC.out HEQ.out)).mono ?_; rintro e w3 ⟨rfl, hd⟩; obtain ⟨nd, rfl⟩ := hd.out; clear hd) | (with_reducible refine ⟨fun f hf => (by cases hf), ?_⟩))
        refine ⟨⟨i + 1, best, rfl, by go_num, by omega, ⟨?_, HBEST.out.2⟩, ⟨pw_below_drewN HB2.out _⟩⟩, by simp [intOf]; omega⟩
        rw [HST.out]
        unfold nameStep
        rw [HTK.out]
        rfl
      ·have hl4 : ((x.f0.size : Int) + 1 == (best.size : Int)) = false := beq_eq_false_iff_ne.2 (by omega)
       have HTK := Aside0.mk (show takeB rs best x = false by unfold takeB; rw [decide_eq_true HE.out, decide_eq_false HB0.out, HN1.out, decide_eq_false cL, decide_eq_false cS]; rfl)
       clear cS
       gi_wp2_with (first | (refine ⟨trivial, ?_⟩; gi_at_call 51; refine (callsIn_wide.2 (HSAY.out _)).mono ?_; rintro e w2 ⟨v, rfl, hR, hb2⟩; obtain ⟨A2, c2, rfl⟩ := Kd.R_slice hR; have HR2 := Aside0.mk (Kd.R_reads' hR); have HB2 := Aside0.mk (below_step (HBr.out.alloc HBr.out.size (.cells #[.string x.f0, .int .i32 x.f1, .int .i32 x.f2, .bool x.f3] 75)) hb2); clear hR hb2) | (refine ⟨trivial, ?_⟩; gi_at_call 50; refine (callsIn_wide.2 (slices_Equal_rune_rune.calls 10 A2 c2 (saysN x) A0 c0 rs _ _ HR2.out.2.2 HR2.out.2.1 (Kd.C_below (Kd.C_below HC.out HB1.out) HB2.out) HCC.out HEQ.out)).mono ?_; rintro e w3 ⟨rfl, hd⟩; obtain ⟨nd, rfl⟩ := hd.out; clear hd) | (with_reducible refine ⟨fun f hf => (by cases hf), ?_⟩))
       refine ⟨⟨i + 1, best, rfl, by go_num, by omega, ⟨?_, HBEST.out.2⟩, ⟨pw_below_drewN HB2.out _⟩⟩, by simp [intOf]; omega⟩
       rw [HST.out]
       unfold nameStep
       rw [HTK.out]
       rfl
   ·rw [decide_eq_false cE] at HEQ
    have HTK := Aside0.mk (show takeB rs best x = false by unfold takeB; rw [decide_eq_false cE]; rfl)
    clear cE
    gi_wp2_with (first | (refine ⟨trivial, ?_⟩; gi_at_call 51; refine (callsIn_wide.2 (HSAY.out _)).mono ?_; rintro e w2 ⟨v, rfl, hR, hb2⟩; obtain ⟨A2, c2, rfl⟩ := Kd.R_slice hR; have HR2 := Aside0.mk (Kd.R_reads' hR); have HB2 := Aside0.mk (below_step (HBr.out.alloc HBr.out.size (.cells #[.string x.f0, .int .i32 x.f1, .int .i32 x.f2, .bool x.f3] 75)) hb2); clear hR hb2) | (refine ⟨trivial, ?_⟩; gi_at_call 50; refine (callsIn_wide.2 (slices_Equal_rune_rune.calls 10 A2 c2 (saysN x) A0 c0 rs _ _ HR2.out.2.2 HR2.out.2.1 (Kd.C_below (Kd.C_below HC.out HB1.out) HB2.out) HCC.out HEQ.out)).mono ?_; rintro e w3 ⟨rfl, hd⟩; obtain ⟨nd, rfl⟩ := hd.out; clear hd) | (with_reducible refine ⟨fun f hf => (by cases hf), ?_⟩))
    all_goals first | (exfalso; rename_i q1_ q2_ q3_ q4_; exact absurd q3_ (by simp [undef]); done) | skip
    refine ⟨⟨i + 1, best, rfl, by go_num, by omega, ⟨?_, HBEST.out.2⟩, ⟨pw_below_drewN HB2.out _⟩⟩, by simp [intOf]; omega⟩
    rw [HST.out]
    unfold nameStep
    rw [HTK.out]
    rfl
  ·obtain rfl : i = 301 := by omega
   have hl1 : ((301 : Int) < (301 : Int)) = False := eq_false (by omega)
   have hb := HBEST.out.1
   have he : ents.take 301 = ents := by rw [← ents_length]; exact List.take_length
   rw [he] at hb
   replace hb : best = nameP rs := hb
   subst hb
   gi_wp2
   go_ret2
   exact ⟨rfl, HB1.out.trans (HBr.out.mono HB1.out.size)⟩
end Go.Proofs.YthmbbkbmlnaghaaDoor.P
end
section
/-
 What a number says: the contract of 'charref.says' (numbers from 0 on), over the array of 'charref.windows'.
-/
namespace Go.Proofs.YthmbbkbmlnaghaaDoor.P
open Go.RowKit Go.Proofs.YthmbbkbmlnaghaaDoorW.PrintWords Go.Proofs.YthmbbkbmlnaghaaDoorW.PrintLast Go.Proofs.YthmbbkbmlnaghaaDoorW.PrintMore
set_option linter.unusedVariables false
set_option linter.unusedSimpArgs false

def winL : List Int := [8364, 129, 8218, 402, 8222, 8230, 8224, 8225, 710, 8240, 352, 8249, 338, 141, 381, 143, 144, 8216, 8217, 8220, 8221, 8226, 8211, 8212, 732, 8482, 353, 8250, 339, 157, 382, 376]
def winC : Array Value := #[.int .i32 8364, .int .i32 129, .int .i32 8218, .int .i32 402, .int .i32 8222, .int .i32 8230, .int .i32 8224, .int .i32 8225, .int .i32 710, .int .i32 8240, .int .i32 352, .int .i32 8249, .int .i32 338, .int .i32 141, .int .i32 381, .int .i32 143, .int .i32 144, .int .i32 8216, .int .i32 8217, .int .i32 8220, .int .i32 8221, .int .i32 8226, .int .i32 8211, .int .i32 8212, .int .i32 732, .int .i32 8482, .int .i32 353, .int .i32 8250, .int .i32 339, .int .i32 157, .int .i32 382, .int .i32 376]
def winZ : Array Value := #[.int .i32 0, .int .i32 0, .int .i32 0, .int .i32 0, .int .i32 0, .int .i32 0, .int .i32 0, .int .i32 0, .int .i32 0, .int .i32 0, .int .i32 0, .int .i32 0, .int .i32 0, .int .i32 0, .int .i32 0, .int .i32 0, .int .i32 0, .int .i32 0, .int .i32 0, .int .i32 0, .int .i32 0, .int .i32 0, .int .i32 0, .int .i32 0, .int .i32 0, .int .i32 0, .int .i32 0, .int .i32 0, .int .i32 0, .int .i32 0, .int .i32 0, .int .i32 0]
def winP : Array (Nat × Value) := #[(0, .int .i32 8364), (1, .int .i32 129), (2, .int .i32 8218), (3, .int .i32 402), (4, .int .i32 8222), (5, .int .i32 8230), (6, .int .i32 8224), (7, .int .i32 8225), (8, .int .i32 710), (9, .int .i32 8240), (10, .int .i32 352), (11, .int .i32 8249), (12, .int .i32 338), (13, .int .i32 141), (14, .int .i32 381), (15, .int .i32 143), (16, .int .i32 144), (17, .int .i32 8216), (18, .int .i32 8217), (19, .int .i32 8220), (20, .int .i32 8221), (21, .int .i32 8226), (22, .int .i32 8211), (23, .int .i32 8212), (24, .int .i32 732), (25, .int .i32 8482), (26, .int .i32 353), (27, .int .i32 8250), (28, .int .i32 339), (29, .int .i32 157), (30, .int .i32 382), (31, .int .i32 376)]
def winV : Value := .agg winC
theorem win_size : winC.size = 32 := rfl
theorem winZ_size : winZ.size = 32 := rfl
theorem win_one : winC.all (·.oneCell') = true := by kernel_rfl
theorem win_info : (Tryd.prog.info? 50).map (fun i => (i.zero, i.size)) = some (some (.agg winZ), 32) := by kernel_rfl
theorem win_under : Tryd.prog.underlying 50 = some (.array 32 21) := by kernel_rfl
theorem run_build_win (w : World) : (Instr.build 50 winP).run Tryd.prog w = .ok winV w := by kernel_rfl
theorem win_alloc (w : World) : (Instr.alloc 50 true (.tuple #[])).run Tryd.prog w = .ok (.pointer (some ⟨w.heap.size, 0, none⟩)) (w.alloc (.cells winZ 50)) := by
 have hz := (zero_of_info win_info).1 w
 simp [Instr.alloc, hz, go_sem, newVar, newRow, newObj, Value.cells]
 rfl

noncomputable def winOps1 : Array Oper := match Tryd.f28.body with
 | some (.seq (.region _ ops _) _) => ops
 | _ => #[]
noncomputable def winOps2 : Array Oper := match Tryd.f28.body with
 | some (.seq _ (.seq (.region _ ops _) _)) => ops
 | _ => #[]
theorem win_body : Tryd.f28.body = some (.seq (.region 0 winOps1 false) (.seq (.region 1 winOps2 false) .ret)) := by kernel_rfl
def winChk1 (l : List Oper) : Bool := match l with
 | [⟨some d, .alloc t, _, _, _, none⟩] => d == 0 && t == 50
 | _ => false
def winChk2 (l : List Oper) : Option (Array (Nat × Operand)) := match l with
 | [⟨some d, .build t ps, _, _, _, none⟩, ⟨none, .store t' (.tmp x) (.tmp y), _, _, _, none⟩] => if (d == 1 && t == 50 && t' == 50 && x == 0 && y == 1) = true then some ps else none
 | _ => none
theorem winChk1_ok : winChk1 winOps1.toList = true := by kernel_rfl
noncomputable def winPs : Array (Nat × Operand) := match winOps2.toList with
 | ⟨_, .build _ ps, _, _, _, _⟩ :: _ => ps
 | _ => #[]
theorem winChk2_ok : winChk2 winOps2.toList = some winPs := by kernel_rfl
theorem winPs_val (a : Act) : winPs.map (fun (i, x) => (i, a.eval x)) = winP := by kernel_rfl
theorem winChk1_some {l : List Oper} (h : winChk1 l = true) : ∃ ty pos after, l = [⟨some 0, .alloc 50, ty, pos, after, none⟩] := by
 unfold winChk1 at h
 split at h
 ·rename_i d t ty pos after
  simp only [Bool.and_eq_true, beq_iff_eq] at h
  obtain ⟨rfl, rfl⟩ := h
  exact ⟨_, _, _, rfl⟩
 ·cases h
theorem winChk2_some {l : List Oper} {ps : Array (Nat × Operand)} (h : winChk2 l = some ps) :
  ∃ ty pos after ty' pos' after', l = [⟨some 1, .build 50 ps, ty, pos, after, none⟩, ⟨none, .store 50 (.tmp 0) (.tmp 1), ty', pos', after', none⟩] := by
 unfold winChk2 at h
 split at h
 ·rename_i d t ps' ty pos after t' x y ty' pos' after'
  split at h
  ·rename_i hc
   simp only [Bool.and_eq_true, beq_iff_eq] at hc
   obtain ⟨⟨⟨⟨rfl, rfl⟩, rfl⟩, rfl⟩, rfl⟩ := hc
   injection h with h
   subst h
   exact ⟨_, _, _, _, _, _, rfl⟩
  ·cases h
 ·cases h

theorem win_calls (w : World) : Calls Tryd.prog 28 #[] w fun e w' => e = .returned winV ∧ Below w.heap.size w w' := by
 have hsz := win_size
 have hszZ := winZ_size
 have hone := win_one
 have hbld := run_build_win
 have hal := win_alloc w
 have hpv := winPs_val
 have hinf := (zero_of_info win_info).2
 have hun := win_under
 unfold winV at hbld ⊢
 generalize winC = C at hsz hone hbld ⊢
 generalize winZ = Z at hszZ hal
 generalize winP = PP at hbld hpv
 refine calls_of_wp Tryd.func28 win_body ?_
 refine (fun (h : ∀ a0 : Act, a0.tmps.size = 2 → a0.defers = [] → Code.wp _ _ _ a0 w) => h _ (by simp [Tryd.ntmps28]) rfl) ?_
 intro a0 hs0 hd0
 apply wp_seq_k; intro K1 hK1
 refine wp_region_list ?_
 obtain ⟨ty, pos, after, h1⟩ := winChk1_some winChk1_ok
 rw [h1]
 refine wpList_plain rfl fun K hK => ?_
 unfold Oper.wp
 simp only [execOp, Sem.run_bind, hal, Result.andThen_ok, Sem.run_pure]
 refine hK _ _ (wpList_nil (hK1 _ _ ?_))
 clear hK hK1 K K1
 apply wp_seq_k; intro K1 hK1
 refine wp_region_list ?_
 obtain ⟨ty2, pos2, after2, ty3, pos3, after3, h2⟩ := winChk2_some winChk2_ok
 rw [h2]
 refine wpList_plain rfl fun K hK => ?_
 unfold Oper.wp
 simp only [execOp, Sem.run_bind, hpv, hbld, Result.andThen_ok, Sem.run_pure]
 refine hK _ _ ?_
 clear hK K
 refine wpList_plain rfl fun K hK => ?_
 have e0 : Act.eval (Act.put (Act.put a0 (some 0) (Value.pointer (some ⟨w.heap.size, 0, none⟩))) (some 1) (Value.agg C)) (.tmp 0) = Value.pointer (some ⟨w.heap.size, 0, none⟩) := by
  simp [Act.eval, Act.put, hs0, Array.getD_eq_getD_getElem?, Array.getElem?_setIfInBounds]
 have e1 : Act.eval (Act.put (Act.put a0 (some 0) (Value.pointer (some ⟨w.heap.size, 0, none⟩))) (some 1) (Value.agg C)) (.tmp 1) = Value.agg C := by
  simp [Act.eval, Act.put, hs0, Array.getD_eq_getD_getElem?, Array.getElem?_setIfInBounds]
 have hst := run_storeAt_new (P := Tryd.prog) w 50 Z C (by rw [hinf, hsz]) (by rw [hszZ, hsz]) hone
 unfold Oper.wp
 simp only [execOp, e0, e1, Sem.run_bind, hst, Result.andThen_ok, Sem.run_pure]
 refine hK _ _ (wpList_nil (hK1 _ _ ?_))
 apply wp_ret
 refine bodyPost_ret (v := .agg C) ?_ ?_ ⟨rfl, (Below.refl _ _).alloc (Nat.le_refl _) _⟩
 ·refine results_cell_row Tryd.results28 _ _ w.heap.size 50 C (0, 0) _ ?_ (heap_alloc_new w _) hun rfl (by rw [hinf, hsz])
  simp [Act.put, hs0, Array.getD_eq_getD_getElem?, Array.getElem?_setIfInBounds]
 ·simp [Act.put, hd0]

theorem win_index (k : Nat) (hk : k < 32) (w : World) : (Instr.index 50 winV (.int .i64 (k : Int))).run Tryd.prog w = .ok (.int .i32 (winL.getD k 0)) w := by
 rcases (show k = 0 ∨ k = 1 ∨ k = 2 ∨ k = 3 ∨ k = 4 ∨ k = 5 ∨ k = 6 ∨ k = 7 ∨ k = 8 ∨ k = 9 ∨ k = 10 ∨ k = 11 ∨ k = 12 ∨ k = 13 ∨ k = 14 ∨ k = 15 ∨ k = 16 ∨ k = 17 ∨ k = 18 ∨ k = 19 ∨ k = 20 ∨ k = 21 ∨ k = 22 ∨ k = 23 ∨ k = 24 ∨ k = 25 ∨ k = 26 ∨ k = 27 ∨ k = 28 ∨ k = 29 ∨ k = 30 ∨ k = 31 from by omega) with rfl | rfl | rfl | rfl | rfl | rfl | rfl | rfl | rfl | rfl | rfl | rfl | rfl | rfl | rfl | rfl | rfl | rfl | rfl | rfl | rfl | rfl | rfl | rfl | rfl | rfl | rfl | rfl | rfl | rfl | rfl | rfl
 all_goals kernel_rfl

def saysF (n : Int) : Int × Bool :=
 if n = 0 ∨ n > 1114111 ∨ (n ≥ 55296 ∧ n ≤ 57343) then (65533, false)
 else if n ≥ 128 ∧ n ≤ 159 then (winL.getD (n - 128).toNat 0, winL.getD (n - 128).toNat 0 == n)
 else (n, true)
def charref_says.f (n : Int) : Option (Int × Bool) := if 0 ≤ n ∧ n ≤ 9223372036854775807 then some (saysF n) else none


theorem win_at (n : Int) (h0 : 128 ≤ n) (h1 : n ≤ 159) (w : World) : (Instr.index 50 winV (.int .i64 (n - 128))).run Tryd.prog w = .ok (.int .i32 (winL.getD (n - 128).toNat 0)) w := by
 obtain ⟨k, hk⟩ : ∃ k : Nat, n - 128 = (k : Int) := ⟨(n - 128).toNat, by omega⟩
 rw [hk, Int.toNat_natCast]
 exact win_index k (by omega) w

set_option maxHeartbeats 1000000 in
theorem charref_says.calls (a0 : Int) (r1 : Int) (r2 : Bool) (w : World) (h : charref_says.f a0 = some (r1, r2)) :
  Calls Tryd.prog 18 #[.int .i64 a0] w fun e w' => e = .returned (.tuple #[.int .i32 r1, .bool r2]) ∧ Below w.heap.size w w' := by
 unfold charref_says.f at h
 split at h
 ·rename_i hd
  obtain ⟨h0, h63⟩ := hd
  have h := Option.some.inj h
  unfold saysF at h
  split at h
  ·rename_i hc
   injection h with e1 e2
   subst e1 e2
   have hB : Below w.heap.size w w := Below.refl _ _
   rcases hc with hc | hc | ⟨hc, hc'⟩
   ·subst hc
    go_enter Tryd.func18, Tryd.ntmps18
    go_wp2
    go_ret2
    exact ⟨rfl, hB⟩
   ·have d0 : (a0 == 0) = false := by simp; omega
    have d1 : decide (1114111 < a0) = true := by simpa using hc
    go_enter Tryd.func18, Tryd.ntmps18
    go_wp2
    go_ret2
    exact ⟨rfl, hB⟩
   ·have d0 : (a0 == 0) = false := by simp; omega
    have d1 : decide (1114111 < a0) = false := by simp; omega
    go_enter Tryd.func18, Tryd.ntmps18
    go_wp2
    go_ret2
    exact ⟨rfl, hB⟩
  ·rename_i hc
   have d0 : (a0 == 0) = false := by simp; omega
   have d1 : decide (1114111 < a0) = false := by simp; omega
   have hwr : wrap32 a0 = a0 := by unfold wrap32; omega
   split at h
   ·rename_i hw
    obtain ⟨hw1, hw2⟩ := hw
    injection h with e1 e2
    have hat := win_at a0 hw1 hw2
    generalize winL.getD (a0 - 128).toNat 0 = r at e1 e2 hat
    subst e1
    have d2 : decide (55296 ≤ a0) = false := by simp; omega
    go_enter Tryd.func18, Tryd.ntmps18
    go_wp2_with (go_at_call 28; refine (win_calls _).mono ?_; rintro e w' ⟨rfl, hb⟩)
    go_ret2
    exact ⟨by rw [← e2]; simp [hwr], by assumption⟩
   ·rename_i hw
    injection h with e1 e2
    subst e1 e2
    have hB : Below w.heap.size w w := Below.refl _ _
    by_cases hlo : 55296 ≤ a0
    ·have d3 : decide (a0 ≤ 57343) = false := by simp; omega
     go_enter Tryd.func18, Tryd.ntmps18
     go_wp2
     go_ret2
     exact ⟨by simp [hwr], hB⟩
    ·have d2 : decide (55296 ≤ a0) = false := by simp; omega
     by_cases h8 : 128 ≤ a0
     ·have d3 : decide (a0 ≤ 159) = false := by simp; omega
      go_enter Tryd.func18, Tryd.ntmps18
      go_wp2
      go_ret2
      exact ⟨by simp [hwr], hB⟩
     ·go_enter Tryd.func18, Tryd.ntmps18
      go_wp2
      go_ret2
      exact ⟨by simp [hwr], hB⟩
 ·cases h
end Go.Proofs.YthmbbkbmlnaghaaDoor.P
end
section
/-
 Runes to a text: the conversion 'string(runes)' of a row that is read and of a row of the call's own.
-/
namespace Go.Proofs.YthmbbkbmlnaghaaDoor.P
open Go.RowKit Go.Proofs.YthmbbkbmlnaghaaDoorW.PrintWords Go.Proofs.YthmbbkbmlnaghaaDoorW.PrintLast Go.Proofs.YthmbbkbmlnaghaaDoorW.PrintMore
set_option linter.unusedVariables false

def Hc_text (xs : List Int) : ByteArray := runesBytes xs

theorem Hc_of_reads {P : Program} {w : World} {src dst e : TypeId} {A : Option Addr} {n c : Nat} {xs : List Int} (hs : P.underlying src = some (.slice e)) (he : P.underlying e = some (.int .i32)) (hd : P.underlying dst = some .string)
  (h : ReadsInt w .i32 A n xs) : (convert src dst (.slice A n c)).run P w = .ok (.string (Hc_text xs)) w := by
 have hn : xs.length = n := h.1
 rcases A with _ | ad
 ·have h0 : n = 0 := by
   rcases Nat.eq_zero_or_pos n with h0 | h0
   ·exact h0
   ·obtain ⟨ad, h', _⟩ := h.2.2 h0
    cases h'
  subst h0
  obtain rfl : xs = [] := List.eq_nil_of_length_eq_zero hn
  exact run_convert_runes_nil w src dst e 0 c hs he hd
 ·have := run_convert_runes (P := P) w src dst e ad n c xs (by omega) hs he hd (fun j hj => by
   obtain ⟨ad', he', hc⟩ := h.2.2 (by omega)
   injection he' with he'
   subst he'
   exact hc j (by omega))
  rw [List.take_of_length_le (by omega)] at this
  exact this
theorem Hc_own_runes {P : Program} {w : World} {base n : Nat} {e' src dst e : TypeId} {v : Value} {xs : List Int} (hs : P.underlying src = some (.slice e)) (he : P.underlying e = some (.int .i32)) (hd : P.underlying dst = some .string)
  (h : w.ownsRow base e' 1 v n (nums .i32 xs)) : (convert src dst v).run P w = .ok (.string (Hc_text xs)) w := by
 obtain ⟨A, c, rfl, hr⟩ := own_reads h
 exact Hc_of_reads hs he hd hr
end Go.Proofs.YthmbbkbmlnaghaaDoor.P
end
