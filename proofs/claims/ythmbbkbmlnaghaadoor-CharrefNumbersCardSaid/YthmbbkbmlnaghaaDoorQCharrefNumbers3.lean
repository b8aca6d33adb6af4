/-
 CharrefNumbers, the given statement (the tied card of the first form): what every number says, and every rune as a number, are the document's; for every text of digits, both bases and every rune. Conditions: the three listed tables of Go's library read as their initialisers lay them (the card ties that to the program's text).
-/
import Derived.Test.YthmbbkbmlnaghaaDoorQCharrefNumbers0
import Derived.Test.YthmbbkbmlnaghaaDoorQCharrefNumbers1
import Derived.Test.YthmbbkbmlnaghaaDoorQCharrefNumbers2
import Derived.Test.YthmbbkbmlnaghaaDoorCards
import Derived.Test.YthmbbkbmlnaghaaDoorTie
import Derived.WalkKit
import Derived.ProofKit
import Derived.OpenShut
import Derived.ShutString
import Derived.ChangeOld
import Derived.Below
import Derived.Deep.DeepHandedRow
import Derived.Lib.LaidTab
section
namespace Go.Proofs.YthmbbkbmlnaghaaDoor.P
open Go.RowKit Go.Proofs.YthmbbkbmlnaghaaDoorW.PrintWords Go.Proofs.YthmbbkbmlnaghaaDoorW.PrintLast Go.Proofs.YthmbbkbmlnaghaaDoorW.PrintMore
attribute [local go_sem] max2_int min2_int max_two min_two max_three min_three max_four min_four   -- for this text's walks alone
set_option linter.unusedVariables false
set_option linter.unusedSimpArgs false

/-! ### sievelaw06_awake: function 11 -/
def sievelaw06_awake.f (k : Nat)  : Option (Bool) := (charref_Decode.f k (⟨#[97, 38, 99, 111, 112, 121, 61, 49, 38, 35, 120, 52, 49, 59]⟩ : ByteArray) true).bind fun t288 => (if t288.toList = ([97, 38, 99, 111, 112, 121, 61, 49, 65] : List UInt8) then ((charref_Decode.f k (⟨#[38, 97, 109, 112, 59, 38, 108, 116, 59]⟩ : ByteArray) false).bind fun t289 => (some (t289.toList == ([38, 60] : List UInt8)))) else (some false))
set_option maxHeartbeats 8000000 in
set_option maxRecDepth 100000 in
theorem sievelaw06_awake.calls (k : Nat)  (r : Bool) (w : World) (h : sievelaw06_awake.f k  = some r) :
  Calls Tryd.prog 11 #[] w fun e w' => e = .returned (.bool r) ∧ Below w.heap.size w w' := by
 have HB := Aside0.mk (Below.refl w.heap.size w)
 have H : ((charref_Decode.f k (⟨#[97, 38, 99, 111, 112, 121, 61, 49, 38, 35, 120, 52, 49, 59]⟩ : ByteArray) true).bind fun t288 => (if t288.toList = ([97, 38, 99, 111, 112, 121, 61, 49, 65] : List UInt8) then ((charref_Decode.f k (⟨#[38, 97, 109, 112, 59, 38, 108, 116, 59]⟩ : ByteArray) false).bind fun t289 => (some (t289.toList == ([38, 60] : List UInt8)))) else (some false))) = some r := h
 clear h
 replace H := Option.bind_eq_some_iff.mp H
 obtain ⟨t288, A10, H⟩ := H
 replace H : (if t288.toList = ([97, 38, 99, 111, 112, 121, 61, 49, 65] : List UInt8) then ((charref_Decode.f k (⟨#[38, 97, 109, 112, 59, 38, 108, 116, 59]⟩ : ByteArray) false).bind fun t289 => (some (t289.toList == ([38, 60] : List UInt8)))) else (some false)) = some r := H
 have A1 := Aside0.mk A10
 clear A10
 by_cases c2 : t288.toList = ([97, 38, 99, 111, 112, 121, 61, 49, 65] : List UInt8)
 ·rw [if_pos c2] at H
  have c2b0 : (t288.toList == ([97, 38, 99, 111, 112, 121, 61, 49, 65] : List UInt8)) = true := beq_iff_eq.mpr c2
  have c2b1 : (t288.toList != ([97, 38, 99, 111, 112, 121, 61, 49, 65] : List UInt8)) = false := bne_eq_false_iff_eq.mpr c2
  clear c2
  replace H := Option.bind_eq_some_iff.mp H
  obtain ⟨t289, A30, H⟩ := H
  replace H : (some (t289.toList == ([38, 60] : List UInt8))) = some r := H
  have A3 := Aside0.mk A30
  clear A30
  obtain rfl := Option.some.inj H
  go_enter Tryd.func11, Tryd.ntmps11
  go_wp2_with (first | ((with_reducible refine gate_callee (f := 13) rfl ?_); refine goesL_ (some 1) rfl rfl Tryd.func13 (by kernel_rfl) rfl #[.string (⟨#[97, 38, 99, 111, 112, 121, 61, 49, 38, 35, 120, 52, 49, 59]⟩ : ByteArray), .bool true] rfl (by (try simp only [List.map_toArray, List.map_cons, List.map_nil]); first | done | rfl | (simp only [List.length_drop, List.length_take]; rfl) | (simp [*] <;> rfl)) ?_; (with_reducible refine (charref_Decode.calls k (⟨#[97, 38, 99, 111, 112, 121, 61, 49, 38, 35, 120, 52, 49, 59]⟩ : ByteArray) true t288 _ A1.out).mono ?_); rintro e w4 ⟨rfl, hb⟩; refine ⟨_, rfl, ?_⟩; have n0_ := Aside0.mk (below_step (by repeat (first | (with_reducible first | exact HB.out | apply below_alloc | apply pw_below_drewN | apply below_drew1) | exact HB.out)) hb); clear HB; have HB := n0_; clear n0_; (try clear hb); (try clear hb2); (try clear hk); (try clear hi)) | (go_at_call 13; (with_reducible refine (charref_Decode.calls k (⟨#[38, 97, 109, 112, 59, 38, 108, 116, 59]⟩ : ByteArray) false t289 _ A3.out).mono ?_); rintro e w5 ⟨rfl, hb⟩; have n0_ := Aside0.mk (below_step (by repeat (first | (with_reducible first | exact HB.out | apply below_alloc | apply pw_below_drewN | apply below_drew1) | exact HB.out)) hb); clear HB; have HB := n0_; clear n0_; (try clear hb); (try clear hb2); (try clear hk); (try clear hi)))
  go_ret
  exact ⟨by first | rfl | (simp [errW_none, errW_some] <;> rfl) | (simp [*, errW_none, errW_some] <;> rfl), by repeat (first | (with_reducible first | exact HB.out | apply below_alloc | apply pw_below_drewN | apply below_drew1) | exact HB.out)⟩
 ·rw [if_neg c2] at H
  have c2b0 : (t288.toList == ([97, 38, 99, 111, 112, 121, 61, 49, 65] : List UInt8)) = false := beq_eq_false_iff_ne.mpr c2
  have c2b1 : (t288.toList != ([97, 38, 99, 111, 112, 121, 61, 49, 65] : List UInt8)) = true := bne_iff_ne.mpr c2
  obtain rfl := Option.some.inj H
  go_enter Tryd.func11, Tryd.ntmps11
  go_wp2_with (first | ((with_reducible refine gate_callee (f := 13) rfl ?_); refine goesL_ (some 1) rfl rfl Tryd.func13 (by kernel_rfl) rfl #[.string (⟨#[97, 38, 99, 111, 112, 121, 61, 49, 38, 35, 120, 52, 49, 59]⟩ : ByteArray), .bool true] rfl (by (try simp only [List.map_toArray, List.map_cons, List.map_nil]); first | done | rfl | (simp only [List.length_drop, List.length_take]; rfl) | (simp [*] <;> rfl)) ?_; (with_reducible refine (charref_Decode.calls k (⟨#[97, 38, 99, 111, 112, 121, 61, 49, 38, 35, 120, 52, 49, 59]⟩ : ByteArray) true t288 _ A1.out).mono ?_); rintro e w6 ⟨rfl, hb⟩; refine ⟨_, rfl, ?_⟩; have n0_ := Aside0.mk (below_step (by repeat (first | (with_reducible first | exact HB.out | apply below_alloc | apply pw_below_drewN | apply below_drew1) | exact HB.out)) hb); clear HB; have HB := n0_; clear n0_; (try clear hb); (try clear hb2); (try clear hk); (try clear hi)))
  go_ret
  exact ⟨by first | rfl | (simp [errW_none, errW_some] <;> rfl) | (simp [*, errW_none, errW_some] <;> rfl), by repeat (first | (with_reducible first | exact HB.out | apply below_alloc | apply pw_below_drewN | apply below_drew1) | exact HB.out)⟩

end Go.Proofs.YthmbbkbmlnaghaaDoor.P
end
section
/-
 The example that every law asks first.
-/
namespace Go.Proofs.YthmbbkbmlnaghaaDoor.P
open Go.RowKit Go.Shelf Go.Proofs.YthmbbkbmlnaghaaDoorW.PrintWords Go.Proofs.YthmbbkbmlnaghaaDoorW.PrintLast Go.Proofs.YthmbbkbmlnaghaaDoorW.PrintMore
set_option linter.unusedVariables false
set_option linter.unusedSimpArgs false

theorem cuts_awake : sievelaw06_awake.f 400 = some true := by decide +kernel
end Go.Proofs.YthmbbkbmlnaghaaDoor.P
end
section
/-
 sievelaw06.CharrefNumbers: the walk of the statement's own function.
-/
namespace Go.Proofs.YthmbbkbmlnaghaaDoor.P
open Go.RowKit Go.Proofs.YthmbbkbmlnaghaaDoorW.PrintWords Go.Proofs.YthmbbkbmlnaghaaDoorW.PrintLast Go.Proofs.YthmbbkbmlnaghaaDoorW.PrintMore
set_option linter.unusedVariables false
set_option linter.unusedSimpArgs false

set_option maxHeartbeats 4000000 in
theorem CharrefNumbers_walk (digits : ByteArray) (hex : Bool) (r : Int) (hs : digits.size ≤ 9223372036854775807) (hr0 : -2147483648 ≤ r) (hr1 : r ≤ 2147483647) (w : World) (ht : PowTab w) :
  Calls Tryd.prog 3 #[.string digits, .bool hex, .int .i32 r] w fun e w' => e = .returned (.bool true) ∧ Below w.heap.size w w' := by
 have h1 := fun W => charref_Number.calls (digits.size + 4) digits hex (numL hex digits.data.toList).1 (numL hex digits.data.toList).2 W (number_f _ digits hs (by omega) hex)
 have h2 := fun W => sieveref06_Number.calls (2 * digits.size + 4) digits hex (numL hex digits.data.toList).1 (numL hex digits.data.toList).2 W (rnumber_f _ digits hs (by omega) hex)
 have h4 := fun W => sieveref06_Encode.calls 2000000 r (encS (encR r)) W (rencode_f 2000000 r (Nat.le_refl _))
 generalize numL hex digits.data.toList = q at h1 h2
 obtain ⟨q1, q2⟩ := q
 have H1 := Aside0.mk h1
 have H2 := Aside0.mk h2
 have H4 := Aside0.mk h4
 have HT := Aside0.mk ht
 have H3 := Aside0.mk (fun W hW => encode_calls r W hr0 hr1 hW)
 clear h1 h2 h4 ht
 generalize encS (encR r) = E at H3 H4
 have hee : (E.toList == E.toList) = true := beq_self_eq_true _
 go_enter Tryd.func3, Tryd.ntmps3
 go_wp2_with (first | (go_at_call 7; refine (H1.out _).mono ?_; rintro e w1 ⟨rfl, hb1⟩; have HB1 := Aside0.mk hb1; clear hb1) | (go_at_call 8; refine (H2.out _).mono ?_; rintro e w2 ⟨rfl, hb2⟩; have HB2 := Aside0.mk (below_step HB1.out hb2); clear hb2) | (go_at_call 9; refine (H3.out _ (powTab_below HT.out HB2.out)).mono ?_; rintro e w3 ⟨rfl, hb3⟩; have HB3 := Aside0.mk (below_step HB2.out hb3); clear hb3) | (go_at_call 10; refine (H4.out _).mono ?_; rintro e w4 ⟨rfl, hd4⟩; obtain ⟨nd, rfl⟩ := hd4.out) | (go_at_call 11; refine (sievelaw06_awake.calls 400 true _ cuts_awake).mono ?_; rintro e w5 ⟨rfl, hb5⟩))
 go_ret
 exact ⟨rfl, below_step (pw_below_drewN HB3.out nd) hb5⟩
end Go.Proofs.YthmbbkbmlnaghaaDoor.P
end
section
namespace Go.Proofs.YthmbbkbmlnaghaaDoor.charrefNumbers
open Go.ChangeShapes Go.WideShapes Go.ChangeAt Go.RowKit Go.Proofs.YthmbbkbmlnaghaaDoorW.PrintWords
open Go.ChangeMaps (open_string shut_string)
set_option linter.unusedVariables false
set_option linter.unusedSimpArgs false
theorem own : ownKnob Tryd.prog.godebug = none := by kernel_rfl
theorem vars_tail {P : Program} {w : World} {x : String × DataW Unit} {r : List (String × DataW Unit)} {ps : List MemPlace} (h : DataW.LaidVars P w (x :: r) ps) : ∃ q, DataW.LaidVars P w r q := by
 obtain ⟨g, t, cs, fuel, p, q, _, _, _, _, hq, _⟩ := h
 exact ⟨q, hq⟩
theorem tab_of_vars {P : Program} {W : World} {name : String} {k : IntKind} {zs : List Int} {rest : List (String × DataW Unit)} {g : Nat} {t e : TypeId} {n : Nat} {ps : List MemPlace}
  (hg : P.globalNamed name = some g) (hty : (P.globals[g]?).map (·.type) = some t) (ht : P.underlying t = some (.array n e)) (he : P.underlying e = some (.int k)) (hce : P.cellsOf e = 1) (hct : P.cellsOf t = n)
  (h : DataW.LaidVars P W ((name, Lib.tabData k zs) :: rest) ps) : Lib.TabIs P W name k zs := by
 obtain ⟨g', t', cs, fuel, p, q, hg', ht', hvar, hd, _, _⟩ := h
 obtain rfl := Option.some.inj (hg.symm.trans hg')
 obtain rfl := Option.some.inj (hty.symm.trans ht')
 unfold Lib.TabIs
 rw [hvar, ← Lib.cells_of_tab ht he hce hct hd]
theorem tab2 {W : World} (h : laidMetH Tryd.prog Rows.charrefNumbersRow.laid W) : Lib.TabIs Tryd.prog W "internal/strconv.uint64pow10" .u64 [1, 10, 100, 1000, 10000, 100000, 1000000, 10000000, 100000000, 1000000000, 10000000000, 100000000000, 1000000000000, 10000000000000, 100000000000000, 1000000000000000, 10000000000000000, 100000000000000000, 1000000000000000000, 10000000000000000000] := by
 obtain ⟨ps, hv, _⟩ := h
 obtain ⟨_, hv⟩ := vars_tail hv
 obtain ⟨_, hv⟩ := vars_tail hv
 exact tab_of_vars (g := 1) (t := 122) (e := 101) (n := 20) (by kernel_rfl) (by kernel_rfl) Tryd.underlying122 Tryd.underlying101 (by kernel_rfl) (by kernel_rfl) hv
set_option maxRecDepth 100000 in
theorem contract (H : Type) (enc : TypeId × Value → H) (W : World) (base : Nat) (args : Array Value) (ds gs : List (DataW H)) (before : List MemPlace)
  (hval : ∀ (j : Nat) t v, Tryd.f3.params[j]? = some t → args[j]? = some v → Value.okWide Tryd.prog W .any base t v)
  (hW : DataW.Whole enc Tryd.prog Tryd.f3.params.toList Rows.charrefNumbersSpec.vars false W args.toList ds gs before) (hL : laidMetH Tryd.prog Rows.charrefNumbersRow.laid W) :
  Calls Tryd.prog 3 args W fun e W' => ∃ v, e = .returned v ∧ Rows.charrefNumbersSpec.post enc Tryd.prog Tryd.f3 false true false false W args v W' := by
 have hW' := hW
 obtain ⟨p, q, hA0, hV, rfl, hfz, hnd⟩ := hW
 have hA : DataW.TrodAll enc Tryd.prog W 0 (fun _ => true) true Tryd.f3.params.toList args.toList ds p := hA0
 rw [Tryd.params3] at hA hval
 obtain ⟨v0, vs0, d0, ds0, p0, q0, hargs, rfl, rfl, h0, r0⟩ := trodAll_cons hA
 obtain ⟨v1, vs1, d1, ds1, p1, q1, rfl, rfl, rfl, h1, r1⟩ := trodAll_cons r0
 obtain ⟨v2, vs2, d2, ds2, p2, q2, rfl, rfl, rfl, h2, r2⟩ := trodAll_cons r1
 obtain ⟨rfl, rfl, rfl⟩ := trodAll_nil r2
 obtain rfl : args = #[v0, v1, v2] := by cases args; simp_all
 obtain ⟨rfl, rfl⟩ := trodVars_none hV
 obtain ⟨a0, rfl, rfl, rfl, y0⟩ := open_string Tryd.underlying9 (hval 0 9 v0 rfl rfl) h0
 obtain ⟨a1, rfl, rfl, rfl⟩ := open_bool Tryd.underlying4 (hval 1 4 v1 rfl rfl) h1
 obtain ⟨a2, rfl, rfl, rfl, y2⟩ := open_int Tryd.underlying21 (hval 2 21 v2 rfl rfl) h2
 clear hA0
 refine (P.CharrefNumbers_walk a0 a1 a2 (by have h := y0; unfold maxLen at h; exact h) (by have h := y2; simp [Lit.wf, IntKind.min, IntKind.max, IntKind.signed, IntKind.bits] at h; omega) (by have h := y2; simp [Lit.wf, IntKind.min, IntKind.max, IntKind.signed, IntKind.bits] at h; omega) W (tab2 hL)).mono fun e W' ⟨he, bel⟩ => ?_
 subst he
 exact ⟨_, rfl, _, _, _, [], _, [], hW', trodAll_mk1 (shut_bool Tryd.underlying4 _), (trodAll_cons_mk (shut_string Tryd.underlying9 y0) (trodAll_cons_mk (shut_bool Tryd.underlying4 _) (trodAll_cons_mk (shut_int Tryd.underlying21 y2) trodAll_mk0))), rfl, bel.frame _, fun h => by cases h⟩
/-- a world for the witness: the settled one, the listed tables holding what their initialisers lay -/
def row0 : Array Value := #[.int .u8 0, .int .u8 1, .int .u8 28, .int .u8 2, .int .u8 29, .int .u8 14, .int .u8 24, .int .u8 3, .int .u8 30, .int .u8 22, .int .u8 20, .int .u8 15, .int .u8 25, .int .u8 17, .int .u8 4, .int .u8 8, .int .u8 31, .int .u8 27, .int .u8 13, .int .u8 23, .int .u8 21, .int .u8 19, .int .u8 16, .int .u8 7, .int .u8 26, .int .u8 12, .int .u8 18, .int .u8 6, .int .u8 11, .int .u8 5, .int .u8 10, .int .u8 9]
def row1 : Array Value := #[.int .u8 0, .int .u8 1, .int .u8 56, .int .u8 2, .int .u8 57, .int .u8 49, .int .u8 28, .int .u8 3, .int .u8 61, .int .u8 58, .int .u8 42, .int .u8 50, .int .u8 38, .int .u8 29, .int .u8 17, .int .u8 4, .int .u8 62, .int .u8 47, .int .u8 59, .int .u8 36, .int .u8 45, .int .u8 43, .int .u8 51, .int .u8 22, .int .u8 53, .int .u8 39, .int .u8 33, .int .u8 30, .int .u8 24, .int .u8 18, .int .u8 12, .int .u8 5, .int .u8 63, .int .u8 55, .int .u8 48, .int .u8 27, .int .u8 60, .int .u8 41, .int .u8 37, .int .u8 16, .int .u8 46, .int .u8 35, .int .u8 44, .int .u8 21, .int .u8 52, .int .u8 32, .int .u8 23, .int .u8 11, .int .u8 54, .int .u8 26, .int .u8 40, .int .u8 15, .int .u8 34, .int .u8 20, .int .u8 31, .int .u8 10, .int .u8 25, .int .u8 14, .int .u8 19, .int .u8 9, .int .u8 13, .int .u8 8, .int .u8 7, .int .u8 6]
def row2 : Array Value := #[.int .u64 1, .int .u64 10, .int .u64 100, .int .u64 1000, .int .u64 10000, .int .u64 100000, .int .u64 1000000, .int .u64 10000000, .int .u64 100000000, .int .u64 1000000000, .int .u64 10000000000, .int .u64 100000000000, .int .u64 1000000000000, .int .u64 10000000000000, .int .u64 100000000000000, .int .u64 1000000000000000, .int .u64 10000000000000000, .int .u64 100000000000000000, .int .u64 1000000000000000000, .int .u64 10000000000000000000]
noncomputable def laidWorld (os : Os) : World := { World.holding Tryd.prog os ⟨#[], #[], []⟩ with heap := ((((World.holding Tryd.prog os ⟨#[], #[], []⟩).heap.modify 5 fun | .cells _ t frozen => .cells row0 t frozen | o => o).modify 6 fun | .cells _ t frozen => .cells row1 t frozen | o => o).modify 1 fun | .cells _ t frozen => .cells row2 t frozen | o => o) }
theorem laid_met (os : Os) : laidMet Tryd.prog Rows.charrefNumbersRow.laid ((laidWorld os).forCall (fun _ _ => 0) ⟨#[], #[.string ByteArray.empty, .bool false, .int .i32 0], []⟩).memory :=
 laidMet_of_run' 8 (by kernel_rfl) (by kernel_rfl)
theorem reads (os : Os) {H : Type} (enc : TypeId × Value → H) : ∃ places, DataW.whole enc Tryd.prog ((laidWorld os).forCall (fun _ _ => 0) ⟨#[], #[.string ByteArray.empty, .bool false, .int .i32 0], []⟩).memory Tryd.f3.params.toList Rows.charrefNumbersSpec.vars false (#[.string ByteArray.empty, .bool false, .int .i32 0] : Array Value).toList 8 = some ([.lit (.string []), .lit (.bool false), .lit (.int .i32 0)], [], places) :=
 ⟨[], by kernel_rfl⟩
set_option maxRecDepth 100000 in
theorem lifted (os : Os) (started : os.Started) (H : Type) (enc : TypeId × Value → H) (F : Stop.Interp) :
  ReturnsInHanded {} Tryd.checked os 3 .any ((OpenSpec.ofChange Rows.charrefNumbersSpec).preRow enc Tryd.prog Tryd.f3 Rows.charrefNumbersRow.domain false Rows.charrefNumbersRow.laid) (((OpenSpec.ofChange Rows.charrefNumbersSpec).at F).post enc Tryd.prog Tryd.f3 false true false false) := by
 obtain ⟨places, hx⟩ := reads os enc
 refine returnsInHanded_of_row (C := Tryd.checked) (s := OpenSpec.ofChange Rows.charrefNumbersSpec) own started (by kernel_rfl) Tryd.func3
  (witness_row_at (enc := enc) (C := Tryd.checked) false (laidWorld os) #[.string ByteArray.empty, .bool false, .int .i32 0] rfl (by kernel_rfl) (by kernel_rfl) (by kernel_rfl)
   (OpenSpec.preRow_of_cond 8 hx (by kernel_rfl) (fun k hk => by cases hk) (by kernel_rfl) (laid_met os))) ?_
 intro W base args ds gs before hval hW _ _ _ hL _ _
 exact contract H enc W base args ds gs before hval hW hL
theorem proved : Rows.CharrefNumbersSaid :=
 OpenClaim.holds_of_cond 3 Tryd.f3 rfl rfl rfl rfl rfl rfl rfl ⟨rfl, rfl, rfl, rfl, rfl⟩ rfl rfl rfl rfl rfl (by kernel_rfl) Tryd.func3 (by kernel_rfl)
  (of_decide_eq_true (by kernel_rfl)) (by unfold Func.isWrapper; first | (rw [if_pos (by decide +kernel)]; kernel_rfl) | (rw [if_neg (by decide +kernel)]; exact ⟨rfl, rfl⟩))
  (fun os started H enc _ F => by rw [OpenClaim.pre_eq_preRow]; exact lifted os started H enc F)
theorem plain (f : FuncId) (fn : Func) (hf : Tryd.pinned.checked.prog.funcNamed "sieve/sievelaw06.CharrefNumbers" = some f) (hfn : Tryd.pinned.checked.prog.funcs[f]? = some fn) :
  false = Tryd.pinned.checked.prog.looks [] ∧ ∀ (j : Nat) t, fn.params[j]? = some t → Tryd.pinned.checked.prog.wantsStandIn t = false := by
 obtain rfl : f = 3 := Option.some.inj ((show Tryd.prog.funcNamed "sieve/sievelaw06.CharrefNumbers" = some 3 by kernel_rfl).symm.trans hf) |>.symm
 obtain rfl : fn = Tryd.f3 := (Option.some.inj (Tryd.func3.symm.trans hfn)).symm
 refine ⟨by kernel_rfl, fun j t ht => ?_⟩
 rw [Tryd.params3] at ht
 have hm := Array.mem_of_getElem? ht
 simp only [List.mem_toArray, List.mem_cons, List.mem_nil_iff, or_false] at hm
 rcases hm with rfl | rfl | rfl
 ·exact (show Tryd.prog.wantsStandIn 9 = false by kernel_rfl)
 ·exact (show Tryd.prog.wantsStandIn 4 = false by kernel_rfl)
 ·exact (show Tryd.prog.wantsStandIn 21 = false by kernel_rfl)
theorem card : Rows.CharrefNumbersCardSaid :=
 Claim7.holds_tied_plain_at .later [] _ _ _ _ proved (fun _ h => by cases h) (by kernel_rfl) (fun _ h => by cases h) charrefNumbers_row_tie rfl ⟨rfl, rfl⟩ (by kernel_rfl) rfl plain (by kernel_rfl)
#print axioms card
end Go.Proofs.YthmbbkbmlnaghaaDoor.charrefNumbers
namespace Go.Proofs.YthmbbkbmlnaghaaDoor
/-- The card, under a short name, for the claim. -/
theorem charrefNumbers_holds : Rows.CharrefNumbersCardSaid := charrefNumbers.card
end Go.Proofs.YthmbbkbmlnaghaaDoor
end
