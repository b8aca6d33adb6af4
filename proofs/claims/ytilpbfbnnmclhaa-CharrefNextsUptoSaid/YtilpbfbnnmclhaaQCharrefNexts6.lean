/-
  CharrefNexts, the given statement (second form: what it reads is of bulk at most 1048576): what every & is, given what stands behind it, or a beginning of that, is what the document says; for every string and both flags. Condition: the bulk.
-/
import Derived.Test.YtilpbfbnnmclhaaQCharrefNexts0
import Derived.Test.YtilpbfbnnmclhaaQCharrefNexts1
import Derived.Test.YtilpbfbnnmclhaaQCharrefNexts2
import Derived.Test.YtilpbfbnnmclhaaQCharrefNexts3
import Derived.Test.YtilpbfbnnmclhaaQCharrefNexts4
import Derived.Test.YtilpbfbnnmclhaaQCharrefNexts5
import Derived.Shelf.Strings.Builder1
import Derived.Shelf.Strings.BuilderF
import Derived.Shelf.Strings.BuilderK
import Derived.Test.YtilpbfbnnmclhaaProg
import Derived.Lib.OthersKept
import Derived.Laws.EntriesVeiled
import Derived.Deep.RegionWith
import Derived.Maps.AppendAt
import Derived.Lib.TrimUEq
import Derived.Lib.AtoiErrMem
import Derived.Test.YtilpbfbnnmclhaaRows
import Derived.WalkKit
import Derived.ProofKit
import Derived.OpenShut
import Derived.ShutString
import Derived.ChangeOld
import Derived.Below
import Derived.SizedLaws
import Derived.JoinedCond
section
/-
  charref.each: the references of a text, one by one, each handed to a function value.
-/
namespace Go.Proofs.Ytilpbfbnnmclhaa.P
open Go.RowKit Go.Proofs.YtilpbfbnnmclhaaW.PrintWords Go.Proofs.YtilpbfbnnmclhaaW.PrintLast Go.Proofs.YtilpbfbnnmclhaaW.PrintMore
set_option linter.unusedVariables false
set_option linter.unusedSimpArgs false

/-- the references from place i on: where the & stands, what is said, how many bytes stand behind the & -/
def refsGo (attr : Bool) (s : ByteArray) : Nat → Nat → Option (List (Nat × ByteArray × Nat))
  | 0, _ => none
  | k + 1, i =>
    if i < s.size then
      (if bt s i = 38 then
        (charref_next.f k (s.extract (i + 1) s.size) attr true).bind fun n =>
          if 0 ≤ n.2.1 ∧ i + 1 + n.2.1.toNat ≤ s.size then
            (if n.2.1 = 0 then refsGo attr s k (i + 1)
             else (refsGo attr s k (i + 1 + n.2.1.toNat)).bind fun t => some ((i, n.1, n.2.1.toNat) :: t))
          else none
       else refsGo attr s k (i + 1))
    else some []

set_option maxRecDepth 100000 in
set_option maxHeartbeats 8000000 in
theorem charref_each_calls (k : Nat) (s : ByteArray) (attr : Bool) (fv : Array Value) (refs : List (Nat × ByteArray × Nat)) (I : List (Nat × ByteArray × Nat) → World → Prop) (w : World)
    (hs : s.size ≤ 35184372088831) (h : refsGo attr s k 0 = some refs)
    (hI : ∀ pre W W', I pre W → Below W.heap.size W W' → I pre W')
    (hdo : ∀ (pre : List (Nat × ByteArray × Nat)) (x : Nat × ByteArray × Nat) (W : World) (b : Bool), I pre W → (∃ post, pre ++ [x] ++ post = refs) → Calls Try.prog 53 (#[.int .i64 (x.1 : Nat), .agg #[.string x.2.1, .int .i64 (x.2.2 : Nat), .bool b]] ++ fv) W fun e W' =>
      e = .returned (.bool true) ∧ I (pre ++ [x]) W' ∧ ∀ (j : Nat) (cs : Array Value), W.heap[j]? = some (Obj.cells cs 60 (0, 0)) → W'.heap[j]? = some (Obj.cells cs 60 (0, 0)))
    (h0 : I [] w) :
    Calls Try.prog 39 #[.string s, .bool attr, .func (.func 53) #[] fv] w fun e w' => e = .returned (.tuple #[]) ∧ I refs w' := by
  have HDO := Aside0.mk hdo
  have HI := Aside0.mk hI
  have HR := Aside0.mk h
  clear hdo
  clear hI
  clear h
  have hu60 := Try.underlying60
  go_enter Try.func39, Try.ntmps39
  go_wp2
  go_loopw [6] (fun v wr => ∃ (i kk : Nat) (pre rest : List (Nat × ByteArray × Nat)), v = .int .i64 (i : Nat) ∧ i ≤ s.size ∧ Aside0 (refsGo attr s kk i = some rest) ∧ Aside0 (pre ++ rest = refs) ∧ Aside0 (I pre wr)) (fun v _ => s.size - (intOf v).toNat)
  case atStart => exact ⟨0, k, [], refs, rfl, Nat.zero_le _, HR, ⟨rfl⟩, ⟨h0⟩⟩
  case round =>
    obtain ⟨i, kk, pre, rest, rfl, hi, hrest, hpre, hinv⟩ := hrel
    by_cases hlt : i < s.size
    · have hl1 : ((i : Int) < (s.size : Int)) = True := eq_true (by omega)
      have hl2 : ((0 : Int) ≤ (i : Int)) = True := eq_true (by omega)
      have hx0 : ∀ h : i < s.size, ((s[i]'h).toNat : Int) = bt s (i : Int) := bt_at s (i : Int)
      have hw1 : IntKind.i64.wrap ((i : Int) + 1) = (i : Int) + 1 := IntWalk.i64_in _ (by omega)
      cases kk with
      | zero => exact absurd hrest.out (by simp [refsGo])
      | succ kk =>
        have hr := hrest.out
        clear hrest
        unfold refsGo at hr
        rw [if_pos hlt] at hr
        by_cases c : bt s (i : Int) = 38
        · rw [if_pos c] at hr
          obtain ⟨⟨n1, n2, n3⟩, hn, hr⟩ := Option.bind_eq_some_iff.1 hr
          have HN := Aside0.mk hn
          clear hn
          by_cases hb : 0 ≤ n2 ∧ i + 1 + n2.toNat ≤ s.size
          · rw [if_pos hb] at hr
            obtain ⟨m, rfl⟩ : ∃ m : Nat, n2 = m := ⟨n2.toNat, by omega⟩
            obtain ⟨_, hm⟩ := hb
            simp only [Int.toNat_natCast] at hm hr
            have HRR := Aside0.mk hr
            clear hr
            have kc : (bt s (i : Int) != 38) = false := bne_eq_false_iff_eq.2 c
            have s1 : ((0 : Int) ≤ (i : Int) + 1) = True := eq_true (by omega)
            have s2 : ((i : Int) + 1 ≤ (s.size : Int)) = True := eq_true (by omega)
            have s3 : ((i : Int) + 1).toNat = i + 1 := by omega
            have hw2 : IntKind.i64.wrap (1 + (m : Int)) = 1 + (m : Int) := IntWalk.i64_in _ (by omega)
            have hw3 : IntKind.i64.wrap ((i : Int) + (1 + (m : Int))) = ((i + 1 + m : Nat) : Int) := by rw [IntWalk.i64_in _ (by omega)]; omega
            by_cases hm0 : m = 0
            · have HM0 := Aside0.mk hm0
              have hrr := HRR.out
              rw [if_pos (by omega)] at hrr
              have HREST := Aside0.mk hrr
              clear hrr
              have g1 : decide ((m : Int) > 0) = false := decide_eq_false (by omega)
              have g2 : decide ((0 : Int) < (m : Int)) = false := decide_eq_false (by omega)
              have g3 : (0 < m) = False := eq_false (by omega)
              have g4 : ((0 : Int) < (m : Int)) = False := eq_false (by omega)
              have hw4 : ((i + 1 + m : Nat) : Int) = ((i + 1 : Nat) : Int) := by omega
              have HW4 := Aside0.mk hw4
              clear hw4 hm0
              go_wp2_with (first | (go_at_call 27; refine (charref_next.calls kk (s.extract (i + 1) s.size) attr true n1 (m : Int) n3 _ HN.out).mono ?_; rintro e w1 ⟨rfl, hb1⟩; have HB1 := Aside0.mk hb1; clear hb1) | ((with_reducible refine gate_dst (N := 7) rfl ?_); refine box_event ?hg (N := 7) ?hd (cs := #[.string (⟨#[]⟩ : ByteArray), .int .i64 0, .bool false]) (t := 60) ?hr ?_; (case hd => rfl); (case hg => rfl); (case hr => first | (go_simp; done) | (go_simp; rfl)); intro gb hg w5 hbox hb; have HB5 := Aside0.mk (below_step HB1.out hb); have BK5 := Aside0.mk hbox; have GE5 := Aside0.mk ((by rw [hg]; exact (below_size HB1.out)) : wr.heap.size ≤ gb); clear hb hbox hg; have hcz0 : w5.cell? ⟨gb, 0, none⟩ = some (.string (⟨#[]⟩ : ByteArray)) := (blk_cell BK5.out 0).trans rfl; have hcz1 : w5.cell? ⟨gb, 1, none⟩ = some (.int .i64 0) := (blk_cell BK5.out 1).trans rfl; have hcz2 : w5.cell? ⟨gb, 2, none⟩ = some (.bool false) := (blk_cell BK5.out 2).trans rfl; have hfz0 := blk_frozen BK5.out 0; have hfz1 := blk_frozen BK5.out 1; have hfz2 := blk_frozen BK5.out 2))
              go_roundw
              case rel => exact ⟨i + 1, kk, pre, rest, by rw [← HW4.out]; rfl, by omega, HREST, hpre, ⟨HI.out pre wr _ hinv.out (below_set (below_set (below_set HB5.out GE5.out) GE5.out) GE5.out)⟩⟩
              case measure => simp [intOf]; omega
            · have hrr := HRR.out
              rw [if_neg (by omega)] at hrr
              obtain ⟨t2, ht2, heq⟩ := Option.bind_eq_some_iff.1 hrr
              have heq := Option.some.inj heq
              have HREST := Aside0.mk ht2
              clear hrr ht2
              have hpre2 : pre ++ [(i, n1, m)] ++ t2 = refs := by rw [← hpre.out, ← heq, List.append_assoc]; rfl
              have HPRE2 := Aside0.mk hpre2
              clear hpre2 heq
              have g1 : decide ((m : Int) > 0) = true := decide_eq_true (by omega)
              have g2 : decide ((0 : Int) < (m : Int)) = true := decide_eq_true (by omega)
              go_wp2_with (first | (go_at_call 27; refine (charref_next.calls kk (s.extract (i + 1) s.size) attr true n1 (m : Int) n3 _ HN.out).mono ?_; rintro e w1 ⟨rfl, hb1⟩; have HB1 := Aside0.mk hb1; clear hb1) | ((with_reducible refine gate_dst (N := 7) rfl ?_); refine box_event ?hg (N := 7) ?hd (cs := #[.string (⟨#[]⟩ : ByteArray), .int .i64 0, .bool false]) (t := 60) ?hr ?_; (case hd => rfl); (case hg => rfl); (case hr => first | (go_simp; done) | (go_simp; rfl)); intro gb hg w5 hbox hb; have HB5 := Aside0.mk (below_step HB1.out hb); have BK5 := Aside0.mk hbox; have GE5 := Aside0.mk ((by rw [hg]; exact (below_size HB1.out)) : wr.heap.size ≤ gb); clear hb hbox hg; have hcz0 : w5.cell? ⟨gb, 0, none⟩ = some (.string (⟨#[]⟩ : ByteArray)) := (blk_cell BK5.out 0).trans rfl; have hcz1 : w5.cell? ⟨gb, 1, none⟩ = some (.int .i64 0) := (blk_cell BK5.out 1).trans rfl; have hcz2 : w5.cell? ⟨gb, 2, none⟩ = some (.bool false) := (blk_cell BK5.out 2).trans rfl; have hfz0 := blk_frozen BK5.out 0; have hfz1 := blk_frozen BK5.out 1; have hfz2 := blk_frozen BK5.out 2) | (go_at_call 53; refine (HDO.out pre (i, n1, m) _ n3 (HI.out pre wr _ hinv.out (below_set (below_set (below_set HB5.out GE5.out) GE5.out) GE5.out)) ⟨t2, HPRE2.out⟩).mono ?_; rintro e w7 ⟨rfl, hinv7, hk7⟩; have HINV7 := Aside0.mk hinv7; have BK7 := Aside0.mk (hk7 gb #[.string n1, .int .i64 (m : Nat), .bool n3] (blk_put (cs := #[.string n1, .int .i64 (m : Nat), .bool false]) (blk_put (cs := #[.string n1, .int .i64 0, .bool false]) (blk_put (cs := #[.string (⟨#[]⟩ : ByteArray), .int .i64 0, .bool false]) BK5.out 0 _ rfl) 1 _ rfl) 2 _ rfl)); clear hinv7 hk7; have hcy1 : w7.cell? ⟨gb, 1, none⟩ = some (.int .i64 (m : Nat)) := (blk_cell BK7.out 1).trans rfl))
              go_roundw
              case rel => exact ⟨i + 1 + m, kk, pre ++ [(i, n1, m)], t2, rfl, hm, HREST, HPRE2, HINV7⟩
              case measure => simp [intOf]; omega
          · rw [if_neg hb] at hr
            cases hr
        · rw [if_neg c] at hr
          have HREST := Aside0.mk hr
          clear hr
          have kc : (bt s (i : Int) != 38) = true := bne_iff_ne.2 c
          clear c
          go_wp2
          go_roundw
          case rel => exact ⟨i + 1, kk, pre, rest, rfl, by omega, HREST, hpre, hinv⟩
          case measure => simp [intOf]; omega
    · have hl1 : ((i : Int) < (s.size : Int)) = False := eq_false (by omega)
      have hrr : rest = [] := by
        have := hrest.out
        cases kk with
        | zero => simp [refsGo] at this
        | succ kk =>
          unfold refsGo at this
          rw [if_neg hlt] at this
          exact (Option.some.inj this).symm
      subst hrr
      have hp := hpre.out
      rw [List.append_nil] at hp
      subst hp
      go_wp2
      go_end0
      exact ⟨rfl, hinv.out⟩
end Go.Proofs.Ytilpbfbnnmclhaa.P
end
section
/-
  DERIVED: THE SHELF's CONTRACTS AT THIS DUMP, IN PLAIN WORDS (tools/lay-plain.mjs out of 'TryShelf.lean', which tools/lay-shelf.mjs wrote): THE SAME DECLARATIONS UNDER THE SAME NAMES: 'import', 'namespace', 'open', 'def', 'theorem' AND NOTHING ELSE: no command of the shelf's: FOR A HAND-IN. Each laying: the table of numbers ('.._ren') and one theorem, a field a fact of the dump's own or the kernel's comparison; each contract: ONE APPLICATION.
-/
namespace Go.Proofs
open Go.Shelf
def Try.lays169_ren : Go.Shelf.Ren := ⟨fun | 169 => 55 | n => n, fun | 70 => 84 | 9 => 9 | 0 => 0 | 72 => 86 | 37 => 31 | 127 => 105 | 3 => 3 | 5 => 5 | n => n, fun | n => n⟩
theorem Try.lays169 : Go.Proofs.Lays.n169 Try.prog Try.lays169_ren := {
  mixed := by kernel_rfl
  f169 := Try.func55.trans (congrArg some (by kernel_rfl))
  t0 := Try.underlying0
  a0 := Try.isAgg0
  z0 := Try.sizeOf0
  v0 := Try.zeroValue0
  t3 := Try.underlying3
  a3 := Try.isAgg3
  z3 := Try.sizeOf3
  v3 := Try.zeroValue3
  t9 := Try.underlying9
  a9 := Try.isAgg9
  z9 := Try.sizeOf9
  v9 := Try.zeroValue9
  t37 := Try.underlying31
  a37 := Try.isAgg31
  z37 := Try.sizeOf31
  v37 := Try.zeroValue31
  t70 := Try.underlying84
  a70 := Try.isAgg84
  z70 := Try.sizeOf84
  v70 := Try.zeroValue84
  t72 := Try.underlying86
  a72 := Try.isAgg86
  z72 := Try.sizeOf86
  v72 := Try.zeroValue86
  t127 := Try.underlying105
  a127 := Try.isAgg105
  z127 := Try.sizeOf105
  v127 := Try.zeroValue105 }
theorem Try.Builder_Extra_169 : Builder.Extra Try.prog Try.lays169_ren := {
  sizeBuilder := by kernel_rfl
  liesBuilder := by kernel_rfl
  t5 := Try.underlying5
  a5 := Try.isAgg5
  z5 := Try.sizeOf5
  v5 := Try.zeroValue5
  infoByte := by kernel_rfl
  cellsByte := by kernel_rfl
  sizeByte := by kernel_rfl
  neB5 := by decide }
open Go.RowKit in
/-- (*strings.Builder).String: "String returns the accumulated string.": WHATEVER THE BUILDER HOLDS; THE FORM '_k': OVER 'Lib.IsBuilderF' (a builder that 'String()' may have read), AND WITH THE FRAME THAT REACHES ABOVE THE BUILDER: 'Lib.OthersKept': every block that is not b and is no row of uint8's stands as it stood: the iterator of a range among them. (LAID: no walk: one application.) -/
theorem Try.Builder_String_any_k (B b : Nat) (l : List UInt8) (w : World) (h : Lib.IsBuilderF 86 5 B b (Lib.byteCells l) w) (hBw : B ≤ w.heap.size) :
    Calls Try.prog 55 #[.pointer (some ⟨b, 0, none⟩)] w fun e w' => e = .returned (.string ⟨l.toArray⟩) ∧ (Lib.IsBuilderF 86 5 B b (Lib.byteCells l) w' ∧ Below B w w' ∧ Lib.OthersKept 5 (some b) w w') := Any.Builder_String_any_k Try.lays169 Try.Builder_Extra_169 B b l w h hBw
end Go.Proofs
end
section
/-
  strings.Builder at this program's translation (copyCheck ends in a refusal here, so the shelf's own contracts on it do not lay): copyCheck, WriteString, WriteByte. The proofs are the shelf's, turned to this program.
-/
namespace Go.Proofs.Ytilpbfbnnmclhaa.P
open Go.RowKit Go.Shelf Go.Proofs.YtilpbfbnnmclhaaW.PrintWords Go.Proofs.YtilpbfbnnmclhaaW.PrintLast Go.Proofs.YtilpbfbnnmclhaaW.PrintMore
set_option linter.unusedVariables false
set_option linter.unusedSimpArgs false

theorem bldX : (Try.prog.info? 86).map (·.size) = some 2 := by kernel_rfl
theorem bldLies : liesAt Try.prog Try.prog.depth 86 (2 / Try.prog.cellsOf 86) 0 86 1 = true := by kernel_rfl

set_option maxHeartbeats 1000000 in
set_option maxRecDepth 100000 in
theorem bld_copyCheck_used (b : Nat) (w : World) (h0 : w.cell? ⟨b, 0, none⟩ = some (.pointer (some ⟨b, 0, none⟩))) :
    Calls Try.prog 75 #[.pointer (some ⟨b, 0, none⟩)] w fun e w' => e = .returned (.tuple #[]) ∧ w' = w := by
  obtain ⟨j, hj, _⟩ := Option.map_eq_some_iff.1 bldX
  have u86 := run_underlying Try.underlying86
  have u84 := run_underlying Try.underlying84
  go_enter Try.func75, Try.ntmps75
  go_wp2
  rw [Lib.run_neq_ptr_same w _ Try.underlying84 hj]
  go_wp2
  go_end0
  exact ⟨rfl, rfl⟩

set_option maxHeartbeats 1000000 in
set_option maxRecDepth 100000 in
theorem bld_copyCheck_fresh (b : Nat) (w : World) (h0 : w.cell? ⟨b, 0, none⟩ = some (.pointer none)) (hsh : w.shape? b = some (86, 2)) (hfr : w.frozen? ⟨b, 0, none⟩ = false) :
    Calls Try.prog 75 #[.pointer (some ⟨b, 0, none⟩)] w fun e w' => e = .returned (.tuple #[]) ∧ w' = w.setCell ⟨b, 0, none⟩ (.pointer (some ⟨b, 0, none⟩)) := by
  obtain ⟨j, hj, hjs⟩ := Option.map_eq_some_iff.1 bldX
  go_enter Try.func75, Try.ntmps75
  go_wp2
  rw [Lib.run_to_unsafe w ⟨b, 0, none⟩ Try.underlying84 Try.underlying110 hj (by rw [hjs]; decide) hsh (Nat.zero_lt_succ 1)]
  simp only [Result.andThen]
  rw [Oper.upon_value]
  go_wp2
  rw [run_callFunc_extern Try.func83 (by kernel_rfl) (by kernel_rfl) (by kernel_rfl) (e := Extern.AbiNoEscape.same) (by kernel_rfl)]
  rw [Lib.run_noEscape]
  simp only [Result.andThen]
  rw [Oper.upon_value]
  go_wp2
  rw [Lib.run_from_unsafe w ⟨b, 0, none⟩ Try.underlying110 Try.underlying84 hj hsh bldLies]
  simp only [Result.andThen]
  rw [Oper.upon_value]
  go_wp2
  go_end0
  exact ⟨rfl, rfl⟩
theorem bldByte : (Try.prog.info? 5).map (fun i => (i.zero, i.size, i.bytes)) = some (some (.int .u8 0), 1, 1) := by kernel_rfl

set_option maxHeartbeats 2000000 in
set_option maxRecDepth 100000 in
theorem bld_copyCheck_k (B b : Nat) (bs : List Value) (w : World) (h : Lib.IsBuilderF 86 5 B b bs w) :
    Calls Try.prog 75 #[.pointer (some ⟨b, 0, none⟩)] w fun e w' => e = .returned (.tuple #[]) ∧ (Lib.BuilderAtF 86 5 B b (.pointer (some ⟨b, 0, none⟩)) bs w' ∧ Below B w w' ∧ Lib.OthersKept 5 (some b) w w') := by
  rcases h with h | h
  · refine (bld_copyCheck_fresh b w h.cell0 h.shape h.frozen0).mono ?_
    rintro e w' ⟨rfl, rfl⟩
    exact ⟨rfl, h.used _, (Below.refl B w).setCell (p := ⟨b, 0, none⟩) h.1 _, (Lib.OthersKept.refl _ _ w).setCell ⟨b, 0, none⟩ rfl _⟩
  · refine (bld_copyCheck_used b w h.cell0).mono ?_
    rintro e w' ⟨rfl, rfl⟩
    exact ⟨rfl, h, Below.refl B _, Lib.OthersKept.refl _ _ _⟩

set_option maxHeartbeats 2000000 in
set_option maxRecDepth 100000 in
theorem bld_WriteString_k (B b : Nat) (bs : List Value) (s : ByteArray) (w : World) (h : Lib.IsBuilderF 86 5 B b bs w) (hlen : bs.length + s.size ≤ 140737488355328) (hBw : B ≤ w.heap.size) :
    Calls Try.prog 54 #[.pointer (some ⟨b, 0, none⟩), .string s] w fun e w' => e = .returned (.tuple #[.int .i64 s.size, .nilIface]) ∧ (Lib.BuilderAtF 86 5 B b (.pointer (some ⟨b, 0, none⟩)) (bs ++ Lib.strCells s) w' ∧ Below B w w' ∧ Lib.OthersKept 5 (some b) w w') := by
  obtain ⟨i0, hi, hz0, hz1, hz2⟩ := info_parts bldByte
  go_enter Try.func54, Try.ntmps54
  go_wp2_with (go_at_call 75; refine (bld_copyCheck_k B b bs _ h).mono ?_)
  rintro e w1 ⟨rfl, h1, hb1, hk1⟩
  obtain ⟨hB, v, hbk, hown, hne⟩ := h1
  have c0 : w1.cell? ⟨b, 0, none⟩ = some (.pointer (some ⟨b, 0, none⟩)) := by rw [Lib.cell_of_heap hbk]; rfl
  have c1 : w1.cell? ⟨b, 1, none⟩ = some v := by rw [Lib.cell_of_heap hbk]; rfl
  go_wp2_with (at_builtin; refine Lib.wpList_append_own_stringF _ rfl _ _ 31 9 rfl B 5 i0 Try.underlying31 Try.underlying9 hi hz0 hz1 hz2 _ _ _ rfl hown s rfl ?c3 ?c4 ?c5 ?_)
  case c3 => unfold maxLen; omega
  case c4 => omega
  case c5 => have := hb1.size; omega
  intro v' w2 hown' hgrow _
  have hlt : b < w1.heap.size := by
    rcases Nat.lt_or_ge b w1.heap.size with h' | h'
    · exact h'
    · simp [Array.getElem?_eq_none h'] at hbk
  have hb2 : w2.heap[b]? = some (.cells #[.pointer (some ⟨b, 0, none⟩), v] 86 (0, 0)) := by
    rw [hgrow.block b hlt (fun e => hne e.symm)]
    exact hbk
  have d0 : w2.cell? ⟨b, 0, none⟩ = some (.pointer (some ⟨b, 0, none⟩)) := by rw [Lib.cell_of_heap hb2]; rfl
  have d1 : w2.cell? ⟨b, 1, none⟩ = some v := by rw [Lib.cell_of_heap hb2]; rfl
  have f1 : w2.frozen? ⟨b, 1, none⟩ = false := Lib.frozen_of_heap hb2 1
  obtain ⟨ao, n', cap, rfl⟩ : ∃ ao n' cap, v' = .slice ao n' cap := by
    rcases hown'.2 with ⟨hv, _⟩ | ⟨g, cap, cur, fz, hv, _⟩
    · exact ⟨_, _, _, hv⟩
    · exact ⟨_, _, _, hv⟩
  go_wp2
  go_ret2
  refine ⟨rfl, ?_, ?_, (hk1.grown hgrow (Lib.ownsRowF_kind hown)).setCell ⟨b, 1, none⟩ rfl _⟩
  · exact Lib.BuilderAtF.put (T := 86) (e := 5) hB hb2 (bs' := bs ++ Lib.strCells s) (by simpa [Lib.strCells_length] using hown') (by decide)
  · exact (hb1.grown hgrow (by have := hb1.size; omega) (fun k hk => (hown.lt k hk).1)).setCell (p := ⟨b, 1, none⟩) hB _

end Go.Proofs.Ytilpbfbnnmclhaa.P
end
section
/-
  charref.replaced, the plain part: what is written, reference by reference.
-/
namespace Go.Proofs.Ytilpbfbnnmclhaa.P
open Go.RowKit Go.Shelf Go.Proofs.YtilpbfbnnmclhaaW.PrintWords Go.Proofs.YtilpbfbnnmclhaaW.PrintLast Go.Proofs.YtilpbfbnnmclhaaW.PrintMore
set_option linter.unusedVariables false
set_option linter.unusedSimpArgs false

def repStep (g : ByteArray → ByteArray) (m : List UInt8) (st : Nat × List UInt8) (x : Nat × ByteArray × Nat) : Nat × List UInt8 :=
  (x.1 + 1 + x.2.2, st.2 ++ ((m.drop st.1).take (x.1 - st.1) ++ (g x.2.1).data.toList))
def repSt (g : ByteArray → ByteArray) (m : List UInt8) (l : List (Nat × ByteArray × Nat)) : Nat × List UInt8 := l.foldl (repStep g m) (0, [])
theorem repSt_snoc (g : ByteArray → ByteArray) (m : List UInt8) (l : List (Nat × ByteArray × Nat)) (x : Nat × ByteArray × Nat) : repSt g m (l ++ [x]) = repStep g m (repSt g m l) x := by
  unfold repSt
  rw [List.foldl_append]
  rfl
def repText (g : ByteArray → ByteArray) (m : List UInt8) (refs : List (Nat × ByteArray × Nat)) : List UInt8 := (repSt g m refs).2 ++ m.drop (repSt g m refs).1

/-- the places go up -/
def Asc (n : Nat) : Nat → List (Nat × ByteArray × Nat) → Prop
  | _, [] => True
  | i, x :: t => i ≤ x.1 ∧ x.1 + 1 + x.2.2 ≤ n ∧ Asc n (x.1 + 1 + x.2.2) t
theorem Asc.weak {n : Nat} : ∀ {i j : Nat} {l : List (Nat × ByteArray × Nat)}, j ≤ i → Asc n i l → Asc n j l
  | _, _, [], _, _ => trivial
  | _, _, _ :: _, h, ⟨h1, h2, h3⟩ => ⟨Nat.le_trans h h1, h2, h3⟩
theorem refsGo_asc (attr : Bool) (s : ByteArray) : ∀ (k i : Nat) (l : List (Nat × ByteArray × Nat)), refsGo attr s k i = some l → Asc s.size i l
  | 0, i, l, h => by simp [refsGo] at h
  | k + 1, i, l, h => by
    unfold refsGo at h
    by_cases c1 : i < s.size
    · rw [if_pos c1] at h
      by_cases c2 : bt s i = 38
      · rw [if_pos c2] at h
        obtain ⟨n, _, h⟩ := Option.bind_eq_some_iff.1 h
        by_cases c3 : 0 ≤ n.2.1 ∧ i + 1 + n.2.1.toNat ≤ s.size
        · rw [if_pos c3] at h
          by_cases c4 : n.2.1 = 0
          · rw [if_pos c4] at h
            exact (refsGo_asc attr s k _ l h).weak (by omega)
          · rw [if_neg c4] at h
            obtain ⟨t, ht, h⟩ := Option.bind_eq_some_iff.1 h
            have := Option.some.inj h
            subst this
            exact ⟨Nat.le_refl _, c3.2, refsGo_asc attr s k _ t ht⟩
        · rw [if_neg c3] at h
          cases h
      · rw [if_neg c2] at h
        exact (refsGo_asc attr s k _ l h).weak (by omega)
    · rw [if_neg c1] at h
      have := Option.some.inj h
      subst this
      trivial
theorem Asc.mid {n : Nat} (g : ByteArray → ByteArray) (m : List UInt8) : ∀ (pre : List (Nat × ByteArray × Nat)) (st : Nat × List UInt8) (x : Nat × ByteArray × Nat) (post : List (Nat × ByteArray × Nat)), Asc n st.1 (pre ++ x :: post) →
    (pre.foldl (repStep g m) st).1 ≤ x.1 ∧ x.1 + 1 + x.2.2 ≤ n ∧ pre.length + st.1 ≤ (pre.foldl (repStep g m) st).1
  | [], st, x, post, h => ⟨h.1, h.2.1, by simp⟩
  | y :: t, st, x, post, h => by
    have := Asc.mid g m t (repStep g m st y) x post (h.2.2)
    refine ⟨this.1, this.2.1, ?_⟩
    have h3 := this.2.2
    have h1 := h.1
    simp only [List.foldl_cons, List.length_cons]
    have e : (repStep g m st y).1 = y.1 + 1 + y.2.2 := rfl
    omega
theorem Asc.end_ {n : Nat} (g : ByteArray → ByteArray) (m : List UInt8) : ∀ (pre : List (Nat × ByteArray × Nat)) (st : Nat × List UInt8), st.1 ≤ n → Asc n st.1 pre → (pre.foldl (repStep g m) st).1 ≤ n ∧ pre.length + st.1 ≤ (pre.foldl (repStep g m) st).1
  | [], st, h0, h => ⟨h0, by simp⟩
  | y :: t, st, h0, h => by
    have := Asc.end_ g m t (repStep g m st y) h.2.1 h.2.2
    refine ⟨this.1, ?_⟩
    have h3 := this.2
    have h1 := h.1
    simp only [List.foldl_cons, List.length_cons]
    have e : (repStep g m st y).1 = y.1 + 1 + y.2.2 := rfl
    omega
theorem repFold_len (g : ByteArray → ByteArray) (m : List UInt8) : ∀ (l : List (Nat × ByteArray × Nat)) (st : Nat × List UInt8), st.2.length ≤ (l.foldl (repStep g m) st).2.length
  | [], st => Nat.le_refl _
  | y :: t, st => by
    have := repFold_len g m t (repStep g m st y)
    have e : (repStep g m st y).2.length = st.2.length + ((m.drop st.1).take (y.1 - st.1) ++ (g y.2.1).data.toList).length := by simp only [repStep, List.length_append]
    simp only [List.foldl_cons]
    omega
theorem repSt_len (g : ByteArray → ByteArray) (m : List UInt8) (a b : List (Nat × ByteArray × Nat)) : (repSt g m a).2.length ≤ (repSt g m (a ++ b)).2.length := by
  have := repFold_len g m b (repSt g m a)
  unfold repSt at this ⊢
  rw [List.foldl_append]
  exact this

/-- A builder is kept where its own block and the rows of bytes are kept. -/
theorem bld_kept {T e : TypeId} {B b : Nat} {bs : List Value} {w w' : World} (h : Lib.IsBuilderF T e B b bs w)
    (hk : ∀ k o, w.heap[k]? = some o → (k = b ∨ ∃ c fz, o = Obj.cells c e fz) → w'.heap[k]? = some o) : Lib.IsBuilderF T e B b bs w' := by
  have key : ∀ p, Lib.BuilderAtF T e B b p bs w → Lib.BuilderAtF T e B b p bs w' := by
    rintro p ⟨hB, v, hb, hown, hne⟩
    refine ⟨hB, v, hk _ _ hb (.inl rfl), ⟨hown.1, ?_⟩, hne⟩
    rcases hown.2 with hn | ⟨g, cap, cur, fz, hv, hbg, hg, rest⟩
    · exact .inl hn
    · exact .inr ⟨g, cap, cur, fz, hv, hbg, hk _ _ hg (.inr ⟨_, _, rfl⟩), rest⟩
  exact h.elim (fun x => .inl (key _ x)) (fun x => .inr (key _ x))
theorem bld_below {T e : TypeId} {B b : Nat} {bs : List Value} {w w' : World} (h : Lib.IsBuilderF T e B b bs w) (hb : Below w.heap.size w w') : Lib.IsBuilderF T e B b bs w' :=
  bld_kept h fun k o ho _ => by
    have hlt : k < w.heap.size := (Array.getElem?_eq_some_iff.1 ho).1
    rw [hb.block k hlt]
    exact ho
theorem blk_kept {w w' : World} {k : Nat} {o : Obj} (hb : Below w.heap.size w w') (h : w.heap[k]? = some o) : w'.heap[k]? = some o := by
  rw [hb.block k (Array.getElem?_eq_some_iff.1 h).1]
  exact h

/-- what stands between two references: the five variables that 'replaced' and its literal share -/
def RepI (BY b0 : Nat) (m : ByteArray) (g : ByteArray → ByteArray) (W0 : World) (pre : List (Nat × ByteArray × Nat)) (W : World) : Prop :=
  Lib.IsBuilderF 86 5 b0 (b0 + 2) (Lib.byteCells (repSt g m.data.toList pre).2) W ∧ W.heap[b0]? = some (.cells #[.string m] 9 (0, 0)) ∧
    W.heap[b0 + 1]? = some (.cells #[.func (.func BY) #[] #[]] 69 (0, 0)) ∧ W.heap[b0 + 3]? = some (.cells #[.int .i64 ((repSt g m.data.toList pre).1 : Nat)] 3 (0, 0)) ∧
    W.heap[b0 + 4]? = some (.cells #[.int .i64 (pre.length : Nat)] 3 (0, 0)) ∧ Below b0 W0 W
theorem RepI.below {BY b0 : Nat} {m : ByteArray} {g : ByteArray → ByteArray} {W0 : World} {pre : List (Nat × ByteArray × Nat)} {W W' : World} (h : RepI BY b0 m g W0 pre W) (hb : Below W.heap.size W W') : RepI BY b0 m g W0 pre W' := by
  obtain ⟨hI, hS, hBy, hF, hN, hB⟩ := h
  have hlt : b0 < W.heap.size := (Array.getElem?_eq_some_iff.1 hS).1
  exact ⟨bld_below hI hb, blk_kept hb hS, blk_kept hb hBy, blk_kept hb hF, blk_kept hb hN, hB.trans (hb.mono (by omega))⟩
end Go.Proofs.Ytilpbfbnnmclhaa.P
end
section
/-
  charref.replaced over Decode's literal: the function's own literal, which writes a reference's text, and the whole.
-/
namespace Go.Proofs.Ytilpbfbnnmclhaa.P
open Go.RowKit Go.Shelf Go.Proofs.YtilpbfbnnmclhaaW.PrintWords Go.Proofs.YtilpbfbnnmclhaaW.PrintLast Go.Proofs.YtilpbfbnnmclhaaW.PrintMore
set_option linter.unusedVariables false
set_option linter.unusedSimpArgs false

set_option maxRecDepth 100000 in
set_option maxHeartbeats 8000000 in
theorem D_rep1_calls (b0 : Nat) (m : ByteArray) (g : ByteArray → ByteArray) (W0 : World) (pre : List (Nat × ByteArray × Nat)) (x : Nat × ByteArray × Nat) (W : World) (b : Bool)
    (h : RepI 37 b0 m g W0 pre W) (hle : (repSt g m.data.toList pre).1 ≤ x.1) (hx : x.1 + 1 + x.2.2 ≤ m.size) (hm : m.size ≤ 35184372088831) (hp : pre.length ≤ m.size)
    (hlen : (repSt g m.data.toList (pre ++ [x])).2.length ≤ 140737488355328)
    (hby : ∀ (n : Int) (b : Bool) (W : World), Calls Try.prog 37 #[.agg #[.string x.2.1, .int .i64 n, .bool b]] W fun e W' => e = .returned (.string (g x.2.1)) ∧ Below W.heap.size W W') :
    Calls Try.prog 53 (#[.int .i64 (x.1 : Nat), .agg #[.string x.2.1, .int .i64 (x.2.2 : Nat), .bool b]] ++
        #[.pointer (some ⟨b0 + 2, 0, none⟩), .pointer (some ⟨b0, 0, none⟩), .pointer (some ⟨b0 + 3, 0, none⟩), .pointer (some ⟨b0 + 1, 0, none⟩), .pointer (some ⟨b0 + 4, 0, none⟩)]) W fun e W' =>
      e = .returned (.bool true) ∧ RepI 37 b0 m g W0 (pre ++ [x]) W' ∧ ∀ (j : Nat) (cs : Array Value), W.heap[j]? = some (Obj.cells cs 60 (0, 0)) → W'.heap[j]? = some (Obj.cells cs 60 (0, 0)) := by
  obtain ⟨hI, hS, hBy, hF, hN, hB⟩ := h
  have HI := Aside0.mk hI
  have HS := Aside0.mk hS
  have HBy := Aside0.mk hBy
  have HF := Aside0.mk hF
  have HN := Aside0.mk hN
  have HB := Aside0.mk hB
  have HBY := Aside0.mk hby
  have HLEN := Aside0.mk hlen
  have HN4 := Aside0.mk (show b0 + 4 < W.heap.size from (Array.getElem?_eq_some_iff.1 hN).1)
  clear hI hS hBy hF hN hB hby hlen
  obtain ⟨at_, says, size⟩ := x
  simp only at hle hx HBY
  have hstep := repSt_snoc g m.data.toList pre (at_, says, size)
  generalize hst : repSt g m.data.toList pre = st at hle HI HF hstep
  obtain ⟨fr, acc⟩ := st
  simp only at hle HI HF hstep
  have HST := Aside0.mk hst
  have HSTEP := Aside0.mk hstep
  clear hst hstep
  have hl1 : acc.length + (m.extract fr at_).size ≤ 140737488355328 := by
    have := HLEN.out
    rw [HSTEP.out] at this
    simp [repStep] at this
    have e : (m.extract fr at_).size = at_ - fr := by simp; omega
    omega
  have hl2 : (acc ++ (m.extract fr at_).data.toList).length + (g says).size ≤ 140737488355328 := by
    have := HLEN.out
    rw [HSTEP.out] at this
    simp [repStep] at this
    have e : (m.extract fr at_).size = at_ - fr := by simp; omega
    have e2 : (g says).data.size = (g says).size := rfl
    simp
    omega
  have HL1 := Aside0.mk hl1
  have HL2 := Aside0.mk hl2
  clear hl1 hl2
  have s1 : ((0 : Int) ≤ (fr : Int)) = True := eq_true (by omega)
  have s2 : ((fr : Int) ≤ (at_ : Int)) = True := eq_true (by omega)
  have s3 : ((at_ : Int) ≤ (m.size : Int)) = True := eq_true (by omega)
  have w1 : IntKind.i64.wrap ((at_ : Int) + 1) = (at_ : Int) + 1 := IntWalk.i64_in _ (by omega)
  have w2 : IntKind.i64.wrap ((at_ : Int) + 1 + (size : Int)) = ((at_ + 1 + size : Nat) : Int) := by rw [IntWalk.i64_in _ (by omega)]; omega
  have w3 : IntKind.i64.wrap ((pre.length : Int) + 1) = ((pre.length + 1 : Nat) : Int) := by rw [IntWalk.i64_in _ (by omega)]; omega
  have hu60 := Try.underlying60
  have HB0 := Aside0.mk (Below.refl W.heap.size W)
  go_enter Try.func53, Try.ntmps53
  go_wp2_with (first | ((with_reducible refine gate_dst (N := 8) rfl ?_); refine box_event ?hg (N := 8) ?hd (cs := #[.string says, .int .i64 (size : Nat), .bool b]) (t := 60) ?hr ?_; (case hd => rfl); (case hg => rfl); (case hr => first | (go_simp; done) | (go_simp; rfl)); intro gb hg w5 hbox hb; have HB5 := Aside0.mk (below_step HB0.out hb); have BK5 := Aside0.mk hbox; have NE5 : some gb ≠ some (b0 + 2) := (by intro e; have e := Option.some.inj e; have := HN4.out; rw [hg] at e; omega); clear hb hbox hg; have hcS5 : w5.cell? ⟨b0, 0, none⟩ = some (.string m) := (blk_cell (blk_kept HB5.out HS.out) 0).trans rfl; have hcF5 : w5.cell? ⟨b0 + 3, 0, none⟩ = some (.int .i64 (fr : Nat)) := (blk_cell (blk_kept HB5.out HF.out) 0).trans rfl) | (go_at_call 54; refine (bld_WriteString_k b0 (b0 + 2) (Lib.byteCells (acc ++ (m.extract fr at_).data.toList)) (g says) w7 (by rw [Lib.byteCells_append]; exact bld_below (.inr HI6.out) HBEL7.out) (by rw [Lib.byteCells_length]; exact HL2.out) (by have := HN4.out; have := HB5.out.size; have := HBEL6.out.size; have := HBEL7.out.size; omega)).mono ?_; rintro e w8 ⟨rfl, hb8, hbel8, hok8⟩; have HOK8 := Aside0.mk hok8; have HI8 := Aside0.mk hb8; have HBEL8 := Aside0.mk hbel8; clear hok8 hb8 hbel8; have KP := Aside0.mk (fun (k : Nat) (o : Obj) (h5 : w5.heap[k]? = some o) (hne : some k ≠ some (b0 + 2)) (ho : ∀ c fz, o ≠ Obj.cells c 5 fz) => HOK8.out k o (blk_kept HBEL7.out (HOK6.out k o h5 hne ho)) hne ho); have BK8 := Aside0.mk (KP.out gb _ BK5.out NE5 (fun c fz e => by cases e)); have BF8 := Aside0.mk (KP.out (b0 + 3) _ (blk_kept HB5.out HF.out) (by simp) (fun c fz e => by cases e)); have BN8 := Aside0.mk (KP.out (b0 + 4) _ (blk_kept HB5.out HN.out) (by simp) (fun c fz e => by cases e)); have hch8 : w8.cell? ⟨gb, 1, none⟩ = some (.int .i64 (size : Nat)) := (blk_cell BK8.out 1).trans rfl; have hcF8 : w8.cell? ⟨b0 + 3, 0, none⟩ = some (.int .i64 (fr : Nat)) := (blk_cell BF8.out 0).trans rfl; have hcN8 : w8.cell? ⟨b0 + 4, 0, none⟩ = some (.int .i64 (pre.length : Nat)) := (blk_cell BN8.out 0).trans rfl; have hfF8 := blk_frozen BF8.out 0; have hfN8 := blk_frozen BN8.out 0) | (go_at_call 37; refine (HBY.out (size : Nat) b w6).mono ?_; rintro e w7 ⟨rfl, hbel7⟩; have HBEL7 := Aside0.mk hbel7; clear hbel7) | (go_at_call 54; refine (bld_WriteString_k b0 (b0 + 2) (Lib.byteCells acc) (m.extract fr at_) w5 (bld_below HI.out HB5.out) (by rw [Lib.byteCells_length]; exact HL1.out) (by have := HN4.out; have := HB5.out.size; omega)).mono ?_; rintro e w6 ⟨rfl, hb6, hbel6, hok6⟩; have HOK6 := Aside0.mk hok6; have HI6 := Aside0.mk hb6; have HBEL6 := Aside0.mk hbel6; clear hok6 hb6 hbel6; have BK6 := Aside0.mk (HOK6.out gb _ BK5.out NE5 (fun c fz e => by cases e)); have hcB6 : w6.cell? ⟨b0 + 1, 0, none⟩ = some (.func (.func 37) #[] #[]) := (blk_cell (HOK6.out (b0 + 1) _ (blk_kept HB5.out HBy.out) (by simp) (fun c fz e => by cases e)) 0).trans rfl; have hcg6 : w6.cell? ⟨gb, 0, none⟩ = some (.string says) := (blk_cell BK6.out 0).trans rfl; have hch6 : w6.cell? ⟨gb, 1, none⟩ = some (.int .i64 (size : Nat)) := (blk_cell BK6.out 1).trans rfl; have hci6 : w6.cell? ⟨gb, 2, none⟩ = some (.bool b) := (blk_cell BK6.out 2).trans rfl))
  go_ret
  have hext : (m.extract fr at_).data.toList = (m.data.toList.drop fr).take (at_ - fr) := Lib.extract_data m fr at_
  have kS := KP.out b0 _ (blk_kept HB5.out HS.out) (by intro e; have e := Option.some.inj e; omega) (fun c fz e => by cases e)
  have kBy := KP.out (b0 + 1) _ (blk_kept HB5.out HBy.out) (by intro e; have e := Option.some.inj e; omega) (fun c fz e => by cases e)
  refine ⟨rfl, ⟨?_, ?_, ?_, ?_, ?_, ?_⟩, ?_⟩
  · rw [HSTEP.out]
    show Lib.IsBuilderF _ _ _ _ (Lib.byteCells (acc ++ ((m.data.toList.drop fr).take (at_ - fr) ++ (g says).data.toList))) _
    rw [← hext, ← List.append_assoc, Lib.byteCells_append]
    refine bld_kept (.inr HI8.out) ?_
    intro k o ho hk
    have n3 : k ≠ b0 + 3 := by
      rintro rfl
      rcases hk with hk | ⟨c, fz, rfl⟩
      · omega
      · rw [BF8.out] at ho
        cases ho
    have n4 : k ≠ b0 + 4 := by
      rintro rfl
      rcases hk with hk | ⟨c, fz, rfl⟩
      · omega
      · rw [BN8.out] at ho
        cases ho
    rw [Below.heap_setCell _ _ _ _ n4, Below.heap_setCell _ _ _ _ n3]
    exact ho
  · rw [Below.heap_setCell _ _ _ _ (show b0 ≠ b0 + 4 by omega), Below.heap_setCell _ _ _ _ (show b0 ≠ b0 + 3 by omega)]
    exact kS
  · rw [Below.heap_setCell _ _ _ _ (show b0 + 1 ≠ b0 + 4 by omega), Below.heap_setCell _ _ _ _ (show b0 + 1 ≠ b0 + 3 by omega)]
    exact kBy
  · rw [Below.heap_setCell _ _ _ _ (show b0 + 3 ≠ b0 + 4 by omega), HSTEP.out]
    exact blk_put (cs := #[.int .i64 (fr : Nat)]) BF8.out 0 _ rfl
  · refine blk_put (cs := #[.int .i64 (pre.length : Nat)]) ?_ 0 _ ?_
    · rw [Below.heap_setCell _ _ _ _ (show b0 + 4 ≠ b0 + 3 by omega)]
      exact BN8.out
    · simp
  · have l1 := HN4.out
    have l2 := HBEL6.out.size
    exact (((((HB.out.trans (HB5.out.mono (by omega))).trans HBEL6.out).trans (HBEL7.out.mono (by have := HB5.out.size; omega))).trans HBEL8.out).setCell (p := ⟨b0 + 3, 0, none⟩) (by show b0 ≤ b0 + 3; omega) _).setCell (p := ⟨b0 + 4, 0, none⟩) (by show b0 ≤ b0 + 4; omega) _
  · intro j cs hj
    have hj5 := blk_kept HB5.out hj
    have n2 : j ≠ b0 + 2 := by
      rintro rfl
      obtain ⟨hB, v, hb, _⟩ := HI8.out
      have hlt : b0 + 2 < W.heap.size := (Array.getElem?_eq_some_iff.1 hj).1
      rcases HI.out with ⟨_, v, hb, _⟩ | ⟨_, v, hb, _⟩ <;> (rw [hj] at hb; cases hb)
    have n3 : j ≠ b0 + 3 := by
      rintro rfl
      rw [HF.out] at hj
      cases hj
    have n4 : j ≠ b0 + 4 := by
      rintro rfl
      rw [HN.out] at hj
      cases hj
    rw [Below.heap_setCell _ _ _ _ n4, Below.heap_setCell _ _ _ _ n3]
    exact KP.out j _ hj5 (fun e => n2 (Option.some.inj e)) (fun c fz e => by cases e)
end Go.Proofs.Ytilpbfbnnmclhaa.P
end
section
/-
  charref.replaced over Decode's literal.
-/
namespace Go.Proofs.Ytilpbfbnnmclhaa.P
open Go.RowKit Go.Shelf Go.Proofs.YtilpbfbnnmclhaaW.PrintWords Go.Proofs.YtilpbfbnnmclhaaW.PrintLast Go.Proofs.YtilpbfbnnmclhaaW.PrintMore
set_option linter.unusedVariables false
set_option linter.unusedSimpArgs false

theorem D_alloc_get {w : World} {k : Nat} {x : Obj} (o : Obj) (h : w.heap[k]? = some x) : (w.alloc o).heap[k]? = some x :=
  (Lib.alloc_old w o k (Array.getElem?_eq_some_iff.1 h).1).trans h

set_option maxRecDepth 100000 in
set_option maxHeartbeats 2000000 in
theorem D_replaced_calls (k : Nat) (m : ByteArray) (attr : Bool) (g : ByteArray → ByteArray) (refs : List (Nat × ByteArray × Nat)) (w : World) (hm : m.size ≤ 35184372088831) (href : refsGo attr m k 0 = some refs)
    (hlen : (repText g m.data.toList refs).length ≤ 140737488355328)
    (hby : ∀ x ∈ refs, ∀ (n : Int) (b : Bool) (W : World), Calls Try.prog 37 #[.agg #[.string x.2.1, .int .i64 n, .bool b]] W fun e W' => e = .returned (.string (g x.2.1)) ∧ Below W.heap.size W W') :
    Calls Try.prog 32 #[.string m, .bool attr, .func (.func 37) #[] #[]] w fun e w' =>
      e = .returned (.tuple #[.string ⟨(repText g m.data.toList refs).toArray⟩, .int .i64 (refs.length : Nat)]) ∧ Below w.heap.size w w' := by
  have HBY := Aside0.mk hby
  have HREF := Aside0.mk href
  have HLEN := Aside0.mk hlen
  clear hby href hlen
  have hasc := refsGo_asc attr m k 0 refs HREF.out
  have hend := Asc.end_ g m.data.toList refs (0, []) (Nat.zero_le _) hasc
  have HEND := Aside0.mk hend
  have HASC := Aside0.mk hasc
  clear hasc hend
  -- the world when the references begin
  have hw5 : RepI 37 w.heap.size m g w [] (((((w.alloc (.cells #[.string m] 9)).alloc (.cells #[.func (.func 37) #[] #[]] 69)).alloc (.cells #[.pointer none, .slice none 0 0] 86)).alloc (.cells #[.int .i64 0] 3)).alloc (.cells #[.int .i64 0] 3)) := by
    have z1 : (w.alloc (.cells #[.string m] 9)).heap.size = w.heap.size + 1 := by simp
    have z2 : ((w.alloc (.cells #[.string m] 9)).alloc (.cells #[.func (.func 37) #[] #[]] 69)).heap.size = w.heap.size + 2 := by simp
    have z3 : (((w.alloc (.cells #[.string m] 9)).alloc (.cells #[.func (.func 37) #[] #[]] 69)).alloc (.cells #[.pointer none, .slice none 0 0] 86)).heap.size = w.heap.size + 3 := by simp
    have z4 : ((((w.alloc (.cells #[.string m] 9)).alloc (.cells #[.func (.func 37) #[] #[]] 69)).alloc (.cells #[.pointer none, .slice none 0 0] 86)).alloc (.cells #[.int .i64 0] 3)).heap.size = w.heap.size + 4 := by simp
    refine ⟨.inl ⟨by omega, .slice none 0 0, ?_, ⟨rfl, .inl ⟨rfl, rfl⟩⟩, by simp [Value.ownBlock]⟩, ?_, ?_, ?_, ?_, ?_⟩
    · have := heap_alloc_new ((w.alloc (.cells #[.string m] 9)).alloc (.cells #[.func (.func 37) #[] #[]] 69)) (.cells #[.pointer none, .slice none 0 0] 86)
      rw [z2] at this
      exact D_alloc_get _ (D_alloc_get _ this)
    · exact D_alloc_get _ (D_alloc_get _ (D_alloc_get _ (D_alloc_get _ (heap_alloc_new w _))))
    · have := heap_alloc_new (w.alloc (.cells #[.string m] 9)) (.cells #[.func (.func 37) #[] #[]] 69)
      rw [z1] at this
      exact D_alloc_get _ (D_alloc_get _ (D_alloc_get _ this))
    · have := heap_alloc_new (((w.alloc (.cells #[.string m] 9)).alloc (.cells #[.func (.func 37) #[] #[]] 69)).alloc (.cells #[.pointer none, .slice none 0 0] 86)) (.cells #[.int .i64 0] 3)
      rw [z3] at this
      exact D_alloc_get _ this
    · have := heap_alloc_new ((((w.alloc (.cells #[.string m] 9)).alloc (.cells #[.func (.func 37) #[] #[]] 69)).alloc (.cells #[.pointer none, .slice none 0 0] 86)).alloc (.cells #[.int .i64 0] 3)) (.cells #[.int .i64 0] 3)
      rw [z4] at this
      exact this
    · exact (((((Below.refl _ w).alloc (Nat.le_refl _) _).alloc (by omega) _).alloc (by omega) _).alloc (by omega) _).alloc (by omega) _
  have HW5 := Aside0.mk hw5
  clear hw5
  have heach := fun W5 (h5 : RepI 37 w.heap.size m g w [] W5) => charref_each_calls k m attr #[.pointer (some ⟨w.heap.size + 1 + 1, 0, none⟩), .pointer (some ⟨w.heap.size, 0, none⟩), .pointer (some ⟨w.heap.size + 1 + 1 + 1, 0, none⟩), .pointer (some ⟨w.heap.size + 1, 0, none⟩), .pointer (some ⟨w.heap.size + 1 + 1 + 1 + 1, 0, none⟩)]
    refs (RepI 37 w.heap.size m g w) W5 hm HREF.out (fun pre W W' h hb => h.below hb) (by
      rintro pre x W b hinv ⟨post, hpost⟩
      have hmid := Asc.mid (n := m.size) g m.data.toList pre (0, []) x post (by rw [← List.append_cons] at hpost; rw [hpost]; exact HASC.out)
      refine D_rep1_calls w.heap.size m g w pre x W b hinv hmid.1 hmid.2.1 hm ?_ ?_ (HBY.out x (by rw [← hpost]; simp))
      · have h1 := hmid.2.2
        have h2 := hmid.1
        have h3 := hmid.2.1
        simp only [Nat.add_zero] at h1
        omega
      · have h1 := repSt_len g m.data.toList (pre ++ [x]) post
        rw [hpost] at h1
        have h2 := HLEN.out
        unfold repText at h2
        rw [List.length_append] at h2
        omega) h5
  have HEACH := Aside0.mk heach
  clear heach
  have hend := HEND.out
  have hlen := HLEN.out
  unfold repText at hlen
  have htx : repText g m.data.toList refs = (repSt g m.data.toList refs).2 ++ m.data.toList.drop (repSt g m.data.toList refs).1 := rfl
  have HTX := Aside0.mk htx
  clear htx
  change (repSt g m.data.toList refs).1 ≤ m.size ∧ refs.length + 0 ≤ (repSt g m.data.toList refs).1 at hend
  obtain ⟨fr, acc, hst⟩ : ∃ fr acc, repSt g m.data.toList refs = (fr, acc) := ⟨_, _, rfl⟩
  have hri : ∀ W, RepI 37 w.heap.size m g w refs W → Lib.IsBuilderF 86 5 w.heap.size (w.heap.size + 1 + 1) (Lib.byteCells acc) W ∧ W.heap[w.heap.size]? = some (.cells #[.string m] 9 (0, 0)) ∧
      W.heap[w.heap.size + 1 + 1 + 1]? = some (.cells #[.int .i64 (fr : Nat)] 3 (0, 0)) ∧ W.heap[w.heap.size + 1 + 1 + 1 + 1]? = some (.cells #[.int .i64 (refs.length : Nat)] 3 (0, 0)) ∧ Below w.heap.size w W := by
    rintro W ⟨h1, h2, _, h3, h4, h5⟩
    rw [hst] at h1 h3
    exact ⟨h1, h2, h3, h4, h5⟩
  have HRI := Aside0.mk hri
  clear hri
  rw [hst] at hend hlen HTX
  simp only at hend hlen HTX
  clear hst
  rw [List.length_append, List.length_drop] at hlen
  have hml : m.data.toList.length = m.size := by simp
  have HL := Aside0.mk (show acc.length + (m.extract fr m.size).size ≤ 140737488355328 by
    have e : (m.extract fr m.size).size = m.size - fr := by simp
    omega)
  clear hlen hml
  have s1 : ((0 : Int) ≤ (fr : Int)) = True := eq_true (by omega)
  have s2 : ((fr : Int) ≤ (m.size : Int)) = True := eq_true (by omega)
  go_enter Try.func32, Try.ntmps32
  go_wp2_with (first | (go_at_call 39; refine (HEACH.out _ HW5.out).mono ?_; rintro e w6 ⟨rfl, hr6⟩; have hr6' := HRI.out w6 hr6; clear hr6; obtain ⟨hI6, hS6, hF6, hN6, hB6⟩ := hr6'; have HI6 := Aside0.mk hI6; have HS6 := Aside0.mk hS6; have HF6 := Aside0.mk hF6; have HN6 := Aside0.mk hN6; have HB6 := Aside0.mk hB6; clear hI6 hS6 hF6 hN6 hB6; have hcS6 : w6.cell? ⟨w.heap.size, 0, none⟩ = some (.string m) := (blk_cell HS6.out 0).trans rfl; have hcF6 : w6.cell? ⟨w.heap.size + 1 + 1 + 1, 0, none⟩ = some (.int .i64 (fr : Nat)) := (blk_cell HF6.out 0).trans rfl) | (go_at_call 54; refine (bld_WriteString_k w.heap.size (w.heap.size + 1 + 1) (Lib.byteCells acc) (m.extract fr m.size) w6 HI6.out (by rw [Lib.byteCells_length]; exact HL.out) HB6.out.size).mono ?_; rintro e w7 ⟨rfl, hb7, hbel7, hok7⟩; have HI7 := Aside0.mk hb7; have HBEL7 := Aside0.mk hbel7; have HN7 := Aside0.mk (hok7 (w.heap.size + 1 + 1 + 1 + 1) _ HN6.out (by intro e; have e := Option.some.inj e; omega) (fun c fz e => by cases e)); clear hb7 hbel7 hok7; have hcN7 : w7.cell? ⟨w.heap.size + 1 + 1 + 1 + 1, 0, none⟩ = some (.int .i64 (refs.length : Nat)) := (blk_cell HN7.out 0).trans rfl))
  have hb7 : Lib.IsBuilderF 86 5 w.heap.size (w.heap.size + 1 + 1) (Lib.byteCells (acc ++ m.data.toList.drop fr)) w7 := by
    have e : (m.extract fr m.size).data.toList = m.data.toList.drop fr := by
      rw [Lib.extract_data, List.take_of_length_le (by simp)]
    rw [Lib.byteCells_append, ← e]
    exact .inr HI7.out
  have HSTR := Aside0.mk (Try.Builder_String_any_k w.heap.size (w.heap.size + 1 + 1) (acc ++ m.data.toList.drop fr) w7.drew hb7 (Nat.le_trans HB6.out.size HBEL7.out.size))
  clear hb7
  go_region_with (go_at_call 55; refine HSTR.out.mono ?_; rintro e w8 ⟨rfl, _, hbel8, hok8⟩; have HBEL8 := Aside0.mk hbel8; have HN8 := Aside0.mk (hok8 (w.heap.size + 1 + 1 + 1 + 1) _ HN7.out (by intro e; have e := Option.some.inj e; omega) (fun c fz e => by cases e)); clear hbel8 hok8; have hcN8 : w8.cell? ⟨w.heap.size + 1 + 1 + 1 + 1, 0, none⟩ = some (.int .i64 (refs.length : Nat)) := (blk_cell HN8.out 0).trans rfl)
  all_goals (try go_wp2)
  all_goals go_ret2
  all_goals exact ⟨by rw [HTX.out]; rfl, (below_drew (HB6.out.trans HBEL7.out)).trans HBEL8.out⟩
end Go.Proofs.Ytilpbfbnnmclhaa.P
end
section
/-
  utf.Runes: the runes of bytes: a loop over the iterator that collects.
-/
namespace Go.Proofs.Ytilpbfbnnmclhaa.P
open Go.RowKit Go.Shelf Go.Proofs.YtilpbfbnnmclhaaW.PrintWords Go.Proofs.YtilpbfbnnmclhaaW.PrintLast Go.Proofs.YtilpbfbnnmclhaaW.PrintMore
set_option linter.unusedVariables false
set_option linter.unusedSimpArgs false
attribute [local go_sem] Oper.semAt_some

theorem mid_append {m0 n0 B : Nat} {W w1 : World} {e : TypeId} {v v' : Value} {k : Nat} {xs : List Value} {tmp : Obj} (hB : B < m0) (hn0 : n0 ≤ W.heap.size) (hrow : W.ownsRow n0 e 1 v k xs)
    (hgrow : (W.alloc tmp).grownBy w1 v.ownBlock) : Mid m0 n0 W (w1.setCell ⟨B, 0, none⟩ v') := by
  refine ((Mid.below ((Below.refl n0 W).alloc hn0 tmp)).trans (Mid.grown hgrow (by simp; omega) (fun r hr => .inr (own_base hrow r hr)))).trans ?_
  intro i h1 h2
  exact Below.heap_setCell _ _ _ i (by show i ≠ B; omega)

set_option maxRecDepth 100000 in
set_option maxHeartbeats 4000000 in
theorem utf_Runes_calls (hrd : ReadTells) (A : Option Addr) (c0 : Nat) (bs : List UInt8) (w : World) (hr : Kd.C (Kd.int .u8) w A (zs bs).length (zs bs)) (hlen : bs.length ≤ 35184372088831) :
    Calls Try.prog 56 #[.slice A (zs bs).length c0] w fun e w' => ∃ v : Value, e = .returned v ∧ w'.ownsRow w.heap.size 21 1 v (runes bs).length (nums .i32 (runes bs)) ∧ Below w.heap.size w w' := by
  have HR := Aside0.mk hr
  have HRD := Aside0.mk hrd
  have hzl : (zs bs).length = bs.length := zs_length bs
  have HZL := Aside0.mk hzl
  have hpl : ∀ n (l : List UInt8) p, l.length ≤ n → (pcs p l).length ≤ l.length := by
    intro n
    induction n with
    | zero =>
      intro l p h
      obtain rfl : l = [] := List.eq_nil_of_length_eq_zero (by omega)
      simp [pcs_nil]
    | succ n ih =>
      intro l p h
      by_cases hne : l = []
      · subst hne; simp [pcs_nil]
      · have hw := (rdL_facts l hne).1
        have hl : 0 < l.length := List.length_pos_iff.2 hne
        rw [pcs_step p l hne]
        have := ih (l.drop (rdL l).2.1) (p + (rdL l).2.1) (by rw [List.length_drop]; omega)
        rw [List.length_drop] at this
        simp only [List.length_cons]
        omega
  have HPL := Aside0.mk (hpl _ bs 0 (Nat.le_refl _))
  clear hr hrd hzl hpl
  obtain ⟨i0, hi, hz0, hz1, hz2⟩ := info_parts info21
  refine (callsIn_wide (n := 4)).1 ?_
  refine callsIn_of_wp_marks Try.func56 rfl trivial ?_ rfl
  simp only [Try.ntmps56, List.size_toArray, List.length_cons, List.length_nil, Nat.reduceAdd, Nat.reduceSub, Array.replicate_succ, Array.replicate_zero, List.push_toArray, List.append_toArray, List.nil_append, List.cons_append]
  generalize hL : zs bs = L at HR HZL ⊢
  have HL := Aside0.mk hL
  clear hL
  gi_wp2_with (refine ⟨trivial, ?_⟩; gi_at_call 76; refine (callsIn_wide.2 (utf_All_calls A c0 L _ (Kd.C_alloc HR.out _) (by have := HZL.out; omega))).mono ?_; rintro e w1 ⟨rfl, ⟨v, hbox, hR⟩, hB⟩)
  simp only [World.size_alloc] at hbox hR hB ⊢
  obtain ⟨A', cap', rfl⟩ := Kd.R_slice hR
  have hR' := BytesAt.of_R hR
  have hbO : Boxed w1 w.heap.size 29 (.slice none 0 0) := (hB.block w.heap.size (by omega)).trans (heap_alloc_new w _)
  have hB0 : Below w.heap.size w w1 := ((Below.refl _ w).alloc (Nat.le_refl _) _).trans (hB.mono (by omega))
  have hbN : w1.cell? ⟨w.heap.size + 1, 0, none⟩ = some (.slice A' L.length cap') := (blk_cell hbox 0).trans rfl
  have hsz : w.heap.size + 1 < w1.heap.size := (Array.getElem?_eq_some_iff.1 hbox).1
  rw [HZL.out] at hbN hR'
  clear hR hbox
  have hBY : BytesAt (w.heap.size + 1) w1.heap.size w1 A' (zs bs) := by rw [HL.out]; exact hR'.1
  have hcap' := hR'.2
  clear hR'
  generalize hn0 : w1.heap.size = n0 at hsz hBY
  have HN0 := Aside0.mk hn0
  clear hn0
  refine wpIn_rangeFunc_ownG rfl (by omega) (gf := 84) (lb := #[.pointer (some ⟨w.heap.size + 1, 0, none⟩)]) rfl trivial (enters_of Try.func84 (by kernel_rfl) rfl)
    (all_stops HRD.out _ (by omega) (w.heap.size + 1) (w.heap.size + 1) n0 A' cap' bs (by omega) hcap' w1 ⟨Nat.le_refl _, hsz⟩ (by rw [HN0.out]; exact Nat.le_refl _) hbN hBY) Mid.trans
    (fun W l o o' hl h _ _ => Mid.putObj (by rw [← HN0.out]; exact hl) h) (Below.refl _ _) (fun _ => rfl)
    (fun pre W => (∃ v, Boxed W w.heap.size 29 v ∧ W.ownsRow n0 21 1 v pre.length (pre.map fun p => Value.int .i32 p.2) ∧ True) ∧ (Below w.heap.size w W ∧ n0 ≤ W.heap.size))
    (fun _ _ _ => False)
    (OwnFrom.and (Own.from (holdsRow_own n0 w.heap.size 29 21 1 (fun pre : List (Nat × Int) => pre.length) (fun pre => pre.map fun p => Value.int .i32 p.2) (fun _ _ => True)) _) (OwnFrom.and (ownFrom_below (Nat.le_refl _) (by rw [HN0.out]; omega)) (fun _ _ _ _ hs hg _ => Nat.le_trans hs hg.size)))
    (fun _ _ _ _ _ hs _ _ => hs)
    ⟨⟨_, hbO, World.ownsRow_nil _ _ _ _, trivial⟩, hB0, by rw [HN0.out]; exact Nat.le_refl _⟩
    (fun x => { tmps := #[.slice A L.length c0, undef, .slice none 0 0, .pointer (some ⟨w.heap.size, 0, none⟩), undef, .int .i32 x.2, .slice A L.length c0, .func (.func 84) #[] #[.pointer (some ⟨w.heap.size + 1, 0, none⟩)], .int .i64 (x.1 : Nat), .int .i32 x.2, undef, undef, undef, undef, undef], defers := [] }) ?assign ?body ?done ?stop
  case assign =>
    intro l x W K hK
    gi_wp2
    exact hK
  case body =>
    rintro l pre x W ⟨⟨v, hv, hrow, _⟩, hB, hn0W⟩ hlt
    have hplm := HPL.out
    have hc := hv.cell
    have hrow' := own_less hrow (show w.heap.size ≤ n0 by omega)
    gi_wp2_with (gi_at_builtin; refine wpListIn_append_own _ rfl _ _ 29 rfl n0 21 i0 (.int .i32 0) 1 4 Try.underlying29 hi hz0 hz1 hz2 rfl (by decide) _ _ _ rfl (hrow.alloc _) ⟨W.heap.size, 0, none⟩ 1 1 [.int .i32 x.2] rfl rfl (cell_one_new _ _ _) (by simp [Value.oneCell']) (by simp only [maxLen]; omega) (by omega) (by simp; omega) ?_; intro v' w2 hown' hgrow _; obtain ⟨g', cap2, rfl⟩ := ownsRow_succ hown'; obtain ⟨hv1, hv2, hr2, hk2, hb2⟩ := hv.appended (by decide) hrow' (by have := hB.size; omega) (Nat.le_refl _) (own_less hown' (show w.heap.size ≤ n0 by omega)) hgrow; have hc1 := hv1.cell; have hf1 := hv1.frozen)
    have hmid := mid_append (m0 := w.heap.size + 1) (B := w.heap.size) (e := 21) (v' := .slice (some ⟨g', 0, none⟩) (pre.length + 1) cap2) (by omega) hn0W hrow hgrow
    have hr3 := hown'.kept (grownBy_setCell' w2 w.heap.size (.slice (some ⟨g', 0, none⟩) (pre.length + 1) cap2)) (.inr (hv1.not_row (by decide) hown').symm)
    exact ⟨hk2.from _, hmid, ⟨_, hv2, by simpa using hr3, trivial⟩, hB.trans hb2, Nat.le_trans hn0W hb2.size⟩
  case done =>
    rintro D ys W hD rfl ⟨⟨v, hv, hrow, _⟩, hB, _⟩ hK
    have hc := hv.cell
    gi_wp2
    refine ⟨by simp, .inl ⟨_, _, rfl, run_takeDeferred hK, ?_⟩⟩
    refine ⟨_, results_tmp rfl _ _ _, v, rfl, ?_, hB.trans (belowK_b (w := w) (Nat.le_refl _) W D _ _ (by rw [HN0.out] at hD; omega) hK rfl rfl)⟩
    have := ownsRow_putObj (own_less hrow (show w.heap.size ≤ n0 by omega)) (.deferred none) hK rfl
    have e1 := pcs_runes _ bs 0 (Nat.le_refl _)
    rw [← e1]
    simpa [nums, List.map_map, Function.comp_def] using this
  case stop =>
    rintro D c pre W _ _ h _
    exact h.elim
end Go.Proofs.Ytilpbfbnnmclhaa.P
end
section
/-
  utf.Mend: a text of valid bytes alone.
-/
namespace Go.Proofs.Ytilpbfbnnmclhaa.P
open Go.RowKit Go.Proofs.YtilpbfbnnmclhaaW.PrintWords Go.Proofs.YtilpbfbnnmclhaaW.PrintLast Go.Proofs.YtilpbfbnnmclhaaW.PrintMore
set_option linter.unusedVariables false
set_option linter.unusedSimpArgs false

/-! ### plain -/
/-- what the loop of utf.Mend asks at the head of bytes, by the model's own decode -/
def badL (l : List UInt8) : Bool := decide ((Lib.decodeL l).1 = 65533) && (decide (l.length < 3) || decide (l.take 3 ≠ [239, 191, 189]))
theorem enc_fffd : Lib.encodeRune ((65533 : Nat) : Int) = [239, 191, 189] := by decide +kernel
theorem badL_of (l : List UInt8) (hne : l ≠ []) : badL l = decide ((rdL l).2.2 ≠ 0) := by
  have hd := rdL_decode l hne
  have hf := rdL_facts l hne
  unfold badL
  by_cases h : (rdL l).2.2 = 0
  · rw [if_pos h] at hd
    rw [hd]
    have hw := rdL_whole l h hne
    by_cases h1 : (rdL l).1 = 65533
    · rw [h1, enc_fffd] at hw
      have e3 : l.take 3 = [239, 191, 189] := by rw [hw]; simp
      have el : ¬ l.length < 3 := by rw [hw]; simp
      simp [h, h1, e3, el]
    · simp [h, h1]
  · rw [if_neg h] at hd
    rw [hd]
    have : ¬ (3 ≤ l.length ∧ l.take 3 = [239, 191, 189]) := by
      rintro ⟨h3, ht⟩
      apply h
      have e : l = [239, 191, 189] ++ l.drop 3 := by rw [← ht, List.take_append_drop]
      rw [e]
      unfold rdL
      simp only [List.cons_append, List.nil_append, List.getD_cons_zero, List.getD_cons_succ]
      unfold rdN
      rw [List.length_cons, List.length_cons, List.length_cons]
      simp
    by_cases h3 : l.length < 3
    · simp [h, h3]
    · have : l.take 3 ≠ [239, 191, 189] := fun e => this ⟨by omega, e⟩
      simp [h, this]
theorem valid_dec (l : List UInt8) (hne : l ≠ []) : valid l = if badL l = true then false else valid (l.drop (Lib.decodeL l).2) := by
  rw [valid_step l hne, badL_of l hne, rdL_decode l hne]
  by_cases h : (rdL l).2.2 = 0
  · simp [h]
  · simp [h]

def mendS (s : ByteArray) : ByteArray := if valid s.data.toList = true then s else Hc_text (runes s.data.toList)

def utf_Mend.f (s : ByteArray) : Option ByteArray := if s.size ≤ 35184372088831 then some (mendS s) else none

theorem take3_extract (s : ByteArray) (pos : Nat) : (s.extract pos (pos + 3)).toList = (s.data.toList.drop pos).take 3 := by
  rw [Lib.extract_toList]
  congr 1
  omega

set_option maxRecDepth 100000 in
set_option maxHeartbeats 4000000 in
theorem utf_Mend.calls (s : ByteArray) (r : ByteArray) (w : World) (h : utf_Mend.f s = some r) :
    Calls Try.prog 33 #[.string s] w fun e w' => e = .returned (.string r) ∧ Below w.heap.size w w' := by
  unfold utf_Mend.f at h
  by_cases hsz : s.size ≤ 35184372088831
  case neg => rw [if_neg hsz] at h; cases h
  rw [if_pos hsz] at h
  have hr := Option.some.inj h
  clear h
  have HR := Aside0.mk hr
  clear hr
  go_enter Try.func33, Try.ntmps33
  go_wp2
  go_loopw [3] (fun v wr => ∃ (pos : Nat) (b : Bool), v = .bool b ∧ pos ≤ s.size ∧ Aside0 ((b && valid (s.data.toList.drop pos)) = valid s.data.toList) ∧ wr.heap[w.heap.size]? = some (.stringIter s pos) ∧ Below w.heap.size w wr) (fun _ wr => s.size - wr.iterPos w.heap.size)
  case atStart =>
    refine ⟨0, true, rfl, Nat.zero_le _, ⟨by simp⟩, ?_, ?_⟩
    · have := World.iter_heap w s 0
      simpa using this
    · exact (Below.refl _ w).alloc (Nat.le_refl _) _
  case round =>
    obtain ⟨pos, b, rfl, hpl, hv, hit, hbw⟩ := hrel
    have hlt0 : w.heap.size < wr.heap.size := (Array.getElem?_eq_some_iff.1 hit).1
    by_cases hp : pos < s.size
    · have hnx : ∀ ty, (Instr.next (.pointer (some ⟨w.heap.size, 0, none⟩)) true ty).run Try.prog wr = _ := fun ty => Lib.run_next_any_at wr w.heap.size s pos ty hit hp
      have hd1 := decode_le s pos
      have hwd : 1 ≤ (Utf8.decode s pos).2 := by
        by_cases ha : (s[pos]'hp).toNat < 128
        · rw [decode_ascii s pos hp ha]
          exact Nat.le_refl _
        · exact (decode_high s pos hp (by omega)).2
      have hne : s.data.toList.drop pos ≠ [] := by
        intro e
        have := congrArg List.length e
        simp at this
        have h2 : s.data.size = s.size := rfl
        omega
      have hlen : (s.data.toList.drop pos).length = s.size - pos := by simp
      have hvd := valid_dec _ hne
      rw [Lib.decodeL_drop, List.drop_drop] at hvd
      have hbd : badL (s.data.toList.drop pos) = (decide ((Utf8.decode s pos).1 = 65533) && (decide (s.size - pos < 3) || decide ((s.extract pos (pos + 3)).toList ≠ [239, 191, 189]))) := by
        unfold badL
        rw [Lib.decodeL_drop, hlen, take3_extract]
      have hit2 := Lib.iterAt_heap wr w.heap.size s pos (pos + (Utf8.decode s pos).2) hit
      have hbw2 := Lib.below_iterAt hbw (k := w.heap.size) (by omega) s (pos + (Utf8.decode s pos).2)
      have hps : pos + (Utf8.decode s pos).2 ≤ s.size := by
        have h1 := rdL_decode _ hne
        rw [Lib.decodeL_drop] at h1
        have h2 := rdL_facts _ hne
        have h3 := h2.2.1
        rw [hlen] at h3
        rw [h1]
        split <;> simp only <;> omega
      rw [hbd] at hvd
      have HVD := Aside0.mk hvd
      clear hvd hbd hlen hne
      have hme : s.size - (wr.iterAt w.heap.size s (pos + (Utf8.decode s pos).2)).iterPos w.heap.size < s.size - wr.iterPos w.heap.size := by
        simp only [World.iterPos, hit2, hit]
        omega
      have HME := Aside0.mk hme
      clear hme hwd
      by_cases h1 : (Utf8.decode s pos).1 = 65533
      · by_cases h2 : s.size - pos < 3
        · have hw : IntKind.i64.wrap ((s.size : Int) - (pos : Int)) = (s.size : Int) - (pos : Int) := IntWalk.i64_in _ (by omega)
          have hlt3 : decide ((s.size : Int) - (pos : Int) < 3) = true := decide_eq_true (by omega)
          have hvf : valid (s.data.toList.drop pos) = false := by rw [HVD.out]; simp [h1, h2]
          have HVF := Aside0.mk hvf
          clear hvf
          go_wp2
          refine ⟨⟨_, false, rfl, hps, ⟨?_⟩, hit2, hbw2⟩, HME.out⟩
          rw [← hv.out, HVF.out]
          simp
        · have hw : IntKind.i64.wrap ((s.size : Int) - (pos : Int)) = (s.size : Int) - (pos : Int) := IntWalk.i64_in _ (by omega)
          have hlt3 : decide ((s.size : Int) - (pos : Int) < 3) = false := decide_eq_false (by omega)
          have hw3 : IntKind.i64.wrap ((pos : Int) + 3) = (pos : Int) + 3 := IntWalk.i64_in _ (by omega)
          have k1 : ((0 : Int) ≤ (pos : Int)) = True := eq_true (by omega)
          have k2 : ((pos : Int) ≤ (pos : Int) + 3) = True := eq_true (by omega)
          have k3 : ((pos : Int) + 3 ≤ (s.size : Int)) = True := eq_true (by omega)
          have k4 : ((pos : Int) + 3).toNat = pos + 3 := by omega
          by_cases h3 : (s.extract pos (pos + 3)).toList = [239, 191, 189]
          · have hvf : valid (s.data.toList.drop pos) = valid (s.data.toList.drop (pos + (Utf8.decode s pos).2)) := by rw [HVD.out]; simp [h1, h2, h3]
            have HVF := Aside0.mk hvf
            clear hvf
            go_wp2
            refine ⟨⟨_, b, rfl, hps, ⟨?_⟩, hit2, hbw2⟩, HME.out⟩
            rw [← hv.out, HVF.out]
          · have hvf : valid (s.data.toList.drop pos) = false := by rw [HVD.out]; simp [h1, h2, h3]
            have HVF := Aside0.mk hvf
            clear hvf
            have h3b : ((s.extract pos (pos + 3)).toList == [239, 191, 189]) = false := beq_eq_false_iff_ne.2 h3
            go_wp2
            refine ⟨⟨_, false, rfl, hps, ⟨?_⟩, hit2, hbw2⟩, HME.out⟩
            rw [← hv.out, HVF.out]
            simp
      · have hvf : valid (s.data.toList.drop pos) = valid (s.data.toList.drop (pos + (Utf8.decode s pos).2)) := by rw [HVD.out]; simp [h1]
        have HVF := Aside0.mk hvf
        clear hvf
        go_wp2
        refine ⟨⟨_, b, rfl, hps, ⟨?_⟩, hit2, hbw2⟩, HME.out⟩
        rw [← hv.out, HVF.out]
    · obtain rfl : pos = s.size := by omega
      have hnx : ∀ ty, (Instr.next (.pointer (some ⟨w.heap.size, 0, none⟩)) true ty).run Try.prog wr = _ := fun ty => Lib.run_next_end_at wr w.heap.size s s.size ty hit hp
      have hvb : b = valid s.data.toList := by
        have := hv.out
        rw [List.drop_eq_nil_of_le (by simp), valid_nil, Bool.and_true] at this
        exact this
      have HVB := Aside0.mk hvb
      clear hvb hv
      cases b with
      | true =>
        have hm := HR.out
        unfold mendS at hm
        rw [if_pos HVB.out.symm] at hm
        subst hm
        go_wp2
        go_ret
        exact ⟨rfl, hbw⟩
      | false =>
        have hnv : ¬ valid s.data.toList = true := by rw [← HVB.out]; simp
        have HM := HR.out
        unfold mendS at HM
        rw [if_neg hnv] at HM
        have HMR := Aside0.mk HM
        clear HM hnv
        have hcv := Lib.run_convert_string_bytes (P := Try.prog) wr 9 31 5 s Try.underlying9 Try.underlying31 Try.underlying5
        have hbb := Lib.bytesWorld_below wr 5 s
        have hbs := Lib.bytesWorld_size wr 5 s
        have hrd : Kd.C (Kd.int .u8) (Lib.bytesWorld wr 5 s) (some ⟨wr.heap.size, 0, none⟩) s.size (zs s.data.toList) :=
          Kd.C_of_reads (enc := Value.int .u8) (d := (0 : Int)) (h1 := fun _ => rfl) ⟨by simp [zs], by omega, fun _ => ⟨_, rfl, fun j hj => by
            rw [add_plain, Lib.bytesWorld_cell wr 5 s j hj]
            have := rd_zs s.data.toList j
            unfold rd at this
            rw [Int.toNat_natCast] at this
            rw [this]⟩⟩
        have hz : (zs s.data.toList).length = s.size := by simp [zs]
        rw [← hz] at hrd
        have hcall := utf_Runes_calls read_tells (some ⟨wr.heap.size, 0, none⟩) (Go.grownCap wr s.size 0 5) s.data.toList _ hrd (by simp; omega)
        rw [hz] at hcall
        have HC := Aside0.mk hcall
        have HBB := Aside0.mk hbb
        clear hcall hrd hz hbb
        go_wp2_with (go_at_call 56; refine HC.out.mono ?_; rintro e w2 ⟨v, rfl, hown, hb2⟩; have hcv2 := Hc_own_runes (P := Try.prog) (src := 29) (dst := 9) (e := 21) Try.underlying29 Try.underlying21 Try.underlying9 hown)
        go_ret
        have hm := HMR.out
        subst hm
        exact ⟨rfl, hbw.trans ((HBB.out.trans (hb2.mono (by omega))).mono (by omega))⟩
end Go.Proofs.Ytilpbfbnnmclhaa.P
end
section
/-
  charref.Decode: every reference replaced.
-/
namespace Go.Proofs.Ytilpbfbnnmclhaa.P
open Go.RowKit Go.Shelf Go.Proofs.YtilpbfbnnmclhaaW.PrintWords Go.Proofs.YtilpbfbnnmclhaaW.PrintLast Go.Proofs.YtilpbfbnnmclhaaW.PrintMore
set_option linter.unusedVariables false
set_option linter.unusedSimpArgs false

theorem refsGo_mono (attr : Bool) (s : ByteArray) : ∀ (k i : Nat), LeO (refsGo attr s k i) (refsGo attr s (k + 1) i)
  | 0, i => fun r h => by simp [refsGo] at h
  | k + 1, i => by
    have ih := refsGo_mono attr s k
    show LeO (refsGo attr s (k + 1) i) (refsGo attr s (k + 1 + 1) i)
    rw [refsGo, refsGo]
    refine LeO.ite ?_ (LeO.refl _)
    refine LeO.ite ?_ (ih _)
    refine LeO.bind (charref_next.mono _ _ _ _) (fun n => ?_)
    refine LeO.ite ?_ (LeO.refl _)
    refine LeO.ite (ih _) ?_
    exact LeO.bind (ih _) (fun _ => LeO.refl _)

def charref_Decode.f (k : Nat) (s : ByteArray) (attr : Bool) : Option ByteArray :=
  (utf_Mend.f s).bind fun m => (refsGo attr m k 0).bind fun refs =>
    if m.size ≤ 35184372088831 ∧ (repText id m.data.toList refs).length ≤ 140737488355328 then some ⟨(repText id m.data.toList refs).toArray⟩ else none
theorem charref_Decode.mono : ∀ s attr k, LeO (charref_Decode.f k s attr) (charref_Decode.f (k + 1) s attr) := by
  intro s attr k
  unfold charref_Decode.f
  refine LeO.bind (LeO.refl _) (fun m => ?_)
  exact LeO.bind (refsGo_mono attr m k 0) (fun _ => LeO.refl _)

theorem Decode1_calls (a : ByteArray) (n : Int) (b : Bool) (w : World) :
    Calls Try.prog 37 #[.agg #[.string a, .int .i64 n, .bool b]] w fun e w' => e = .returned (.string (id a)) ∧ Below w.heap.size w w' := by
  have hu60 := Try.underlying60
  have HB0 := Aside0.mk (Below.refl w.heap.size w)
  go_enter Try.func37, Try.ntmps37
  go_wp2_with (first | ((with_reducible refine gate_dst (N := 1) rfl ?_); refine box_event ?hg (N := 1) ?hd (cs := #[.string a, .int .i64 n, .bool b]) (t := 60) ?hr ?_; (case hd => rfl); (case hg => rfl); (case hr => first | (go_simp; done) | (go_simp; rfl)); intro gb hg w5 hbox hb; have HB5 := Aside0.mk (below_step HB0.out hb); have BK5 := Aside0.mk hbox; clear hb hbox hg; have hcg5 : w5.cell? ⟨gb, 0, none⟩ = some (.string a) := (blk_cell BK5.out 0).trans rfl))
  go_ret
  exact ⟨rfl, HB5.out⟩

set_option maxRecDepth 100000 in
set_option maxHeartbeats 2000000 in
theorem charref_Decode.calls (k : Nat) (s : ByteArray) (attr : Bool) (r : ByteArray) (w : World) (h : charref_Decode.f k s attr = some r) :
    Calls Try.prog 18 #[.string s, .bool attr] w fun e w' => e = .returned (.string r) ∧ Below w.heap.size w w' := by
  obtain ⟨m, hm, h⟩ := Option.bind_eq_some_iff.1 h
  obtain ⟨refs, hrefs, h⟩ := Option.bind_eq_some_iff.1 h
  by_cases hlen : m.size ≤ 35184372088831 ∧ (repText id m.data.toList refs).length ≤ 140737488355328
  case neg => rw [if_neg hlen] at h; cases h
  rw [if_pos hlen] at h
  have hr := Option.some.inj h
  clear h
  obtain ⟨hms, hlen⟩ := hlen
  have HM := Aside0.mk (utf_Mend.calls s m w hm)
  have HREP := Aside0.mk (fun W => D_replaced_calls k m attr id refs W hms hrefs hlen (fun x _ n b W => Decode1_calls x.2.1 n b W))
  have HR := Aside0.mk hr
  clear hm hrefs hlen hms hr
  go_enter Try.func18, Try.ntmps18
  go_wp2_with (first | (go_at_call 33; refine HM.out.mono ?_; rintro e w1 ⟨rfl, hb1⟩) | (go_at_call 32; refine (HREP.out w1).mono ?_; rintro e w2 ⟨rfl, hb2⟩))
  go_ret
  exact ⟨by rw [HR.out]; rfl, hb1.trans (hb2.mono hb1.size)⟩
end Go.Proofs.Ytilpbfbnnmclhaa.P
end
section
namespace Go.Proofs.Ytilpbfbnnmclhaa.P
open Go.RowKit Go.Proofs.YtilpbfbnnmclhaaW.PrintWords Go.Proofs.YtilpbfbnnmclhaaW.PrintLast Go.Proofs.YtilpbfbnnmclhaaW.PrintMore
attribute [local go_sem] max2_int min2_int max_two min_two max_three min_three max_four min_four   -- for this text's walks alone
set_option linter.unusedVariables false
set_option linter.unusedSimpArgs false

/-! ### sievelaw06_awake: function 11 -/
def sievelaw06_awake.f (k : Nat)  : Option (Bool) := (charref_Decode.f k (⟨#[97, 38, 99, 111, 112, 121, 61, 49, 38, 35, 120, 52, 49, 59]⟩ : ByteArray) true).bind fun t307 => (if t307.toList = ([97, 38, 99, 111, 112, 121, 61, 49, 65] : List UInt8) then ((charref_Decode.f k (⟨#[38, 97, 109, 112, 59, 38, 108, 116, 59]⟩ : ByteArray) false).bind fun t308 => (some (t308.toList == ([38, 60] : List UInt8)))) else (some false))
theorem sievelaw06_awake.mono : ∀ k, LeO (sievelaw06_awake.f k ) (sievelaw06_awake.f (k + 1) ) := by
  intro  k
  unfold sievelaw06_awake.f
  repeat' first
      | (with_reducible exact charref_Decode.mono _ _ _)
      | (with_reducible exact LeO.refl _)
      | (with_reducible exact LeO.none _)
      | (with_reducible refine LeO.ite ?_ ?_)
      | (with_reducible refine LeO.bind ?_ (fun _ => ?_))
      | exact charref_Decode.mono _ _ _
      | exact LeO.none _
      | refine LeO.ite ?_ ?_
      | refine LeO.bind ?_ (fun _ => ?_)
set_option maxHeartbeats 8000000 in
set_option maxRecDepth 100000 in
theorem sievelaw06_awake.calls (k : Nat)  (r : Bool) (w : World) (h : sievelaw06_awake.f k  = some r) :
    Calls Try.prog 11 #[] w fun e w' => e = .returned (.bool r) ∧ Below w.heap.size w w' := by
  have HB := Aside0.mk (Below.refl w.heap.size w)
  have H : ((charref_Decode.f k (⟨#[97, 38, 99, 111, 112, 121, 61, 49, 38, 35, 120, 52, 49, 59]⟩ : ByteArray) true).bind fun t307 => (if t307.toList = ([97, 38, 99, 111, 112, 121, 61, 49, 65] : List UInt8) then ((charref_Decode.f k (⟨#[38, 97, 109, 112, 59, 38, 108, 116, 59]⟩ : ByteArray) false).bind fun t308 => (some (t308.toList == ([38, 60] : List UInt8)))) else (some false))) = some r := h
  clear h
  replace H := Option.bind_eq_some_iff.mp H
  obtain ⟨t307, A10, H⟩ := H
  replace H : (if t307.toList = ([97, 38, 99, 111, 112, 121, 61, 49, 65] : List UInt8) then ((charref_Decode.f k (⟨#[38, 97, 109, 112, 59, 38, 108, 116, 59]⟩ : ByteArray) false).bind fun t308 => (some (t308.toList == ([38, 60] : List UInt8)))) else (some false)) = some r := H
  have A1 := Aside0.mk A10
  clear A10
  by_cases c2 : t307.toList = ([97, 38, 99, 111, 112, 121, 61, 49, 65] : List UInt8)
  · rw [if_pos c2] at H
    have c2b0 : (t307.toList == ([97, 38, 99, 111, 112, 121, 61, 49, 65] : List UInt8)) = true := beq_iff_eq.mpr c2
    have c2b1 : (t307.toList != ([97, 38, 99, 111, 112, 121, 61, 49, 65] : List UInt8)) = false := bne_eq_false_iff_eq.mpr c2
    clear c2
    replace H := Option.bind_eq_some_iff.mp H
    obtain ⟨t308, A30, H⟩ := H
    replace H : (some (t308.toList == ([38, 60] : List UInt8))) = some r := H
    have A3 := Aside0.mk A30
    clear A30
    obtain rfl := Option.some.inj H
    go_enter Try.func11, Try.ntmps11
    go_wp2_with (first | ((with_reducible refine gate_callee (f := 18) rfl ?_); refine goesL_ (some 1) rfl rfl Try.func18 (by kernel_rfl) rfl #[.string (⟨#[97, 38, 99, 111, 112, 121, 61, 49, 38, 35, 120, 52, 49, 59]⟩ : ByteArray), .bool true] rfl (by (try simp only [List.map_toArray, List.map_cons, List.map_nil]); first | done | rfl | (simp only [List.length_drop, List.length_take]; rfl) | (simp [*] <;> rfl)) ?_; (with_reducible refine (charref_Decode.calls k (⟨#[97, 38, 99, 111, 112, 121, 61, 49, 38, 35, 120, 52, 49, 59]⟩ : ByteArray) true t307 _ A1.out).mono ?_); rintro e w4 ⟨rfl, hb⟩; refine ⟨_, rfl, ?_⟩; have n0_ := Aside0.mk (below_step (by repeat (first | (with_reducible first | exact HB.out | apply below_alloc | apply pw_below_drewN | apply below_drew1) | exact HB.out)) hb); clear HB; have HB := n0_; clear n0_; (try clear hb); (try clear hb2); (try clear hk); (try clear hi)) | (go_at_call 18; (with_reducible refine (charref_Decode.calls k (⟨#[38, 97, 109, 112, 59, 38, 108, 116, 59]⟩ : ByteArray) false t308 _ A3.out).mono ?_); rintro e w5 ⟨rfl, hb⟩; have n0_ := Aside0.mk (below_step (by repeat (first | (with_reducible first | exact HB.out | apply below_alloc | apply pw_below_drewN | apply below_drew1) | exact HB.out)) hb); clear HB; have HB := n0_; clear n0_; (try clear hb); (try clear hb2); (try clear hk); (try clear hi)))
    go_ret
    exact ⟨by first | rfl | (simp [errW_none, errW_some] <;> rfl) | (simp [*, errW_none, errW_some] <;> rfl), by repeat (first | (with_reducible first | exact HB.out | apply below_alloc | apply pw_below_drewN | apply below_drew1) | exact HB.out)⟩
  · rw [if_neg c2] at H
    have c2b0 : (t307.toList == ([97, 38, 99, 111, 112, 121, 61, 49, 65] : List UInt8)) = false := beq_eq_false_iff_ne.mpr c2
    have c2b1 : (t307.toList != ([97, 38, 99, 111, 112, 121, 61, 49, 65] : List UInt8)) = true := bne_iff_ne.mpr c2
    obtain rfl := Option.some.inj H
    go_enter Try.func11, Try.ntmps11
    go_wp2_with (first | ((with_reducible refine gate_callee (f := 18) rfl ?_); refine goesL_ (some 1) rfl rfl Try.func18 (by kernel_rfl) rfl #[.string (⟨#[97, 38, 99, 111, 112, 121, 61, 49, 38, 35, 120, 52, 49, 59]⟩ : ByteArray), .bool true] rfl (by (try simp only [List.map_toArray, List.map_cons, List.map_nil]); first | done | rfl | (simp only [List.length_drop, List.length_take]; rfl) | (simp [*] <;> rfl)) ?_; (with_reducible refine (charref_Decode.calls k (⟨#[97, 38, 99, 111, 112, 121, 61, 49, 38, 35, 120, 52, 49, 59]⟩ : ByteArray) true t307 _ A1.out).mono ?_); rintro e w6 ⟨rfl, hb⟩; refine ⟨_, rfl, ?_⟩; have n0_ := Aside0.mk (below_step (by repeat (first | (with_reducible first | exact HB.out | apply below_alloc | apply pw_below_drewN | apply below_drew1) | exact HB.out)) hb); clear HB; have HB := n0_; clear n0_; (try clear hb); (try clear hb2); (try clear hk); (try clear hi)))
    go_ret
    exact ⟨by first | rfl | (simp [errW_none, errW_some] <;> rfl) | (simp [*, errW_none, errW_some] <;> rfl), by repeat (first | (with_reducible first | exact HB.out | apply below_alloc | apply pw_below_drewN | apply below_drew1) | exact HB.out)⟩

end Go.Proofs.Ytilpbfbnnmclhaa.P
end
section
namespace Go.Proofs.Ytilpbfbnnmclhaa.P
open Go.RowKit Go.Proofs.YtilpbfbnnmclhaaW.PrintWords Go.Proofs.YtilpbfbnnmclhaaW.PrintLast Go.Proofs.YtilpbfbnnmclhaaW.PrintMore
attribute [local go_sem] max2_int min2_int max_two min_two max_three min_three max_four min_four   -- for this text's walks alone
set_option linter.unusedVariables false
set_option linter.unusedSimpArgs false

/-! ### sievelaw06_CharrefNexts: function 4 -/
def sievelaw06_CharrefNexts.f (k : Nat) (a0 : ByteArray) (a1 : Bool) (a2 : Bool) : Option (Bool) := (charref_Next.f k a0 a1 a2).bind fun bt312 => ((sieveref01_Mend.f a0).bind fun t315 => ((sieveref06_Next.f k t315 a1 a2).bind fun bt316 => (if bt312.1.toList = bt316.1.toList then (if bt312.2.1 = bt316.2.1 then (if (bt312.2.2 == bt316.2.2) = true then ((sievelaw06_awake.f k).bind fun t319 => (some t319)) else (some false)) else (some false)) else (some false))))
theorem sievelaw06_CharrefNexts.mono : ∀ a0 a1 a2 k, LeO (sievelaw06_CharrefNexts.f k a0 a1 a2) (sievelaw06_CharrefNexts.f (k + 1) a0 a1 a2) := by
  intro a0 a1 a2 k
  unfold sievelaw06_CharrefNexts.f
  repeat' first
      | (with_reducible exact charref_Next.mono _ _ _ _)
      | (with_reducible exact sievelaw06_awake.mono _)
      | (with_reducible exact sieveref06_Next.mono _ _ _ _)
      | (with_reducible exact LeO.refl _)
      | (with_reducible exact LeO.none _)
      | (with_reducible refine LeO.ite ?_ ?_)
      | (with_reducible refine LeO.bind ?_ (fun _ => ?_))
      | exact charref_Next.mono _ _ _ _
      | exact sievelaw06_awake.mono _
      | exact sieveref06_Next.mono _ _ _ _
      | exact LeO.none _
      | refine LeO.ite ?_ ?_
      | refine LeO.bind ?_ (fun _ => ?_)
set_option maxHeartbeats 8000000 in
set_option maxRecDepth 100000 in
theorem sievelaw06_CharrefNexts.calls (k : Nat) (a0 : ByteArray) (a1 : Bool) (a2 : Bool) (r : Bool) (w : World) (h : sievelaw06_CharrefNexts.f k a0 a1 a2 = some r) :
    Calls Try.prog 4 #[.string a0, .bool a1, .bool a2] w fun e w' => e = .returned (.bool r) ∧ Below w.heap.size w w' := by
  have HB := Aside0.mk (Below.refl w.heap.size w)
  have H : ((charref_Next.f k a0 a1 a2).bind fun bt312 => ((sieveref01_Mend.f a0).bind fun t315 => ((sieveref06_Next.f k t315 a1 a2).bind fun bt316 => (if bt312.1.toList = bt316.1.toList then (if bt312.2.1 = bt316.2.1 then (if (bt312.2.2 == bt316.2.2) = true then ((sievelaw06_awake.f k).bind fun t319 => (some t319)) else (some false)) else (some false)) else (some false))))) = some r := h
  clear h
  replace H := Option.bind_eq_some_iff.mp H
  obtain ⟨⟨t312, t313, t314⟩, A40, H⟩ := H
  replace H : ((sieveref01_Mend.f a0).bind fun t315 => ((sieveref06_Next.f k t315 a1 a2).bind fun bt316 => (if t312.toList = bt316.1.toList then (if t313 = bt316.2.1 then (if (t314 == bt316.2.2) = true then ((sievelaw06_awake.f k).bind fun t319 => (some t319)) else (some false)) else (some false)) else (some false)))) = some r := H
  have A4 := Aside0.mk A40
  clear A40
  replace H := Option.bind_eq_some_iff.mp H
  obtain ⟨t315, A50, H⟩ := H
  replace H : ((sieveref06_Next.f k t315 a1 a2).bind fun bt316 => (if t312.toList = bt316.1.toList then (if t313 = bt316.2.1 then (if (t314 == bt316.2.2) = true then ((sievelaw06_awake.f k).bind fun t319 => (some t319)) else (some false)) else (some false)) else (some false))) = some r := H
  have A5 := Aside0.mk A50
  clear A50
  replace H := Option.bind_eq_some_iff.mp H
  obtain ⟨⟨t316, t317, t318⟩, A60, H⟩ := H
  replace H : (if t312.toList = t316.toList then (if t313 = t317 then (if (t314 == t318) = true then ((sievelaw06_awake.f k).bind fun t319 => (some t319)) else (some false)) else (some false)) else (some false)) = some r := H
  have A6 := Aside0.mk A60
  clear A60
  by_cases c7 : t312.toList = t316.toList
  · rw [if_pos c7] at H
    have c7b0 : (t312.toList == t316.toList) = true := beq_iff_eq.mpr c7
    have c7b1 : (t312.toList != t316.toList) = false := bne_eq_false_iff_eq.mpr c7
    clear c7
    by_cases c8 : t313 = t317
    · rw [if_pos c8] at H
      have c8b0 : (t313 == t317) = true := beq_iff_eq.mpr c8
      have c8b1 : (t313 != t317) = false := bne_eq_false_iff_eq.mpr c8
      clear c8
      by_cases c9 : (t314 == t318) = true
      · rw [if_pos c9] at H
        have c9b0 : (t314 == t318) = true := c9
        (try (have c9b1 : decide (t314 = t318) = true := by simpa using c9))
        (try (have c9b2 : (t314 == t318) = true := by simpa using c9))
        clear c9
        replace H := Option.bind_eq_some_iff.mp H
        obtain ⟨t319, A100, H⟩ := H
        replace H : (some t319) = some r := H
        have A10 := Aside0.mk A100
        clear A100
        obtain rfl := Option.some.inj H
        go_enter Try.func4, Try.ntmps4
        go_wp2_with (first | ((with_reducible refine gate_callee (f := 12) rfl ?_); refine goesL_ (some 17) rfl rfl Try.func12 (by kernel_rfl) rfl #[.string a0, .bool a1, .bool a2] rfl (by (try simp only [List.map_toArray, List.map_cons, List.map_nil]); first | done | rfl | (simp only [List.length_drop, List.length_take]; rfl) | (simp [*] <;> rfl)) ?_; (with_reducible refine (charref_Next.calls k a0 a1 a2 t312 t313 t314 _ A4.out).mono ?_); rintro e w11 ⟨rfl, hb⟩; refine ⟨_, rfl, ?_⟩; have n0_ := Aside0.mk (below_step (by repeat (first | (with_reducible first | exact HB.out | apply below_alloc | apply pw_below_drewN | apply below_drew1) | exact HB.out)) hb); clear HB; have HB := n0_; clear n0_; (try clear hb); (try clear hb2); (try clear hk); (try clear hi)) | ((with_reducible refine gate_callee (f := 14) rfl ?_); refine goesL_ (some 23) rfl rfl Try.func14 (by kernel_rfl) rfl #[.string a0] rfl (by (try simp only [List.map_toArray, List.map_cons, List.map_nil]); first | done | rfl | (simp only [List.length_drop, List.length_take]; rfl) | (simp [*] <;> rfl)) ?_; (with_reducible refine (sieveref01_Mend.calls a0 t315 _ A5.out).mono ?_); rintro e w12 ⟨rfl, hb⟩; refine ⟨_, rfl, ?_⟩; have n0_ := Aside0.mk (below_step (by repeat (first | (with_reducible first | exact HB.out | apply below_alloc | apply pw_below_drewN | apply below_drew1) | exact HB.out)) hb); clear HB; have HB := n0_; clear n0_; (try clear hb); (try clear hb2); (try clear hk); (try clear hi)) | ((with_reducible refine gate_callee (f := 13) rfl ?_); refine goesL_ (some 26) rfl rfl Try.func13 (by kernel_rfl) rfl #[.string t315, .bool a1, .bool a2] rfl (by (try simp only [List.map_toArray, List.map_cons, List.map_nil]); first | done | rfl | (simp only [List.length_drop, List.length_take]; rfl) | (simp [*] <;> rfl)) ?_; (with_reducible refine (sieveref06_Next.calls k t315 a1 a2 t316 t317 t318 _ A6.out).mono ?_); rintro e w13 ⟨rfl, hb⟩; refine ⟨_, rfl, ?_⟩; have n0_ := Aside0.mk (below_step (by repeat (first | (with_reducible first | exact HB.out | apply below_alloc | apply pw_below_drewN | apply below_drew1) | exact HB.out)) hb); clear HB; have HB := n0_; clear n0_; (try clear hb); (try clear hb2); (try clear hk); (try clear hi)) | (go_at_call 11; (with_reducible refine (sievelaw06_awake.calls k  t319 _ A10.out).mono ?_); rintro e w14 ⟨rfl, hb⟩; have n0_ := Aside0.mk (below_step (by repeat (first | (with_reducible first | exact HB.out | apply below_alloc | apply pw_below_drewN | apply below_drew1) | exact HB.out)) hb); clear HB; have HB := n0_; clear n0_; (try clear hb); (try clear hb2); (try clear hk); (try clear hi)))
        go_ret
        exact ⟨by first | rfl | (simp [errW_none, errW_some] <;> rfl) | (simp [*, errW_none, errW_some] <;> rfl), by repeat (first | (with_reducible first | exact HB.out | apply below_alloc | apply pw_below_drewN | apply below_drew1) | exact HB.out)⟩
      · rw [if_neg c9] at H
        have c9b0 : (t314 == t318) = false := by simpa using c9
        (try (have c9b1 : decide (t314 = t318) = false := by simpa using c9))
        (try (have c9b2 : (t314 == t318) = false := by simpa using c9))
        (try (have c9b3 : ¬ (t314 = t318) := by simpa using c9))
        clear c9
        obtain rfl := Option.some.inj H
        go_enter Try.func4, Try.ntmps4
        go_wp2_with (first | ((with_reducible refine gate_callee (f := 12) rfl ?_); refine goesL_ (some 17) rfl rfl Try.func12 (by kernel_rfl) rfl #[.string a0, .bool a1, .bool a2] rfl (by (try simp only [List.map_toArray, List.map_cons, List.map_nil]); first | done | rfl | (simp only [List.length_drop, List.length_take]; rfl) | (simp [*] <;> rfl)) ?_; (with_reducible refine (charref_Next.calls k a0 a1 a2 t312 t313 t314 _ A4.out).mono ?_); rintro e w15 ⟨rfl, hb⟩; refine ⟨_, rfl, ?_⟩; have n0_ := Aside0.mk (below_step (by repeat (first | (with_reducible first | exact HB.out | apply below_alloc | apply pw_below_drewN | apply below_drew1) | exact HB.out)) hb); clear HB; have HB := n0_; clear n0_; (try clear hb); (try clear hb2); (try clear hk); (try clear hi)) | ((with_reducible refine gate_callee (f := 14) rfl ?_); refine goesL_ (some 23) rfl rfl Try.func14 (by kernel_rfl) rfl #[.string a0] rfl (by (try simp only [List.map_toArray, List.map_cons, List.map_nil]); first | done | rfl | (simp only [List.length_drop, List.length_take]; rfl) | (simp [*] <;> rfl)) ?_; (with_reducible refine (sieveref01_Mend.calls a0 t315 _ A5.out).mono ?_); rintro e w16 ⟨rfl, hb⟩; refine ⟨_, rfl, ?_⟩; have n0_ := Aside0.mk (below_step (by repeat (first | (with_reducible first | exact HB.out | apply below_alloc | apply pw_below_drewN | apply below_drew1) | exact HB.out)) hb); clear HB; have HB := n0_; clear n0_; (try clear hb); (try clear hb2); (try clear hk); (try clear hi)) | ((with_reducible refine gate_callee (f := 13) rfl ?_); refine goesL_ (some 26) rfl rfl Try.func13 (by kernel_rfl) rfl #[.string t315, .bool a1, .bool a2] rfl (by (try simp only [List.map_toArray, List.map_cons, List.map_nil]); first | done | rfl | (simp only [List.length_drop, List.length_take]; rfl) | (simp [*] <;> rfl)) ?_; (with_reducible refine (sieveref06_Next.calls k t315 a1 a2 t316 t317 t318 _ A6.out).mono ?_); rintro e w17 ⟨rfl, hb⟩; refine ⟨_, rfl, ?_⟩; have n0_ := Aside0.mk (below_step (by repeat (first | (with_reducible first | exact HB.out | apply below_alloc | apply pw_below_drewN | apply below_drew1) | exact HB.out)) hb); clear HB; have HB := n0_; clear n0_; (try clear hb); (try clear hb2); (try clear hk); (try clear hi)))
        go_ret
        exact ⟨by first | rfl | (simp [errW_none, errW_some] <;> rfl) | (simp [*, errW_none, errW_some] <;> rfl), by repeat (first | (with_reducible first | exact HB.out | apply below_alloc | apply pw_below_drewN | apply below_drew1) | exact HB.out)⟩
    · rw [if_neg c8] at H
      have c8b0 : (t313 == t317) = false := beq_eq_false_iff_ne.mpr c8
      have c8b1 : (t313 != t317) = true := bne_iff_ne.mpr c8
      obtain rfl := Option.some.inj H
      go_enter Try.func4, Try.ntmps4
      go_wp2_with (first | ((with_reducible refine gate_callee (f := 12) rfl ?_); refine goesL_ (some 17) rfl rfl Try.func12 (by kernel_rfl) rfl #[.string a0, .bool a1, .bool a2] rfl (by (try simp only [List.map_toArray, List.map_cons, List.map_nil]); first | done | rfl | (simp only [List.length_drop, List.length_take]; rfl) | (simp [*] <;> rfl)) ?_; (with_reducible refine (charref_Next.calls k a0 a1 a2 t312 t313 t314 _ A4.out).mono ?_); rintro e w18 ⟨rfl, hb⟩; refine ⟨_, rfl, ?_⟩; have n0_ := Aside0.mk (below_step (by repeat (first | (with_reducible first | exact HB.out | apply below_alloc | apply pw_below_drewN | apply below_drew1) | exact HB.out)) hb); clear HB; have HB := n0_; clear n0_; (try clear hb); (try clear hb2); (try clear hk); (try clear hi)) | ((with_reducible refine gate_callee (f := 14) rfl ?_); refine goesL_ (some 23) rfl rfl Try.func14 (by kernel_rfl) rfl #[.string a0] rfl (by (try simp only [List.map_toArray, List.map_cons, List.map_nil]); first | done | rfl | (simp only [List.length_drop, List.length_take]; rfl) | (simp [*] <;> rfl)) ?_; (with_reducible refine (sieveref01_Mend.calls a0 t315 _ A5.out).mono ?_); rintro e w19 ⟨rfl, hb⟩; refine ⟨_, rfl, ?_⟩; have n0_ := Aside0.mk (below_step (by repeat (first | (with_reducible first | exact HB.out | apply below_alloc | apply pw_below_drewN | apply below_drew1) | exact HB.out)) hb); clear HB; have HB := n0_; clear n0_; (try clear hb); (try clear hb2); (try clear hk); (try clear hi)) | ((with_reducible refine gate_callee (f := 13) rfl ?_); refine goesL_ (some 26) rfl rfl Try.func13 (by kernel_rfl) rfl #[.string t315, .bool a1, .bool a2] rfl (by (try simp only [List.map_toArray, List.map_cons, List.map_nil]); first | done | rfl | (simp only [List.length_drop, List.length_take]; rfl) | (simp [*] <;> rfl)) ?_; (with_reducible refine (sieveref06_Next.calls k t315 a1 a2 t316 t317 t318 _ A6.out).mono ?_); rintro e w20 ⟨rfl, hb⟩; refine ⟨_, rfl, ?_⟩; have n0_ := Aside0.mk (below_step (by repeat (first | (with_reducible first | exact HB.out | apply below_alloc | apply pw_below_drewN | apply below_drew1) | exact HB.out)) hb); clear HB; have HB := n0_; clear n0_; (try clear hb); (try clear hb2); (try clear hk); (try clear hi)))
      go_ret
      exact ⟨by first | rfl | (simp [errW_none, errW_some] <;> rfl) | (simp [*, errW_none, errW_some] <;> rfl), by repeat (first | (with_reducible first | exact HB.out | apply below_alloc | apply pw_below_drewN | apply below_drew1) | exact HB.out)⟩
  · rw [if_neg c7] at H
    have c7b0 : (t312.toList == t316.toList) = false := beq_eq_false_iff_ne.mpr c7
    have c7b1 : (t312.toList != t316.toList) = true := bne_iff_ne.mpr c7
    obtain rfl := Option.some.inj H
    go_enter Try.func4, Try.ntmps4
    go_wp2_with (first | ((with_reducible refine gate_callee (f := 12) rfl ?_); refine goesL_ (some 17) rfl rfl Try.func12 (by kernel_rfl) rfl #[.string a0, .bool a1, .bool a2] rfl (by (try simp only [List.map_toArray, List.map_cons, List.map_nil]); first | done | rfl | (simp only [List.length_drop, List.length_take]; rfl) | (simp [*] <;> rfl)) ?_; (with_reducible refine (charref_Next.calls k a0 a1 a2 t312 t313 t314 _ A4.out).mono ?_); rintro e w21 ⟨rfl, hb⟩; refine ⟨_, rfl, ?_⟩; have n0_ := Aside0.mk (below_step (by repeat (first | (with_reducible first | exact HB.out | apply below_alloc | apply pw_below_drewN | apply below_drew1) | exact HB.out)) hb); clear HB; have HB := n0_; clear n0_; (try clear hb); (try clear hb2); (try clear hk); (try clear hi)) | ((with_reducible refine gate_callee (f := 14) rfl ?_); refine goesL_ (some 23) rfl rfl Try.func14 (by kernel_rfl) rfl #[.string a0] rfl (by (try simp only [List.map_toArray, List.map_cons, List.map_nil]); first | done | rfl | (simp only [List.length_drop, List.length_take]; rfl) | (simp [*] <;> rfl)) ?_; (with_reducible refine (sieveref01_Mend.calls a0 t315 _ A5.out).mono ?_); rintro e w22 ⟨rfl, hb⟩; refine ⟨_, rfl, ?_⟩; have n0_ := Aside0.mk (below_step (by repeat (first | (with_reducible first | exact HB.out | apply below_alloc | apply pw_below_drewN | apply below_drew1) | exact HB.out)) hb); clear HB; have HB := n0_; clear n0_; (try clear hb); (try clear hb2); (try clear hk); (try clear hi)) | ((with_reducible refine gate_callee (f := 13) rfl ?_); refine goesL_ (some 26) rfl rfl Try.func13 (by kernel_rfl) rfl #[.string t315, .bool a1, .bool a2] rfl (by (try simp only [List.map_toArray, List.map_cons, List.map_nil]); first | done | rfl | (simp only [List.length_drop, List.length_take]; rfl) | (simp [*] <;> rfl)) ?_; (with_reducible refine (sieveref06_Next.calls k t315 a1 a2 t316 t317 t318 _ A6.out).mono ?_); rintro e w23 ⟨rfl, hb⟩; refine ⟨_, rfl, ?_⟩; have n0_ := Aside0.mk (below_step (by repeat (first | (with_reducible first | exact HB.out | apply below_alloc | apply pw_below_drewN | apply below_drew1) | exact HB.out)) hb); clear HB; have HB := n0_; clear n0_; (try clear hb); (try clear hb2); (try clear hk); (try clear hi)))
    go_ret
    exact ⟨by first | rfl | (simp [errW_none, errW_some] <;> rfl) | (simp [*, errW_none, errW_some] <;> rfl), by repeat (first | (with_reducible first | exact HB.out | apply below_alloc | apply pw_below_drewN | apply below_drew1) | exact HB.out)⟩

/-- THE ONE PURE STATEMENT of sievelaw06_CharrefNexts: yours. -/
def sievelaw06_CharrefNexts.Pure : Prop := ∀ (a0 : ByteArray) (a1 : Bool) (a2 : Bool), a0.size ≤ 140737488351232 → ∃ k, sievelaw06_CharrefNexts.f k a0 a1 a2 = some true
theorem sievelaw06_CharrefNexts.walk (P : sievelaw06_CharrefNexts.Pure) (a0 : ByteArray) (a1 : Bool) (a2 : Bool) (w : World) (w0 : a0.size ≤ 140737488351232) :
    Calls Try.prog 4 #[.string a0, .bool a1, .bool a2] w fun e w' => e = .returned (.bool true) ∧ Below w.heap.size w w' := by
  obtain ⟨k, h⟩ := P a0 a1 a2 w0
  refine (sievelaw06_CharrefNexts.calls k a0 a1 a2 true w h).mono ?_
  rintro e w' ⟨rfl, hd⟩
  exact ⟨rfl, hd⟩

end Go.Proofs.Ytilpbfbnnmclhaa.P
end
section
/-
  CharrefNexts in plain Lean: what every & is, is the same by the program and by the document.
-/
namespace Go.Proofs.Ytilpbfbnnmclhaa.P
open Go.RowKit Go.Proofs.YtilpbfbnnmclhaaW.PrintWords Go.Proofs.YtilpbfbnnmclhaaW.PrintLast Go.Proofs.YtilpbfbnnmclhaaW.PrintMore
set_option linter.unusedVariables false
set_option linter.unusedSimpArgs false

theorem awake_f : sievelaw06_awake.f 400 = some true := by decide +kernel
theorem mendL_len (l : List UInt8) : (mendL l).length ≤ 4 * l.length := by
  unfold mendL
  have h1 := text_len (runes l)
  have h2 := runes_len _ l (Nat.le_refl _)
  omega
theorem Next_f (k : Nat) (s : ByteArray) (attr e : Bool) (hs : s.size ≤ 35184372088831) (hk : s.size + 610 ≤ k) : charref_Next.f k s attr e = some (nextL s.data.toList attr e) := by
  unfold charref_Next.f
  rw [next_f k s attr e hs hk, Option.bind_some, nextP_eq]
theorem CharrefNexts_walk (a0 : ByteArray) (a1 a2 : Bool) (h : a0.size ≤ 1048576) (w : World) :
    Calls Try.prog 4 #[.string a0, .bool a1, .bool a2] w fun e w' => e = .returned (.bool true) ∧ Below w.heap.size w w' := by
  have hl : a0.data.toList.length = a0.size := by simp
  have hm := mendL_len a0.data.toList
  have hms : (⟨(mendL a0.data.toList).toArray⟩ : ByteArray).size = (mendL a0.data.toList).length := by simp [ByteArray.size]
  have key : sievelaw06_CharrefNexts.f 10000000 a0 a1 a2 = some true := by
    unfold sievelaw06_CharrefNexts.f sieveref01_Mend.f
    rw [Next_f 10000000 a0 a1 a2 (by omega) (by omega), Option.bind_some, if_pos (by omega), Option.bind_some, rnext_f 10000000 _ a1 a2 (by omega) (by omega), Option.bind_some, nextL_agr (agr_mend a0.data.toList)]
    have e : (⟨(mendL a0.data.toList).toArray⟩ : ByteArray).data.toList = mendL a0.data.toList := rfl
    rw [e, if_pos rfl, if_pos rfl, if_pos (by simp), at_rounds sievelaw06_awake.mono (by omega) awake_f]
    rfl
  refine (sievelaw06_CharrefNexts.calls 10000000 a0 a1 a2 true w key).mono ?_
  rintro e w' ⟨rfl, hd⟩
  exact ⟨rfl, hd⟩
end Go.Proofs.Ytilpbfbnnmclhaa.P
end
section
namespace Go.Proofs.Ytilpbfbnnmclhaa.charrefNexts
open Go.ChangeShapes Go.WideShapes Go.ChangeAt Go.RowKit
open Go.ChangeMaps (open_string shut_string)
set_option linter.unusedVariables false
theorem own : ownKnob Try.prog.godebug = none := by kernel_rfl
theorem short {H : Type} (s0 : ByteArray) (d1 : DataW H) (d2 : DataW H) (hk : Rows.uptoSmall H [DataW.lit (H := H) (.string s0.data.toList), d1, d2] = true) : s0.size ≤ 1048576 := by
  have h : Rows.uptoBulkAll [DataW.lit (H := H) (.string s0.data.toList), d1, d2] ≤ 1048576 := of_decide_eq_true hk
  simp only [Rows.uptoBulkAll, Rows.uptoBulk] at h
  have e0 : s0.data.toList.length = s0.size := by simp
  omega
set_option maxRecDepth 100000 in
theorem contract (H : Type) (enc : TypeId × Value → H) (W : World) (base : Nat) (args : Array Value) (ds gs : List (DataW H)) (before : List MemPlace)
    (hval : ∀ (j : Nat) t v, Try.f4.params[j]? = some t → args[j]? = some v → Value.okWide Try.prog W .any base t v)
    (hW : DataW.Whole enc Try.prog Try.f4.params.toList Rows.charrefNextsSpec.vars false W args.toList ds gs before) (hk : Rows.uptoSmall H (ds ++ gs) = true) :
    Calls Try.prog 4 args W fun e W' => ∃ v, e = .returned v ∧ Rows.charrefNextsSpec.post enc Try.prog Try.f4 false true false false W args v W' := by
  have hW' := hW
  obtain ⟨p, q, hA0, hV, rfl, hfz, hnd⟩ := hW
  have hA : DataW.TrodAll enc Try.prog W 0 (fun _ => true) true Try.f4.params.toList args.toList ds p := hA0
  rw [Try.params4] at hA hval
  obtain ⟨v0, vs0, d0, ds0, p0, q0, hargs, rfl, rfl, h0, r0⟩ := trodAll_cons hA
  obtain ⟨v1, vs1, d1, ds1, p1, q1, rfl, rfl, rfl, h1, r1⟩ := trodAll_cons r0
  obtain ⟨v2, vs2, d2, ds2, p2, q2, rfl, rfl, rfl, h2, r2⟩ := trodAll_cons r1
  obtain ⟨rfl, rfl, rfl⟩ := trodAll_nil r2
  obtain rfl : args = #[v0, v1, v2] := by cases args; simp_all
  obtain ⟨rfl, rfl⟩ := trodVars_none hV
  obtain ⟨a0, rfl, rfl, rfl, y0⟩ := open_string Try.underlying9 (hval 0 9 v0 rfl rfl) h0
  obtain ⟨a1, rfl, rfl, rfl⟩ := open_bool Try.underlying4 (hval 1 4 v1 rfl rfl) h1
  obtain ⟨a2, rfl, rfl, rfl⟩ := open_bool Try.underlying4 (hval 2 4 v2 rfl rfl) h2
  clear hA0
  simp only [List.append_nil] at hk
  have hs := short a0 _ _ hk
  refine (P.CharrefNexts_walk a0 a1 a2 hs W).mono fun e W' ⟨he, bel⟩ => ?_
  subst he
  exact ⟨_, rfl, _, _, _, [], _, [], hW', trodAll_mk1 (shut_bool Try.underlying4 _), (trodAll_cons_mk (shut_string Try.underlying9 y0) (trodAll_cons_mk (shut_bool Try.underlying4 _) (trodAll_cons_mk (shut_bool Try.underlying4 _) trodAll_mk0))), rfl, bel.frame _, fun h => by cases h⟩
set_option maxRecDepth 100000 in
theorem lifted (os : Os) (started : os.Started) (H : Type) (enc : TypeId × Value → H) (F : Stop.Interp) :
    ReturnsInHanded {} Try.checked os 4 .any ((Rows.OpenSpec.upto Rows.charrefNextsSpec).pre6 enc Try.prog Try.f4 Rows.charrefNextsUptoRow.domain false) (((Rows.OpenSpec.upto Rows.charrefNextsSpec).at F).post enc Try.prog Try.f4 false true false false) := by
  refine returnsInHanded_of_cond (C := Try.checked) (s := Rows.OpenSpec.upto Rows.charrefNextsSpec) (k := Rows.uptoSmall) rfl own started (by kernel_rfl) Try.func4
    (OpenSpec.witness (enc := enc) (C := Try.checked) (s := Rows.OpenSpec.upto Rows.charrefNextsSpec) (k := Rows.uptoSmall) rfl false ⟨#[], #[.string ByteArray.empty, .bool false, .bool false], []⟩ 8 (by kernel_rfl) (by kernel_rfl) (by kernel_rfl)
      (x := ([.lit (.string []), .lit (.bool false), .lit (.bool false)], [], [])) (by kernel_rfl) rfl (by kernel_rfl)) ?_
  intro W base args ds gs before hval hW _ hk _
  exact contract H enc W base args ds gs before hval hW hk
theorem proved : Rows.CharrefNextsUptoSaid :=
  OpenClaim.holds_of_cond 4 Try.f4 rfl rfl rfl rfl rfl rfl rfl ⟨rfl, rfl, rfl, rfl, rfl⟩ rfl rfl rfl rfl rfl (by kernel_rfl) Try.func4 (by kernel_rfl)
    (of_decide_eq_true (by kernel_rfl)) (by unfold Func.isWrapper; first | (rw [if_pos (by decide +kernel)]; kernel_rfl) | (rw [if_neg (by decide +kernel)]; exact ⟨rfl, rfl⟩))
    (fun os started H enc _ F => lifted os started H enc F)
#print axioms proved
end Go.Proofs.Ytilpbfbnnmclhaa.charrefNexts
namespace Go.Proofs.Ytilpbfbnnmclhaa
/-- The row, under a short name, for the claim. -/
theorem charrefNexts_holds : Rows.CharrefNextsUptoSaid := charrefNexts.proved
end Go.Proofs.Ytilpbfbnnmclhaa
end
