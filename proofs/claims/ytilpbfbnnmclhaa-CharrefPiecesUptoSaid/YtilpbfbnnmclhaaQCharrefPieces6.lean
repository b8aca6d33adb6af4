/-
  CharrefPieces, the given statement (second form: what it reads is of bulk at most 1048576): texts in pieces: each answer is what is sure then, and how much is held; for every slice of strings, flag and string. Condition: the bulk.
-/
import Derived.Test.YtilpbfbnnmclhaaQCharrefPieces0
import Derived.Test.YtilpbfbnnmclhaaQCharrefPieces1
import Derived.Test.YtilpbfbnnmclhaaQCharrefPieces2
import Derived.Test.YtilpbfbnnmclhaaQCharrefPieces3
import Derived.Test.YtilpbfbnnmclhaaQCharrefPieces4
import Derived.Test.YtilpbfbnnmclhaaQCharrefPieces5
import Derived.Shelf.Strings.Builder1
import Derived.Shelf.Strings.BuilderF
import Derived.Shelf.Strings.BuilderK
import Derived.Test.YtilpbfbnnmclhaaProg
import Derived.Lib.OthersKept
import Derived.Laws.EntriesVeiled
import Derived.Deep.RegionWith
import Derived.Maps.AppendAt
import Derived.Lib.TrimUEq
import Derived.Lib.AtoiErrMem
import Derived.Deep.DrawnRows
import Derived.Test.YtilpbfbnnmclhaaRows
import Derived.Deep.Slices
import Derived.ChangeArms
import Derived.WalkKit
import Derived.ProofKit
import Derived.OpenShut
import Derived.ShutString
import Derived.ChangeOld
import Derived.Below
import Derived.SizedLaws
import Derived.JoinedCond
section
/-
  charref.each: the references of a text, one by one, each handed to a function value.
-/
namespace Go.Proofs.Ytilpbfbnnmclhaa.P
open Go.RowKit Go.Proofs.YtilpbfbnnmclhaaW.PrintWords Go.Proofs.YtilpbfbnnmclhaaW.PrintLast Go.Proofs.YtilpbfbnnmclhaaW.PrintMore
set_option linter.unusedVariables false
set_option linter.unusedSimpArgs false

/-- the references from place i on: where the & stands, what is said, how many bytes stand behind the & -/
def refsGo (attr : Bool) (s : ByteArray) : Nat → Nat → Option (List (Nat × ByteArray × Nat))
  | 0, _ => none
  | k + 1, i =>
    if i < s.size then
      (if bt s i = 38 then
        (charref_next.f k (s.extract (i + 1) s.size) attr true).bind fun n =>
          if 0 ≤ n.2.1 ∧ i + 1 + n.2.1.toNat ≤ s.size then
            (if n.2.1 = 0 then refsGo attr s k (i + 1)
             else (refsGo attr s k (i + 1 + n.2.1.toNat)).bind fun t => some ((i, n.1, n.2.1.toNat) :: t))
          else none
       else refsGo attr s k (i + 1))
    else some []

set_option maxRecDepth 100000 in
set_option maxHeartbeats 8000000 in
theorem charref_each_calls (k : Nat) (s : ByteArray) (attr : Bool) (fv : Array Value) (refs : List (Nat × ByteArray × Nat)) (I : List (Nat × ByteArray × Nat) → World → Prop) (w : World)
    (hs : s.size ≤ 35184372088831) (h : refsGo attr s k 0 = some refs)
    (hI : ∀ pre W W', I pre W → Below W.heap.size W W' → I pre W')
    (hdo : ∀ (pre : List (Nat × ByteArray × Nat)) (x : Nat × ByteArray × Nat) (W : World) (b : Bool), I pre W → (∃ post, pre ++ [x] ++ post = refs) → Calls Try.prog 53 (#[.int .i64 (x.1 : Nat), .agg #[.string x.2.1, .int .i64 (x.2.2 : Nat), .bool b]] ++ fv) W fun e W' =>
      e = .returned (.bool true) ∧ I (pre ++ [x]) W' ∧ ∀ (j : Nat) (cs : Array Value), W.heap[j]? = some (Obj.cells cs 60 (0, 0)) → W'.heap[j]? = some (Obj.cells cs 60 (0, 0)))
    (h0 : I [] w) :
    Calls Try.prog 39 #[.string s, .bool attr, .func (.func 53) #[] fv] w fun e w' => e = .returned (.tuple #[]) ∧ I refs w' := by
  have HDO := Aside0.mk hdo
  have HI := Aside0.mk hI
  have HR := Aside0.mk h
  clear hdo
  clear hI
  clear h
  have hu60 := Try.underlying60
  go_enter Try.func39, Try.ntmps39
  go_wp2
  go_loopw [6] (fun v wr => ∃ (i kk : Nat) (pre rest : List (Nat × ByteArray × Nat)), v = .int .i64 (i : Nat) ∧ i ≤ s.size ∧ Aside0 (refsGo attr s kk i = some rest) ∧ Aside0 (pre ++ rest = refs) ∧ Aside0 (I pre wr)) (fun v _ => s.size - (intOf v).toNat)
  case atStart => exact ⟨0, k, [], refs, rfl, Nat.zero_le _, HR, ⟨rfl⟩, ⟨h0⟩⟩
  case round =>
    obtain ⟨i, kk, pre, rest, rfl, hi, hrest, hpre, hinv⟩ := hrel
    by_cases hlt : i < s.size
    · have hl1 : ((i : Int) < (s.size : Int)) = True := eq_true (by omega)
      have hl2 : ((0 : Int) ≤ (i : Int)) = True := eq_true (by omega)
      have hx0 : ∀ h : i < s.size, ((s[i]'h).toNat : Int) = bt s (i : Int) := bt_at s (i : Int)
      have hw1 : IntKind.i64.wrap ((i : Int) + 1) = (i : Int) + 1 := IntWalk.i64_in _ (by omega)
      cases kk with
      | zero => exact absurd hrest.out (by simp [refsGo])
      | succ kk =>
        have hr := hrest.out
        clear hrest
        unfold refsGo at hr
        rw [if_pos hlt] at hr
        by_cases c : bt s (i : Int) = 38
        · rw [if_pos c] at hr
          obtain ⟨⟨n1, n2, n3⟩, hn, hr⟩ := Option.bind_eq_some_iff.1 hr
          have HN := Aside0.mk hn
          clear hn
          by_cases hb : 0 ≤ n2 ∧ i + 1 + n2.toNat ≤ s.size
          · rw [if_pos hb] at hr
            obtain ⟨m, rfl⟩ : ∃ m : Nat, n2 = m := ⟨n2.toNat, by omega⟩
            obtain ⟨_, hm⟩ := hb
            simp only [Int.toNat_natCast] at hm hr
            have HRR := Aside0.mk hr
            clear hr
            have kc : (bt s (i : Int) != 38) = false := bne_eq_false_iff_eq.2 c
            have s1 : ((0 : Int) ≤ (i : Int) + 1) = True := eq_true (by omega)
            have s2 : ((i : Int) + 1 ≤ (s.size : Int)) = True := eq_true (by omega)
            have s3 : ((i : Int) + 1).toNat = i + 1 := by omega
            have hw2 : IntKind.i64.wrap (1 + (m : Int)) = 1 + (m : Int) := IntWalk.i64_in _ (by omega)
            have hw3 : IntKind.i64.wrap ((i : Int) + (1 + (m : Int))) = ((i + 1 + m : Nat) : Int) := by rw [IntWalk.i64_in _ (by omega)]; omega
            by_cases hm0 : m = 0
            · have HM0 := Aside0.mk hm0
              have hrr := HRR.out
              rw [if_pos (by omega)] at hrr
              have HREST := Aside0.mk hrr
              clear hrr
              have g1 : decide ((m : Int) > 0) = false := decide_eq_false (by omega)
              have g2 : decide ((0 : Int) < (m : Int)) = false := decide_eq_false (by omega)
              have g3 : (0 < m) = False := eq_false (by omega)
              have g4 : ((0 : Int) < (m : Int)) = False := eq_false (by omega)
              have hw4 : ((i + 1 + m : Nat) : Int) = ((i + 1 : Nat) : Int) := by omega
              have HW4 := Aside0.mk hw4
              clear hw4 hm0
              go_wp2_with (first | (go_at_call 27; refine (charref_next.calls kk (s.extract (i + 1) s.size) attr true n1 (m : Int) n3 _ HN.out).mono ?_; rintro e w1 ⟨rfl, hb1⟩; have HB1 := Aside0.mk hb1; clear hb1) | ((with_reducible refine gate_dst (N := 7) rfl ?_); refine box_event ?hg (N := 7) ?hd (cs := #[.string (⟨#[]⟩ : ByteArray), .int .i64 0, .bool false]) (t := 60) ?hr ?_; (case hd => rfl); (case hg => rfl); (case hr => first | (go_simp; done) | (go_simp; rfl)); intro gb hg w5 hbox hb; have HB5 := Aside0.mk (below_step HB1.out hb); have BK5 := Aside0.mk hbox; have GE5 := Aside0.mk ((by rw [hg]; exact (below_size HB1.out)) : wr.heap.size ≤ gb); clear hb hbox hg; have hcz0 : w5.cell? ⟨gb, 0, none⟩ = some (.string (⟨#[]⟩ : ByteArray)) := (blk_cell BK5.out 0).trans rfl; have hcz1 : w5.cell? ⟨gb, 1, none⟩ = some (.int .i64 0) := (blk_cell BK5.out 1).trans rfl; have hcz2 : w5.cell? ⟨gb, 2, none⟩ = some (.bool false) := (blk_cell BK5.out 2).trans rfl; have hfz0 := blk_frozen BK5.out 0; have hfz1 := blk_frozen BK5.out 1; have hfz2 := blk_frozen BK5.out 2))
              go_roundw
              case rel => exact ⟨i + 1, kk, pre, rest, by rw [← HW4.out]; rfl, by omega, HREST, hpre, ⟨HI.out pre wr _ hinv.out (below_set (below_set (below_set HB5.out GE5.out) GE5.out) GE5.out)⟩⟩
              case measure => simp [intOf]; omega
            · have hrr := HRR.out
              rw [if_neg (by omega)] at hrr
              obtain ⟨t2, ht2, heq⟩ := Option.bind_eq_some_iff.1 hrr
              have heq := Option.some.inj heq
              have HREST := Aside0.mk ht2
              clear hrr ht2
              have hpre2 : pre ++ [(i, n1, m)] ++ t2 = refs := by rw [← hpre.out, ← heq, List.append_assoc]; rfl
              have HPRE2 := Aside0.mk hpre2
              clear hpre2 heq
              have g1 : decide ((m : Int) > 0) = true := decide_eq_true (by omega)
              have g2 : decide ((0 : Int) < (m : Int)) = true := decide_eq_true (by omega)
              go_wp2_with (first | (go_at_call 27; refine (charref_next.calls kk (s.extract (i + 1) s.size) attr true n1 (m : Int) n3 _ HN.out).mono ?_; rintro e w1 ⟨rfl, hb1⟩; have HB1 := Aside0.mk hb1; clear hb1) | ((with_reducible refine gate_dst (N := 7) rfl ?_); refine box_event ?hg (N := 7) ?hd (cs := #[.string (⟨#[]⟩ : ByteArray), .int .i64 0, .bool false]) (t := 60) ?hr ?_; (case hd => rfl); (case hg => rfl); (case hr => first | (go_simp; done) | (go_simp; rfl)); intro gb hg w5 hbox hb; have HB5 := Aside0.mk (below_step HB1.out hb); have BK5 := Aside0.mk hbox; have GE5 := Aside0.mk ((by rw [hg]; exact (below_size HB1.out)) : wr.heap.size ≤ gb); clear hb hbox hg; have hcz0 : w5.cell? ⟨gb, 0, none⟩ = some (.string (⟨#[]⟩ : ByteArray)) := (blk_cell BK5.out 0).trans rfl; have hcz1 : w5.cell? ⟨gb, 1, none⟩ = some (.int .i64 0) := (blk_cell BK5.out 1).trans rfl; have hcz2 : w5.cell? ⟨gb, 2, none⟩ = some (.bool false) := (blk_cell BK5.out 2).trans rfl; have hfz0 := blk_frozen BK5.out 0; have hfz1 := blk_frozen BK5.out 1; have hfz2 := blk_frozen BK5.out 2) | (go_at_call 53; refine (HDO.out pre (i, n1, m) _ n3 (HI.out pre wr _ hinv.out (below_set (below_set (below_set HB5.out GE5.out) GE5.out) GE5.out)) ⟨t2, HPRE2.out⟩).mono ?_; rintro e w7 ⟨rfl, hinv7, hk7⟩; have HINV7 := Aside0.mk hinv7; have BK7 := Aside0.mk (hk7 gb #[.string n1, .int .i64 (m : Nat), .bool n3] (blk_put (cs := #[.string n1, .int .i64 (m : Nat), .bool false]) (blk_put (cs := #[.string n1, .int .i64 0, .bool false]) (blk_put (cs := #[.string (⟨#[]⟩ : ByteArray), .int .i64 0, .bool false]) BK5.out 0 _ rfl) 1 _ rfl) 2 _ rfl)); clear hinv7 hk7; have hcy1 : w7.cell? ⟨gb, 1, none⟩ = some (.int .i64 (m : Nat)) := (blk_cell BK7.out 1).trans rfl))
              go_roundw
              case rel => exact ⟨i + 1 + m, kk, pre ++ [(i, n1, m)], t2, rfl, hm, HREST, HPRE2, HINV7⟩
              case measure => simp [intOf]; omega
          · rw [if_neg hb] at hr
            cases hr
        · rw [if_neg c] at hr
          have HREST := Aside0.mk hr
          clear hr
          have kc : (bt s (i : Int) != 38) = true := bne_iff_ne.2 c
          clear c
          go_wp2
          go_roundw
          case rel => exact ⟨i + 1, kk, pre, rest, rfl, by omega, HREST, hpre, hinv⟩
          case measure => simp [intOf]; omega
    · have hl1 : ((i : Int) < (s.size : Int)) = False := eq_false (by omega)
      have hrr : rest = [] := by
        have := hrest.out
        cases kk with
        | zero => simp [refsGo] at this
        | succ kk =>
          unfold refsGo at this
          rw [if_neg hlt] at this
          exact (Option.some.inj this).symm
      subst hrr
      have hp := hpre.out
      rw [List.append_nil] at hp
      subst hp
      go_wp2
      go_end0
      exact ⟨rfl, hinv.out⟩
end Go.Proofs.Ytilpbfbnnmclhaa.P
end
section
/-
  DERIVED: THE SHELF's CONTRACTS AT THIS DUMP, IN PLAIN WORDS (tools/lay-plain.mjs out of 'TryShelf.lean', which tools/lay-shelf.mjs wrote): THE SAME DECLARATIONS UNDER THE SAME NAMES: 'import', 'namespace', 'open', 'def', 'theorem' AND NOTHING ELSE: no command of the shelf's: FOR A HAND-IN. Each laying: the table of numbers ('.._ren') and one theorem, a field a fact of the dump's own or the kernel's comparison; each contract: ONE APPLICATION.
-/
namespace Go.Proofs
open Go.Shelf
def Try.lays169_ren : Go.Shelf.Ren := ⟨fun | 169 => 55 | n => n, fun | 70 => 84 | 9 => 9 | 0 => 0 | 72 => 86 | 37 => 31 | 127 => 105 | 3 => 3 | 5 => 5 | n => n, fun | n => n⟩
theorem Try.lays169 : Go.Proofs.Lays.n169 Try.prog Try.lays169_ren := {
  mixed := by kernel_rfl
  f169 := Try.func55.trans (congrArg some (by kernel_rfl))
  t0 := Try.underlying0
  a0 := Try.isAgg0
  z0 := Try.sizeOf0
  v0 := Try.zeroValue0
  t3 := Try.underlying3
  a3 := Try.isAgg3
  z3 := Try.sizeOf3
  v3 := Try.zeroValue3
  t9 := Try.underlying9
  a9 := Try.isAgg9
  z9 := Try.sizeOf9
  v9 := Try.zeroValue9
  t37 := Try.underlying31
  a37 := Try.isAgg31
  z37 := Try.sizeOf31
  v37 := Try.zeroValue31
  t70 := Try.underlying84
  a70 := Try.isAgg84
  z70 := Try.sizeOf84
  v70 := Try.zeroValue84
  t72 := Try.underlying86
  a72 := Try.isAgg86
  z72 := Try.sizeOf86
  v72 := Try.zeroValue86
  t127 := Try.underlying105
  a127 := Try.isAgg105
  z127 := Try.sizeOf105
  v127 := Try.zeroValue105 }
theorem Try.Builder_Extra_169 : Builder.Extra Try.prog Try.lays169_ren := {
  sizeBuilder := by kernel_rfl
  liesBuilder := by kernel_rfl
  t5 := Try.underlying5
  a5 := Try.isAgg5
  z5 := Try.sizeOf5
  v5 := Try.zeroValue5
  infoByte := by kernel_rfl
  cellsByte := by kernel_rfl
  sizeByte := by kernel_rfl
  neB5 := by decide }
open Go.RowKit in
/-- (*strings.Builder).String: "String returns the accumulated string.": WHATEVER THE BUILDER HOLDS; THE FORM '_k': OVER 'Lib.IsBuilderF' (a builder that 'String()' may have read), AND WITH THE FRAME THAT REACHES ABOVE THE BUILDER: 'Lib.OthersKept': every block that is not b and is no row of uint8's stands as it stood: the iterator of a range among them. (LAID: no walk: one application.) -/
theorem Try.Builder_String_any_k (B b : Nat) (l : List UInt8) (w : World) (h : Lib.IsBuilderF 86 5 B b (Lib.byteCells l) w) (hBw : B ≤ w.heap.size) :
    Calls Try.prog 55 #[.pointer (some ⟨b, 0, none⟩)] w fun e w' => e = .returned (.string ⟨l.toArray⟩) ∧ (Lib.IsBuilderF 86 5 B b (Lib.byteCells l) w' ∧ Below B w w' ∧ Lib.OthersKept 5 (some b) w w') := Any.Builder_String_any_k Try.lays169 Try.Builder_Extra_169 B b l w h hBw
end Go.Proofs
end
section
/-
  strings.Builder at this program's translation (copyCheck ends in a refusal here, so the shelf's own contracts on it do not lay): copyCheck, WriteString, WriteByte. The proofs are the shelf's, turned to this program.
-/
namespace Go.Proofs.Ytilpbfbnnmclhaa.P
open Go.RowKit Go.Shelf Go.Proofs.YtilpbfbnnmclhaaW.PrintWords Go.Proofs.YtilpbfbnnmclhaaW.PrintLast Go.Proofs.YtilpbfbnnmclhaaW.PrintMore
set_option linter.unusedVariables false
set_option linter.unusedSimpArgs false

theorem bldX : (Try.prog.info? 86).map (·.size) = some 2 := by kernel_rfl
theorem bldLies : liesAt Try.prog Try.prog.depth 86 (2 / Try.prog.cellsOf 86) 0 86 1 = true := by kernel_rfl

set_option maxHeartbeats 1000000 in
set_option maxRecDepth 100000 in
theorem bld_copyCheck_used (b : Nat) (w : World) (h0 : w.cell? ⟨b, 0, none⟩ = some (.pointer (some ⟨b, 0, none⟩))) :
    Calls Try.prog 75 #[.pointer (some ⟨b, 0, none⟩)] w fun e w' => e = .returned (.tuple #[]) ∧ w' = w := by
  obtain ⟨j, hj, _⟩ := Option.map_eq_some_iff.1 bldX
  have u86 := run_underlying Try.underlying86
  have u84 := run_underlying Try.underlying84
  go_enter Try.func75, Try.ntmps75
  go_wp2
  rw [Lib.run_neq_ptr_same w _ Try.underlying84 hj]
  go_wp2
  go_end0
  exact ⟨rfl, rfl⟩

set_option maxHeartbeats 1000000 in
set_option maxRecDepth 100000 in
theorem bld_copyCheck_fresh (b : Nat) (w : World) (h0 : w.cell? ⟨b, 0, none⟩ = some (.pointer none)) (hsh : w.shape? b = some (86, 2)) (hfr : w.frozen? ⟨b, 0, none⟩ = false) :
    Calls Try.prog 75 #[.pointer (some ⟨b, 0, none⟩)] w fun e w' => e = .returned (.tuple #[]) ∧ w' = w.setCell ⟨b, 0, none⟩ (.pointer (some ⟨b, 0, none⟩)) := by
  obtain ⟨j, hj, hjs⟩ := Option.map_eq_some_iff.1 bldX
  go_enter Try.func75, Try.ntmps75
  go_wp2
  rw [Lib.run_to_unsafe w ⟨b, 0, none⟩ Try.underlying84 Try.underlying110 hj (by rw [hjs]; decide) hsh (Nat.zero_lt_succ 1)]
  simp only [Result.andThen]
  rw [Oper.upon_value]
  go_wp2
  rw [run_callFunc_extern Try.func83 (by kernel_rfl) (by kernel_rfl) (by kernel_rfl) (e := Extern.AbiNoEscape.same) (by kernel_rfl)]
  rw [Lib.run_noEscape]
  simp only [Result.andThen]
  rw [Oper.upon_value]
  go_wp2
  rw [Lib.run_from_unsafe w ⟨b, 0, none⟩ Try.underlying110 Try.underlying84 hj hsh bldLies]
  simp only [Result.andThen]
  rw [Oper.upon_value]
  go_wp2
  go_end0
  exact ⟨rfl, rfl⟩
theorem bldByte : (Try.prog.info? 5).map (fun i => (i.zero, i.size, i.bytes)) = some (some (.int .u8 0), 1, 1) := by kernel_rfl

set_option maxHeartbeats 2000000 in
set_option maxRecDepth 100000 in
theorem bld_copyCheck_k (B b : Nat) (bs : List Value) (w : World) (h : Lib.IsBuilderF 86 5 B b bs w) :
    Calls Try.prog 75 #[.pointer (some ⟨b, 0, none⟩)] w fun e w' => e = .returned (.tuple #[]) ∧ (Lib.BuilderAtF 86 5 B b (.pointer (some ⟨b, 0, none⟩)) bs w' ∧ Below B w w' ∧ Lib.OthersKept 5 (some b) w w') := by
  rcases h with h | h
  · refine (bld_copyCheck_fresh b w h.cell0 h.shape h.frozen0).mono ?_
    rintro e w' ⟨rfl, rfl⟩
    exact ⟨rfl, h.used _, (Below.refl B w).setCell (p := ⟨b, 0, none⟩) h.1 _, (Lib.OthersKept.refl _ _ w).setCell ⟨b, 0, none⟩ rfl _⟩
  · refine (bld_copyCheck_used b w h.cell0).mono ?_
    rintro e w' ⟨rfl, rfl⟩
    exact ⟨rfl, h, Below.refl B _, Lib.OthersKept.refl _ _ _⟩

set_option maxHeartbeats 2000000 in
set_option maxRecDepth 100000 in
theorem bld_WriteByte_k (B b : Nat) (bs : List Value) (c : Int) (w : World) (h : Lib.IsBuilderF 86 5 B b bs w) (hlen : bs.length + 1 ≤ 140737488355328) (hBw : B ≤ w.heap.size) :
    Calls Try.prog 59 #[.pointer (some ⟨b, 0, none⟩), .int .u8 c] w fun e w' => e = .returned .nilIface ∧ (Lib.BuilderAtF 86 5 B b (.pointer (some ⟨b, 0, none⟩)) (bs ++ [.int .u8 c]) w' ∧ Below B w w' ∧ Lib.OthersKept 5 (some b) w w') := by
  obtain ⟨i0, hi, hz0, hz1, hz2⟩ := info_parts bldByte
  go_enter Try.func59, Try.ntmps59
  go_wp2_with (go_at_call 75; refine (bld_copyCheck_k B b bs _ h).mono ?_)
  rintro e w1 ⟨rfl, h1, hb1, hk1⟩
  obtain ⟨hB, v, hbk, hown, hne⟩ := h1
  have c0 : w1.cell? ⟨b, 0, none⟩ = some (.pointer (some ⟨b, 0, none⟩)) := by rw [Lib.cell_of_heap hbk]; rfl
  have c1 : w1.cell? ⟨b, 1, none⟩ = some v := by rw [Lib.cell_of_heap hbk]; rfl
  go_wp2_with (at_builtin; refine wpList_append_ownF _ rfl _ _ 31 rfl B 5 i0 (.int .u8 0) 1 1 Try.underlying31 hi hz0 hz1 hz2 rfl (by decide) _ _ _ rfl (hown.alloc _) ⟨w1.heap.size, 0, none⟩ 1 1 [.int .u8 c] rfl rfl ?c1 ?c2 ?c3 ?c4 ?c5 ?_)
  case c1 =>
    intro j u hj
    match j, hj with
    | 0, hj => simp at hj; subst hj; simp [Addr.add]
  case c2 => intro u hu; simp at hu; subst hu; rfl
  case c3 => unfold maxLen; omega
  case c4 => omega
  case c5 => have := hb1.size; simp; omega
  intro v' w2 hown' hgrow _
  have hlt : b < w1.heap.size := by
    rcases Nat.lt_or_ge b w1.heap.size with h' | h'
    · exact h'
    · simp [Array.getElem?_eq_none h'] at hbk
  have hb2 : w2.heap[b]? = some (.cells #[.pointer (some ⟨b, 0, none⟩), v] 86 (0, 0)) := by
    rw [hgrow.block b (by simp; omega) (fun e => hne e.symm), Lib.alloc_old w1 _ b hlt]
    exact hbk
  have d0 : w2.cell? ⟨b, 0, none⟩ = some (.pointer (some ⟨b, 0, none⟩)) := by rw [Lib.cell_of_heap hb2]; rfl
  have d1 : w2.cell? ⟨b, 1, none⟩ = some v := by rw [Lib.cell_of_heap hb2]; rfl
  have f1 : w2.frozen? ⟨b, 1, none⟩ = false := Lib.frozen_of_heap hb2 1
  obtain ⟨g, cap, rfl⟩ : ∃ g cap, v' = .slice (some ⟨g, 0, none⟩) (bs.length + 1) cap := by
    rcases hown'.2 with ⟨_, h0⟩ | ⟨g, cap, cur, fz, hv, _⟩
    · omega
    · exact ⟨g, cap, hv⟩
  go_wp2
  go_ret
  refine ⟨rfl, ?_, ?_, ((hk1.alloc _).grown hgrow (Lib.ownsRowF_kind (hown.alloc _))).setCell ⟨b, 1, none⟩ rfl _⟩
  · exact Lib.BuilderAtF.put (T := 86) (e := 5) hB hb2 (bs' := bs ++ [.int .u8 c]) (by simpa using hown') (by decide)
  · exact ((hb1.alloc (by have := hb1.size; omega) _).grown hgrow (by have := hb1.size; simp; omega) (fun k hk => (hown.lt k hk).1)).setCell (p := ⟨b, 1, none⟩) hB _

set_option maxHeartbeats 2000000 in
set_option maxRecDepth 100000 in
theorem bld_WriteString_k (B b : Nat) (bs : List Value) (s : ByteArray) (w : World) (h : Lib.IsBuilderF 86 5 B b bs w) (hlen : bs.length + s.size ≤ 140737488355328) (hBw : B ≤ w.heap.size) :
    Calls Try.prog 54 #[.pointer (some ⟨b, 0, none⟩), .string s] w fun e w' => e = .returned (.tuple #[.int .i64 s.size, .nilIface]) ∧ (Lib.BuilderAtF 86 5 B b (.pointer (some ⟨b, 0, none⟩)) (bs ++ Lib.strCells s) w' ∧ Below B w w' ∧ Lib.OthersKept 5 (some b) w w') := by
  obtain ⟨i0, hi, hz0, hz1, hz2⟩ := info_parts bldByte
  go_enter Try.func54, Try.ntmps54
  go_wp2_with (go_at_call 75; refine (bld_copyCheck_k B b bs _ h).mono ?_)
  rintro e w1 ⟨rfl, h1, hb1, hk1⟩
  obtain ⟨hB, v, hbk, hown, hne⟩ := h1
  have c0 : w1.cell? ⟨b, 0, none⟩ = some (.pointer (some ⟨b, 0, none⟩)) := by rw [Lib.cell_of_heap hbk]; rfl
  have c1 : w1.cell? ⟨b, 1, none⟩ = some v := by rw [Lib.cell_of_heap hbk]; rfl
  go_wp2_with (at_builtin; refine Lib.wpList_append_own_stringF _ rfl _ _ 31 9 rfl B 5 i0 Try.underlying31 Try.underlying9 hi hz0 hz1 hz2 _ _ _ rfl hown s rfl ?c3 ?c4 ?c5 ?_)
  case c3 => unfold maxLen; omega
  case c4 => omega
  case c5 => have := hb1.size; omega
  intro v' w2 hown' hgrow _
  have hlt : b < w1.heap.size := by
    rcases Nat.lt_or_ge b w1.heap.size with h' | h'
    · exact h'
    · simp [Array.getElem?_eq_none h'] at hbk
  have hb2 : w2.heap[b]? = some (.cells #[.pointer (some ⟨b, 0, none⟩), v] 86 (0, 0)) := by
    rw [hgrow.block b hlt (fun e => hne e.symm)]
    exact hbk
  have d0 : w2.cell? ⟨b, 0, none⟩ = some (.pointer (some ⟨b, 0, none⟩)) := by rw [Lib.cell_of_heap hb2]; rfl
  have d1 : w2.cell? ⟨b, 1, none⟩ = some v := by rw [Lib.cell_of_heap hb2]; rfl
  have f1 : w2.frozen? ⟨b, 1, none⟩ = false := Lib.frozen_of_heap hb2 1
  obtain ⟨ao, n', cap, rfl⟩ : ∃ ao n' cap, v' = .slice ao n' cap := by
    rcases hown'.2 with ⟨hv, _⟩ | ⟨g, cap, cur, fz, hv, _⟩
    · exact ⟨_, _, _, hv⟩
    · exact ⟨_, _, _, hv⟩
  go_wp2
  go_ret2
  refine ⟨rfl, ?_, ?_, (hk1.grown hgrow (Lib.ownsRowF_kind hown)).setCell ⟨b, 1, none⟩ rfl _⟩
  · exact Lib.BuilderAtF.put (T := 86) (e := 5) hB hb2 (bs' := bs ++ Lib.strCells s) (by simpa [Lib.strCells_length] using hown') (by decide)
  · exact (hb1.grown hgrow (by have := hb1.size; omega) (fun k hk => (hown.lt k hk).1)).setCell (p := ⟨b, 1, none⟩) hB _

end Go.Proofs.Ytilpbfbnnmclhaa.P
end
section
/-
  charref.replaced, the plain part: what is written, reference by reference.
-/
namespace Go.Proofs.Ytilpbfbnnmclhaa.P
open Go.RowKit Go.Shelf Go.Proofs.YtilpbfbnnmclhaaW.PrintWords Go.Proofs.YtilpbfbnnmclhaaW.PrintLast Go.Proofs.YtilpbfbnnmclhaaW.PrintMore
set_option linter.unusedVariables false
set_option linter.unusedSimpArgs false

def repStep (g : ByteArray → ByteArray) (m : List UInt8) (st : Nat × List UInt8) (x : Nat × ByteArray × Nat) : Nat × List UInt8 :=
  (x.1 + 1 + x.2.2, st.2 ++ ((m.drop st.1).take (x.1 - st.1) ++ (g x.2.1).data.toList))
def repSt (g : ByteArray → ByteArray) (m : List UInt8) (l : List (Nat × ByteArray × Nat)) : Nat × List UInt8 := l.foldl (repStep g m) (0, [])
theorem repSt_snoc (g : ByteArray → ByteArray) (m : List UInt8) (l : List (Nat × ByteArray × Nat)) (x : Nat × ByteArray × Nat) : repSt g m (l ++ [x]) = repStep g m (repSt g m l) x := by
  unfold repSt
  rw [List.foldl_append]
  rfl
def repText (g : ByteArray → ByteArray) (m : List UInt8) (refs : List (Nat × ByteArray × Nat)) : List UInt8 := (repSt g m refs).2 ++ m.drop (repSt g m refs).1

/-- the places go up -/
def Asc (n : Nat) : Nat → List (Nat × ByteArray × Nat) → Prop
  | _, [] => True
  | i, x :: t => i ≤ x.1 ∧ x.1 + 1 + x.2.2 ≤ n ∧ Asc n (x.1 + 1 + x.2.2) t
theorem Asc.weak {n : Nat} : ∀ {i j : Nat} {l : List (Nat × ByteArray × Nat)}, j ≤ i → Asc n i l → Asc n j l
  | _, _, [], _, _ => trivial
  | _, _, _ :: _, h, ⟨h1, h2, h3⟩ => ⟨Nat.le_trans h h1, h2, h3⟩
theorem refsGo_asc (attr : Bool) (s : ByteArray) : ∀ (k i : Nat) (l : List (Nat × ByteArray × Nat)), refsGo attr s k i = some l → Asc s.size i l
  | 0, i, l, h => by simp [refsGo] at h
  | k + 1, i, l, h => by
    unfold refsGo at h
    by_cases c1 : i < s.size
    · rw [if_pos c1] at h
      by_cases c2 : bt s i = 38
      · rw [if_pos c2] at h
        obtain ⟨n, _, h⟩ := Option.bind_eq_some_iff.1 h
        by_cases c3 : 0 ≤ n.2.1 ∧ i + 1 + n.2.1.toNat ≤ s.size
        · rw [if_pos c3] at h
          by_cases c4 : n.2.1 = 0
          · rw [if_pos c4] at h
            exact (refsGo_asc attr s k _ l h).weak (by omega)
          · rw [if_neg c4] at h
            obtain ⟨t, ht, h⟩ := Option.bind_eq_some_iff.1 h
            have := Option.some.inj h
            subst this
            exact ⟨Nat.le_refl _, c3.2, refsGo_asc attr s k _ t ht⟩
        · rw [if_neg c3] at h
          cases h
      · rw [if_neg c2] at h
        exact (refsGo_asc attr s k _ l h).weak (by omega)
    · rw [if_neg c1] at h
      have := Option.some.inj h
      subst this
      trivial
theorem Asc.mid {n : Nat} (g : ByteArray → ByteArray) (m : List UInt8) : ∀ (pre : List (Nat × ByteArray × Nat)) (st : Nat × List UInt8) (x : Nat × ByteArray × Nat) (post : List (Nat × ByteArray × Nat)), Asc n st.1 (pre ++ x :: post) →
    (pre.foldl (repStep g m) st).1 ≤ x.1 ∧ x.1 + 1 + x.2.2 ≤ n ∧ pre.length + st.1 ≤ (pre.foldl (repStep g m) st).1
  | [], st, x, post, h => ⟨h.1, h.2.1, by simp⟩
  | y :: t, st, x, post, h => by
    have := Asc.mid g m t (repStep g m st y) x post (h.2.2)
    refine ⟨this.1, this.2.1, ?_⟩
    have h3 := this.2.2
    have h1 := h.1
    simp only [List.foldl_cons, List.length_cons]
    have e : (repStep g m st y).1 = y.1 + 1 + y.2.2 := rfl
    omega
theorem Asc.end_ {n : Nat} (g : ByteArray → ByteArray) (m : List UInt8) : ∀ (pre : List (Nat × ByteArray × Nat)) (st : Nat × List UInt8), st.1 ≤ n → Asc n st.1 pre → (pre.foldl (repStep g m) st).1 ≤ n ∧ pre.length + st.1 ≤ (pre.foldl (repStep g m) st).1
  | [], st, h0, h => ⟨h0, by simp⟩
  | y :: t, st, h0, h => by
    have := Asc.end_ g m t (repStep g m st y) h.2.1 h.2.2
    refine ⟨this.1, ?_⟩
    have h3 := this.2
    have h1 := h.1
    simp only [List.foldl_cons, List.length_cons]
    have e : (repStep g m st y).1 = y.1 + 1 + y.2.2 := rfl
    omega
theorem repFold_len (g : ByteArray → ByteArray) (m : List UInt8) : ∀ (l : List (Nat × ByteArray × Nat)) (st : Nat × List UInt8), st.2.length ≤ (l.foldl (repStep g m) st).2.length
  | [], st => Nat.le_refl _
  | y :: t, st => by
    have := repFold_len g m t (repStep g m st y)
    have e : (repStep g m st y).2.length = st.2.length + ((m.drop st.1).take (y.1 - st.1) ++ (g y.2.1).data.toList).length := by simp only [repStep, List.length_append]
    simp only [List.foldl_cons]
    omega
theorem repSt_len (g : ByteArray → ByteArray) (m : List UInt8) (a b : List (Nat × ByteArray × Nat)) : (repSt g m a).2.length ≤ (repSt g m (a ++ b)).2.length := by
  have := repFold_len g m b (repSt g m a)
  unfold repSt at this ⊢
  rw [List.foldl_append]
  exact this

/-- A builder is kept where its own block and the rows of bytes are kept. -/
theorem bld_kept {T e : TypeId} {B b : Nat} {bs : List Value} {w w' : World} (h : Lib.IsBuilderF T e B b bs w)
    (hk : ∀ k o, w.heap[k]? = some o → (k = b ∨ ∃ c fz, o = Obj.cells c e fz) → w'.heap[k]? = some o) : Lib.IsBuilderF T e B b bs w' := by
  have key : ∀ p, Lib.BuilderAtF T e B b p bs w → Lib.BuilderAtF T e B b p bs w' := by
    rintro p ⟨hB, v, hb, hown, hne⟩
    refine ⟨hB, v, hk _ _ hb (.inl rfl), ⟨hown.1, ?_⟩, hne⟩
    rcases hown.2 with hn | ⟨g, cap, cur, fz, hv, hbg, hg, rest⟩
    · exact .inl hn
    · exact .inr ⟨g, cap, cur, fz, hv, hbg, hk _ _ hg (.inr ⟨_, _, rfl⟩), rest⟩
  exact h.elim (fun x => .inl (key _ x)) (fun x => .inr (key _ x))
theorem bld_below {T e : TypeId} {B b : Nat} {bs : List Value} {w w' : World} (h : Lib.IsBuilderF T e B b bs w) (hb : Below w.heap.size w w') : Lib.IsBuilderF T e B b bs w' :=
  bld_kept h fun k o ho _ => by
    have hlt : k < w.heap.size := (Array.getElem?_eq_some_iff.1 ho).1
    rw [hb.block k hlt]
    exact ho
theorem blk_kept {w w' : World} {k : Nat} {o : Obj} (hb : Below w.heap.size w w') (h : w.heap[k]? = some o) : w'.heap[k]? = some o := by
  rw [hb.block k (Array.getElem?_eq_some_iff.1 h).1]
  exact h

/-- what stands between two references: the five variables that 'replaced' and its literal share -/
def RepI (BY b0 : Nat) (m : ByteArray) (g : ByteArray → ByteArray) (W0 : World) (pre : List (Nat × ByteArray × Nat)) (W : World) : Prop :=
  Lib.IsBuilderF 86 5 b0 (b0 + 2) (Lib.byteCells (repSt g m.data.toList pre).2) W ∧ W.heap[b0]? = some (.cells #[.string m] 9 (0, 0)) ∧
    W.heap[b0 + 1]? = some (.cells #[.func (.func BY) #[] #[]] 69 (0, 0)) ∧ W.heap[b0 + 3]? = some (.cells #[.int .i64 ((repSt g m.data.toList pre).1 : Nat)] 3 (0, 0)) ∧
    W.heap[b0 + 4]? = some (.cells #[.int .i64 (pre.length : Nat)] 3 (0, 0)) ∧ Below b0 W0 W
theorem RepI.below {BY b0 : Nat} {m : ByteArray} {g : ByteArray → ByteArray} {W0 : World} {pre : List (Nat × ByteArray × Nat)} {W W' : World} (h : RepI BY b0 m g W0 pre W) (hb : Below W.heap.size W W') : RepI BY b0 m g W0 pre W' := by
  obtain ⟨hI, hS, hBy, hF, hN, hB⟩ := h
  have hlt : b0 < W.heap.size := (Array.getElem?_eq_some_iff.1 hS).1
  exact ⟨bld_below hI hb, blk_kept hb hS, blk_kept hb hBy, blk_kept hb hF, blk_kept hb hN, hB.trans (hb.mono (by omega))⟩
end Go.Proofs.Ytilpbfbnnmclhaa.P
end
section
/-
  charref.replaced over Decode's literal: the function's own literal, which writes a reference's text, and the whole.
-/
namespace Go.Proofs.Ytilpbfbnnmclhaa.P
open Go.RowKit Go.Shelf Go.Proofs.YtilpbfbnnmclhaaW.PrintWords Go.Proofs.YtilpbfbnnmclhaaW.PrintLast Go.Proofs.YtilpbfbnnmclhaaW.PrintMore
set_option linter.unusedVariables false
set_option linter.unusedSimpArgs false

set_option maxRecDepth 100000 in
set_option maxHeartbeats 8000000 in
theorem D_rep1_calls (b0 : Nat) (m : ByteArray) (g : ByteArray → ByteArray) (W0 : World) (pre : List (Nat × ByteArray × Nat)) (x : Nat × ByteArray × Nat) (W : World) (b : Bool)
    (h : RepI 37 b0 m g W0 pre W) (hle : (repSt g m.data.toList pre).1 ≤ x.1) (hx : x.1 + 1 + x.2.2 ≤ m.size) (hm : m.size ≤ 35184372088831) (hp : pre.length ≤ m.size)
    (hlen : (repSt g m.data.toList (pre ++ [x])).2.length ≤ 140737488355328)
    (hby : ∀ (n : Int) (b : Bool) (W : World), Calls Try.prog 37 #[.agg #[.string x.2.1, .int .i64 n, .bool b]] W fun e W' => e = .returned (.string (g x.2.1)) ∧ Below W.heap.size W W') :
    Calls Try.prog 53 (#[.int .i64 (x.1 : Nat), .agg #[.string x.2.1, .int .i64 (x.2.2 : Nat), .bool b]] ++
        #[.pointer (some ⟨b0 + 2, 0, none⟩), .pointer (some ⟨b0, 0, none⟩), .pointer (some ⟨b0 + 3, 0, none⟩), .pointer (some ⟨b0 + 1, 0, none⟩), .pointer (some ⟨b0 + 4, 0, none⟩)]) W fun e W' =>
      e = .returned (.bool true) ∧ RepI 37 b0 m g W0 (pre ++ [x]) W' ∧ ∀ (j : Nat) (cs : Array Value), W.heap[j]? = some (Obj.cells cs 60 (0, 0)) → W'.heap[j]? = some (Obj.cells cs 60 (0, 0)) := by
  obtain ⟨hI, hS, hBy, hF, hN, hB⟩ := h
  have HI := Aside0.mk hI
  have HS := Aside0.mk hS
  have HBy := Aside0.mk hBy
  have HF := Aside0.mk hF
  have HN := Aside0.mk hN
  have HB := Aside0.mk hB
  have HBY := Aside0.mk hby
  have HLEN := Aside0.mk hlen
  have HN4 := Aside0.mk (show b0 + 4 < W.heap.size from (Array.getElem?_eq_some_iff.1 hN).1)
  clear hI hS hBy hF hN hB hby hlen
  obtain ⟨at_, says, size⟩ := x
  simp only at hle hx HBY
  have hstep := repSt_snoc g m.data.toList pre (at_, says, size)
  generalize hst : repSt g m.data.toList pre = st at hle HI HF hstep
  obtain ⟨fr, acc⟩ := st
  simp only at hle HI HF hstep
  have HST := Aside0.mk hst
  have HSTEP := Aside0.mk hstep
  clear hst hstep
  have hl1 : acc.length + (m.extract fr at_).size ≤ 140737488355328 := by
    have := HLEN.out
    rw [HSTEP.out] at this
    simp [repStep] at this
    have e : (m.extract fr at_).size = at_ - fr := by simp; omega
    omega
  have hl2 : (acc ++ (m.extract fr at_).data.toList).length + (g says).size ≤ 140737488355328 := by
    have := HLEN.out
    rw [HSTEP.out] at this
    simp [repStep] at this
    have e : (m.extract fr at_).size = at_ - fr := by simp; omega
    have e2 : (g says).data.size = (g says).size := rfl
    simp
    omega
  have HL1 := Aside0.mk hl1
  have HL2 := Aside0.mk hl2
  clear hl1 hl2
  have s1 : ((0 : Int) ≤ (fr : Int)) = True := eq_true (by omega)
  have s2 : ((fr : Int) ≤ (at_ : Int)) = True := eq_true (by omega)
  have s3 : ((at_ : Int) ≤ (m.size : Int)) = True := eq_true (by omega)
  have w1 : IntKind.i64.wrap ((at_ : Int) + 1) = (at_ : Int) + 1 := IntWalk.i64_in _ (by omega)
  have w2 : IntKind.i64.wrap ((at_ : Int) + 1 + (size : Int)) = ((at_ + 1 + size : Nat) : Int) := by rw [IntWalk.i64_in _ (by omega)]; omega
  have w3 : IntKind.i64.wrap ((pre.length : Int) + 1) = ((pre.length + 1 : Nat) : Int) := by rw [IntWalk.i64_in _ (by omega)]; omega
  have hu60 := Try.underlying60
  have HB0 := Aside0.mk (Below.refl W.heap.size W)
  go_enter Try.func53, Try.ntmps53
  go_wp2_with (first | ((with_reducible refine gate_dst (N := 8) rfl ?_); refine box_event ?hg (N := 8) ?hd (cs := #[.string says, .int .i64 (size : Nat), .bool b]) (t := 60) ?hr ?_; (case hd => rfl); (case hg => rfl); (case hr => first | (go_simp; done) | (go_simp; rfl)); intro gb hg w5 hbox hb; have HB5 := Aside0.mk (below_step HB0.out hb); have BK5 := Aside0.mk hbox; have NE5 : some gb ≠ some (b0 + 2) := (by intro e; have e := Option.some.inj e; have := HN4.out; rw [hg] at e; omega); clear hb hbox hg; have hcS5 : w5.cell? ⟨b0, 0, none⟩ = some (.string m) := (blk_cell (blk_kept HB5.out HS.out) 0).trans rfl; have hcF5 : w5.cell? ⟨b0 + 3, 0, none⟩ = some (.int .i64 (fr : Nat)) := (blk_cell (blk_kept HB5.out HF.out) 0).trans rfl) | (go_at_call 54; refine (bld_WriteString_k b0 (b0 + 2) (Lib.byteCells (acc ++ (m.extract fr at_).data.toList)) (g says) w7 (by rw [Lib.byteCells_append]; exact bld_below (.inr HI6.out) HBEL7.out) (by rw [Lib.byteCells_length]; exact HL2.out) (by have := HN4.out; have := HB5.out.size; have := HBEL6.out.size; have := HBEL7.out.size; omega)).mono ?_; rintro e w8 ⟨rfl, hb8, hbel8, hok8⟩; have HOK8 := Aside0.mk hok8; have HI8 := Aside0.mk hb8; have HBEL8 := Aside0.mk hbel8; clear hok8 hb8 hbel8; have KP := Aside0.mk (fun (k : Nat) (o : Obj) (h5 : w5.heap[k]? = some o) (hne : some k ≠ some (b0 + 2)) (ho : ∀ c fz, o ≠ Obj.cells c 5 fz) => HOK8.out k o (blk_kept HBEL7.out (HOK6.out k o h5 hne ho)) hne ho); have BK8 := Aside0.mk (KP.out gb _ BK5.out NE5 (fun c fz e => by cases e)); have BF8 := Aside0.mk (KP.out (b0 + 3) _ (blk_kept HB5.out HF.out) (by simp) (fun c fz e => by cases e)); have BN8 := Aside0.mk (KP.out (b0 + 4) _ (blk_kept HB5.out HN.out) (by simp) (fun c fz e => by cases e)); have hch8 : w8.cell? ⟨gb, 1, none⟩ = some (.int .i64 (size : Nat)) := (blk_cell BK8.out 1).trans rfl; have hcF8 : w8.cell? ⟨b0 + 3, 0, none⟩ = some (.int .i64 (fr : Nat)) := (blk_cell BF8.out 0).trans rfl; have hcN8 : w8.cell? ⟨b0 + 4, 0, none⟩ = some (.int .i64 (pre.length : Nat)) := (blk_cell BN8.out 0).trans rfl; have hfF8 := blk_frozen BF8.out 0; have hfN8 := blk_frozen BN8.out 0) | (go_at_call 37; refine (HBY.out (size : Nat) b w6).mono ?_; rintro e w7 ⟨rfl, hbel7⟩; have HBEL7 := Aside0.mk hbel7; clear hbel7) | (go_at_call 54; refine (bld_WriteString_k b0 (b0 + 2) (Lib.byteCells acc) (m.extract fr at_) w5 (bld_below HI.out HB5.out) (by rw [Lib.byteCells_length]; exact HL1.out) (by have := HN4.out; have := HB5.out.size; omega)).mono ?_; rintro e w6 ⟨rfl, hb6, hbel6, hok6⟩; have HOK6 := Aside0.mk hok6; have HI6 := Aside0.mk hb6; have HBEL6 := Aside0.mk hbel6; clear hok6 hb6 hbel6; have BK6 := Aside0.mk (HOK6.out gb _ BK5.out NE5 (fun c fz e => by cases e)); have hcB6 : w6.cell? ⟨b0 + 1, 0, none⟩ = some (.func (.func 37) #[] #[]) := (blk_cell (HOK6.out (b0 + 1) _ (blk_kept HB5.out HBy.out) (by simp) (fun c fz e => by cases e)) 0).trans rfl; have hcg6 : w6.cell? ⟨gb, 0, none⟩ = some (.string says) := (blk_cell BK6.out 0).trans rfl; have hch6 : w6.cell? ⟨gb, 1, none⟩ = some (.int .i64 (size : Nat)) := (blk_cell BK6.out 1).trans rfl; have hci6 : w6.cell? ⟨gb, 2, none⟩ = some (.bool b) := (blk_cell BK6.out 2).trans rfl))
  go_ret
  have hext : (m.extract fr at_).data.toList = (m.data.toList.drop fr).take (at_ - fr) := Lib.extract_data m fr at_
  have kS := KP.out b0 _ (blk_kept HB5.out HS.out) (by intro e; have e := Option.some.inj e; omega) (fun c fz e => by cases e)
  have kBy := KP.out (b0 + 1) _ (blk_kept HB5.out HBy.out) (by intro e; have e := Option.some.inj e; omega) (fun c fz e => by cases e)
  refine ⟨rfl, ⟨?_, ?_, ?_, ?_, ?_, ?_⟩, ?_⟩
  · rw [HSTEP.out]
    show Lib.IsBuilderF _ _ _ _ (Lib.byteCells (acc ++ ((m.data.toList.drop fr).take (at_ - fr) ++ (g says).data.toList))) _
    rw [← hext, ← List.append_assoc, Lib.byteCells_append]
    refine bld_kept (.inr HI8.out) ?_
    intro k o ho hk
    have n3 : k ≠ b0 + 3 := by
      rintro rfl
      rcases hk with hk | ⟨c, fz, rfl⟩
      · omega
      · rw [BF8.out] at ho
        cases ho
    have n4 : k ≠ b0 + 4 := by
      rintro rfl
      rcases hk with hk | ⟨c, fz, rfl⟩
      · omega
      · rw [BN8.out] at ho
        cases ho
    rw [Below.heap_setCell _ _ _ _ n4, Below.heap_setCell _ _ _ _ n3]
    exact ho
  · rw [Below.heap_setCell _ _ _ _ (show b0 ≠ b0 + 4 by omega), Below.heap_setCell _ _ _ _ (show b0 ≠ b0 + 3 by omega)]
    exact kS
  · rw [Below.heap_setCell _ _ _ _ (show b0 + 1 ≠ b0 + 4 by omega), Below.heap_setCell _ _ _ _ (show b0 + 1 ≠ b0 + 3 by omega)]
    exact kBy
  · rw [Below.heap_setCell _ _ _ _ (show b0 + 3 ≠ b0 + 4 by omega), HSTEP.out]
    exact blk_put (cs := #[.int .i64 (fr : Nat)]) BF8.out 0 _ rfl
  · refine blk_put (cs := #[.int .i64 (pre.length : Nat)]) ?_ 0 _ ?_
    · rw [Below.heap_setCell _ _ _ _ (show b0 + 4 ≠ b0 + 3 by omega)]
      exact BN8.out
    · simp
  · have l1 := HN4.out
    have l2 := HBEL6.out.size
    exact (((((HB.out.trans (HB5.out.mono (by omega))).trans HBEL6.out).trans (HBEL7.out.mono (by have := HB5.out.size; omega))).trans HBEL8.out).setCell (p := ⟨b0 + 3, 0, none⟩) (by show b0 ≤ b0 + 3; omega) _).setCell (p := ⟨b0 + 4, 0, none⟩) (by show b0 ≤ b0 + 4; omega) _
  · intro j cs hj
    have hj5 := blk_kept HB5.out hj
    have n2 : j ≠ b0 + 2 := by
      rintro rfl
      obtain ⟨hB, v, hb, _⟩ := HI8.out
      have hlt : b0 + 2 < W.heap.size := (Array.getElem?_eq_some_iff.1 hj).1
      rcases HI.out with ⟨_, v, hb, _⟩ | ⟨_, v, hb, _⟩ <;> (rw [hj] at hb; cases hb)
    have n3 : j ≠ b0 + 3 := by
      rintro rfl
      rw [HF.out] at hj
      cases hj
    have n4 : j ≠ b0 + 4 := by
      rintro rfl
      rw [HN.out] at hj
      cases hj
    rw [Below.heap_setCell _ _ _ _ n4, Below.heap_setCell _ _ _ _ n3]
    exact KP.out j _ hj5 (fun e => n2 (Option.some.inj e)) (fun c fz e => by cases e)
end Go.Proofs.Ytilpbfbnnmclhaa.P
end
section
/-
  charref.replaced over Decode's literal.
-/
namespace Go.Proofs.Ytilpbfbnnmclhaa.P
open Go.RowKit Go.Shelf Go.Proofs.YtilpbfbnnmclhaaW.PrintWords Go.Proofs.YtilpbfbnnmclhaaW.PrintLast Go.Proofs.YtilpbfbnnmclhaaW.PrintMore
set_option linter.unusedVariables false
set_option linter.unusedSimpArgs false

theorem D_alloc_get {w : World} {k : Nat} {x : Obj} (o : Obj) (h : w.heap[k]? = some x) : (w.alloc o).heap[k]? = some x :=
  (Lib.alloc_old w o k (Array.getElem?_eq_some_iff.1 h).1).trans h

set_option maxRecDepth 100000 in
set_option maxHeartbeats 2000000 in
theorem D_replaced_calls (k : Nat) (m : ByteArray) (attr : Bool) (g : ByteArray → ByteArray) (refs : List (Nat × ByteArray × Nat)) (w : World) (hm : m.size ≤ 35184372088831) (href : refsGo attr m k 0 = some refs)
    (hlen : (repText g m.data.toList refs).length ≤ 140737488355328)
    (hby : ∀ x ∈ refs, ∀ (n : Int) (b : Bool) (W : World), Calls Try.prog 37 #[.agg #[.string x.2.1, .int .i64 n, .bool b]] W fun e W' => e = .returned (.string (g x.2.1)) ∧ Below W.heap.size W W') :
    Calls Try.prog 32 #[.string m, .bool attr, .func (.func 37) #[] #[]] w fun e w' =>
      e = .returned (.tuple #[.string ⟨(repText g m.data.toList refs).toArray⟩, .int .i64 (refs.length : Nat)]) ∧ Below w.heap.size w w' := by
  have HBY := Aside0.mk hby
  have HREF := Aside0.mk href
  have HLEN := Aside0.mk hlen
  clear hby href hlen
  have hasc := refsGo_asc attr m k 0 refs HREF.out
  have hend := Asc.end_ g m.data.toList refs (0, []) (Nat.zero_le _) hasc
  have HEND := Aside0.mk hend
  have HASC := Aside0.mk hasc
  clear hasc hend
  -- the world when the references begin
  have hw5 : RepI 37 w.heap.size m g w [] (((((w.alloc (.cells #[.string m] 9)).alloc (.cells #[.func (.func 37) #[] #[]] 69)).alloc (.cells #[.pointer none, .slice none 0 0] 86)).alloc (.cells #[.int .i64 0] 3)).alloc (.cells #[.int .i64 0] 3)) := by
    have z1 : (w.alloc (.cells #[.string m] 9)).heap.size = w.heap.size + 1 := by simp
    have z2 : ((w.alloc (.cells #[.string m] 9)).alloc (.cells #[.func (.func 37) #[] #[]] 69)).heap.size = w.heap.size + 2 := by simp
    have z3 : (((w.alloc (.cells #[.string m] 9)).alloc (.cells #[.func (.func 37) #[] #[]] 69)).alloc (.cells #[.pointer none, .slice none 0 0] 86)).heap.size = w.heap.size + 3 := by simp
    have z4 : ((((w.alloc (.cells #[.string m] 9)).alloc (.cells #[.func (.func 37) #[] #[]] 69)).alloc (.cells #[.pointer none, .slice none 0 0] 86)).alloc (.cells #[.int .i64 0] 3)).heap.size = w.heap.size + 4 := by simp
    refine ⟨.inl ⟨by omega, .slice none 0 0, ?_, ⟨rfl, .inl ⟨rfl, rfl⟩⟩, by simp [Value.ownBlock]⟩, ?_, ?_, ?_, ?_, ?_⟩
    · have := heap_alloc_new ((w.alloc (.cells #[.string m] 9)).alloc (.cells #[.func (.func 37) #[] #[]] 69)) (.cells #[.pointer none, .slice none 0 0] 86)
      rw [z2] at this
      exact D_alloc_get _ (D_alloc_get _ this)
    · exact D_alloc_get _ (D_alloc_get _ (D_alloc_get _ (D_alloc_get _ (heap_alloc_new w _))))
    · have := heap_alloc_new (w.alloc (.cells #[.string m] 9)) (.cells #[.func (.func 37) #[] #[]] 69)
      rw [z1] at this
      exact D_alloc_get _ (D_alloc_get _ (D_alloc_get _ this))
    · have := heap_alloc_new (((w.alloc (.cells #[.string m] 9)).alloc (.cells #[.func (.func 37) #[] #[]] 69)).alloc (.cells #[.pointer none, .slice none 0 0] 86)) (.cells #[.int .i64 0] 3)
      rw [z3] at this
      exact D_alloc_get _ this
    · have := heap_alloc_new ((((w.alloc (.cells #[.string m] 9)).alloc (.cells #[.func (.func 37) #[] #[]] 69)).alloc (.cells #[.pointer none, .slice none 0 0] 86)).alloc (.cells #[.int .i64 0] 3)) (.cells #[.int .i64 0] 3)
      rw [z4] at this
      exact this
    · exact (((((Below.refl _ w).alloc (Nat.le_refl _) _).alloc (by omega) _).alloc (by omega) _).alloc (by omega) _).alloc (by omega) _
  have HW5 := Aside0.mk hw5
  clear hw5
  have heach := fun W5 (h5 : RepI 37 w.heap.size m g w [] W5) => charref_each_calls k m attr #[.pointer (some ⟨w.heap.size + 1 + 1, 0, none⟩), .pointer (some ⟨w.heap.size, 0, none⟩), .pointer (some ⟨w.heap.size + 1 + 1 + 1, 0, none⟩), .pointer (some ⟨w.heap.size + 1, 0, none⟩), .pointer (some ⟨w.heap.size + 1 + 1 + 1 + 1, 0, none⟩)]
    refs (RepI 37 w.heap.size m g w) W5 hm HREF.out (fun pre W W' h hb => h.below hb) (by
      rintro pre x W b hinv ⟨post, hpost⟩
      have hmid := Asc.mid (n := m.size) g m.data.toList pre (0, []) x post (by rw [← List.append_cons] at hpost; rw [hpost]; exact HASC.out)
      refine D_rep1_calls w.heap.size m g w pre x W b hinv hmid.1 hmid.2.1 hm ?_ ?_ (HBY.out x (by rw [← hpost]; simp))
      · have h1 := hmid.2.2
        have h2 := hmid.1
        have h3 := hmid.2.1
        simp only [Nat.add_zero] at h1
        omega
      · have h1 := repSt_len g m.data.toList (pre ++ [x]) post
        rw [hpost] at h1
        have h2 := HLEN.out
        unfold repText at h2
        rw [List.length_append] at h2
        omega) h5
  have HEACH := Aside0.mk heach
  clear heach
  have hend := HEND.out
  have hlen := HLEN.out
  unfold repText at hlen
  have htx : repText g m.data.toList refs = (repSt g m.data.toList refs).2 ++ m.data.toList.drop (repSt g m.data.toList refs).1 := rfl
  have HTX := Aside0.mk htx
  clear htx
  change (repSt g m.data.toList refs).1 ≤ m.size ∧ refs.length + 0 ≤ (repSt g m.data.toList refs).1 at hend
  obtain ⟨fr, acc, hst⟩ : ∃ fr acc, repSt g m.data.toList refs = (fr, acc) := ⟨_, _, rfl⟩
  have hri : ∀ W, RepI 37 w.heap.size m g w refs W → Lib.IsBuilderF 86 5 w.heap.size (w.heap.size + 1 + 1) (Lib.byteCells acc) W ∧ W.heap[w.heap.size]? = some (.cells #[.string m] 9 (0, 0)) ∧
      W.heap[w.heap.size + 1 + 1 + 1]? = some (.cells #[.int .i64 (fr : Nat)] 3 (0, 0)) ∧ W.heap[w.heap.size + 1 + 1 + 1 + 1]? = some (.cells #[.int .i64 (refs.length : Nat)] 3 (0, 0)) ∧ Below w.heap.size w W := by
    rintro W ⟨h1, h2, _, h3, h4, h5⟩
    rw [hst] at h1 h3
    exact ⟨h1, h2, h3, h4, h5⟩
  have HRI := Aside0.mk hri
  clear hri
  rw [hst] at hend hlen HTX
  simp only at hend hlen HTX
  clear hst
  rw [List.length_append, List.length_drop] at hlen
  have hml : m.data.toList.length = m.size := by simp
  have HL := Aside0.mk (show acc.length + (m.extract fr m.size).size ≤ 140737488355328 by
    have e : (m.extract fr m.size).size = m.size - fr := by simp
    omega)
  clear hlen hml
  have s1 : ((0 : Int) ≤ (fr : Int)) = True := eq_true (by omega)
  have s2 : ((fr : Int) ≤ (m.size : Int)) = True := eq_true (by omega)
  go_enter Try.func32, Try.ntmps32
  go_wp2_with (first | (go_at_call 39; refine (HEACH.out _ HW5.out).mono ?_; rintro e w6 ⟨rfl, hr6⟩; have hr6' := HRI.out w6 hr6; clear hr6; obtain ⟨hI6, hS6, hF6, hN6, hB6⟩ := hr6'; have HI6 := Aside0.mk hI6; have HS6 := Aside0.mk hS6; have HF6 := Aside0.mk hF6; have HN6 := Aside0.mk hN6; have HB6 := Aside0.mk hB6; clear hI6 hS6 hF6 hN6 hB6; have hcS6 : w6.cell? ⟨w.heap.size, 0, none⟩ = some (.string m) := (blk_cell HS6.out 0).trans rfl; have hcF6 : w6.cell? ⟨w.heap.size + 1 + 1 + 1, 0, none⟩ = some (.int .i64 (fr : Nat)) := (blk_cell HF6.out 0).trans rfl) | (go_at_call 54; refine (bld_WriteString_k w.heap.size (w.heap.size + 1 + 1) (Lib.byteCells acc) (m.extract fr m.size) w6 HI6.out (by rw [Lib.byteCells_length]; exact HL.out) HB6.out.size).mono ?_; rintro e w7 ⟨rfl, hb7, hbel7, hok7⟩; have HI7 := Aside0.mk hb7; have HBEL7 := Aside0.mk hbel7; have HN7 := Aside0.mk (hok7 (w.heap.size + 1 + 1 + 1 + 1) _ HN6.out (by intro e; have e := Option.some.inj e; omega) (fun c fz e => by cases e)); clear hb7 hbel7 hok7; have hcN7 : w7.cell? ⟨w.heap.size + 1 + 1 + 1 + 1, 0, none⟩ = some (.int .i64 (refs.length : Nat)) := (blk_cell HN7.out 0).trans rfl))
  have hb7 : Lib.IsBuilderF 86 5 w.heap.size (w.heap.size + 1 + 1) (Lib.byteCells (acc ++ m.data.toList.drop fr)) w7 := by
    have e : (m.extract fr m.size).data.toList = m.data.toList.drop fr := by
      rw [Lib.extract_data, List.take_of_length_le (by simp)]
    rw [Lib.byteCells_append, ← e]
    exact .inr HI7.out
  have HSTR := Aside0.mk (Try.Builder_String_any_k w.heap.size (w.heap.size + 1 + 1) (acc ++ m.data.toList.drop fr) w7.drew hb7 (Nat.le_trans HB6.out.size HBEL7.out.size))
  clear hb7
  go_region_with (go_at_call 55; refine HSTR.out.mono ?_; rintro e w8 ⟨rfl, _, hbel8, hok8⟩; have HBEL8 := Aside0.mk hbel8; have HN8 := Aside0.mk (hok8 (w.heap.size + 1 + 1 + 1 + 1) _ HN7.out (by intro e; have e := Option.some.inj e; omega) (fun c fz e => by cases e)); clear hbel8 hok8; have hcN8 : w8.cell? ⟨w.heap.size + 1 + 1 + 1 + 1, 0, none⟩ = some (.int .i64 (refs.length : Nat)) := (blk_cell HN8.out 0).trans rfl)
  all_goals (try go_wp2)
  all_goals go_ret2
  all_goals exact ⟨by rw [HTX.out]; rfl, (below_drew (HB6.out.trans HBEL7.out)).trans HBEL8.out⟩
end Go.Proofs.Ytilpbfbnnmclhaa.P
end
section
/-
  utf.Runes: the runes of bytes: a loop over the iterator that collects.
-/
namespace Go.Proofs.Ytilpbfbnnmclhaa.P
open Go.RowKit Go.Shelf Go.Proofs.YtilpbfbnnmclhaaW.PrintWords Go.Proofs.YtilpbfbnnmclhaaW.PrintLast Go.Proofs.YtilpbfbnnmclhaaW.PrintMore
set_option linter.unusedVariables false
set_option linter.unusedSimpArgs false
attribute [local go_sem] Oper.semAt_some

theorem mid_append {m0 n0 B : Nat} {W w1 : World} {e : TypeId} {v v' : Value} {k : Nat} {xs : List Value} {tmp : Obj} (hB : B < m0) (hn0 : n0 ≤ W.heap.size) (hrow : W.ownsRow n0 e 1 v k xs)
    (hgrow : (W.alloc tmp).grownBy w1 v.ownBlock) : Mid m0 n0 W (w1.setCell ⟨B, 0, none⟩ v') := by
  refine ((Mid.below ((Below.refl n0 W).alloc hn0 tmp)).trans (Mid.grown hgrow (by simp; omega) (fun r hr => .inr (own_base hrow r hr)))).trans ?_
  intro i h1 h2
  exact Below.heap_setCell _ _ _ i (by show i ≠ B; omega)

set_option maxRecDepth 100000 in
set_option maxHeartbeats 4000000 in
theorem utf_Runes_calls (hrd : ReadTells) (A : Option Addr) (c0 : Nat) (bs : List UInt8) (w : World) (hr : Kd.C (Kd.int .u8) w A (zs bs).length (zs bs)) (hlen : bs.length ≤ 35184372088831) :
    Calls Try.prog 56 #[.slice A (zs bs).length c0] w fun e w' => ∃ v : Value, e = .returned v ∧ w'.ownsRow w.heap.size 21 1 v (runes bs).length (nums .i32 (runes bs)) ∧ Below w.heap.size w w' := by
  have HR := Aside0.mk hr
  have HRD := Aside0.mk hrd
  have hzl : (zs bs).length = bs.length := zs_length bs
  have HZL := Aside0.mk hzl
  have hpl : ∀ n (l : List UInt8) p, l.length ≤ n → (pcs p l).length ≤ l.length := by
    intro n
    induction n with
    | zero =>
      intro l p h
      obtain rfl : l = [] := List.eq_nil_of_length_eq_zero (by omega)
      simp [pcs_nil]
    | succ n ih =>
      intro l p h
      by_cases hne : l = []
      · subst hne; simp [pcs_nil]
      · have hw := (rdL_facts l hne).1
        have hl : 0 < l.length := List.length_pos_iff.2 hne
        rw [pcs_step p l hne]
        have := ih (l.drop (rdL l).2.1) (p + (rdL l).2.1) (by rw [List.length_drop]; omega)
        rw [List.length_drop] at this
        simp only [List.length_cons]
        omega
  have HPL := Aside0.mk (hpl _ bs 0 (Nat.le_refl _))
  clear hr hrd hzl hpl
  obtain ⟨i0, hi, hz0, hz1, hz2⟩ := info_parts info21
  refine (callsIn_wide (n := 4)).1 ?_
  refine callsIn_of_wp_marks Try.func56 rfl trivial ?_ rfl
  simp only [Try.ntmps56, List.size_toArray, List.length_cons, List.length_nil, Nat.reduceAdd, Nat.reduceSub, Array.replicate_succ, Array.replicate_zero, List.push_toArray, List.append_toArray, List.nil_append, List.cons_append]
  generalize hL : zs bs = L at HR HZL ⊢
  have HL := Aside0.mk hL
  clear hL
  gi_wp2_with (refine ⟨trivial, ?_⟩; gi_at_call 76; refine (callsIn_wide.2 (utf_All_calls A c0 L _ (Kd.C_alloc HR.out _) (by have := HZL.out; omega))).mono ?_; rintro e w1 ⟨rfl, ⟨v, hbox, hR⟩, hB⟩)
  simp only [World.size_alloc] at hbox hR hB ⊢
  obtain ⟨A', cap', rfl⟩ := Kd.R_slice hR
  have hR' := BytesAt.of_R hR
  have hbO : Boxed w1 w.heap.size 29 (.slice none 0 0) := (hB.block w.heap.size (by omega)).trans (heap_alloc_new w _)
  have hB0 : Below w.heap.size w w1 := ((Below.refl _ w).alloc (Nat.le_refl _) _).trans (hB.mono (by omega))
  have hbN : w1.cell? ⟨w.heap.size + 1, 0, none⟩ = some (.slice A' L.length cap') := (blk_cell hbox 0).trans rfl
  have hsz : w.heap.size + 1 < w1.heap.size := (Array.getElem?_eq_some_iff.1 hbox).1
  rw [HZL.out] at hbN hR'
  clear hR hbox
  have hBY : BytesAt (w.heap.size + 1) w1.heap.size w1 A' (zs bs) := by rw [HL.out]; exact hR'.1
  have hcap' := hR'.2
  clear hR'
  generalize hn0 : w1.heap.size = n0 at hsz hBY
  have HN0 := Aside0.mk hn0
  clear hn0
  refine wpIn_rangeFunc_ownG rfl (by omega) (gf := 84) (lb := #[.pointer (some ⟨w.heap.size + 1, 0, none⟩)]) rfl trivial (enters_of Try.func84 (by kernel_rfl) rfl)
    (all_stops HRD.out _ (by omega) (w.heap.size + 1) (w.heap.size + 1) n0 A' cap' bs (by omega) hcap' w1 ⟨Nat.le_refl _, hsz⟩ (by rw [HN0.out]; exact Nat.le_refl _) hbN hBY) Mid.trans
    (fun W l o o' hl h _ _ => Mid.putObj (by rw [← HN0.out]; exact hl) h) (Below.refl _ _) (fun _ => rfl)
    (fun pre W => (∃ v, Boxed W w.heap.size 29 v ∧ W.ownsRow n0 21 1 v pre.length (pre.map fun p => Value.int .i32 p.2) ∧ True) ∧ (Below w.heap.size w W ∧ n0 ≤ W.heap.size))
    (fun _ _ _ => False)
    (OwnFrom.and (Own.from (holdsRow_own n0 w.heap.size 29 21 1 (fun pre : List (Nat × Int) => pre.length) (fun pre => pre.map fun p => Value.int .i32 p.2) (fun _ _ => True)) _) (OwnFrom.and (ownFrom_below (Nat.le_refl _) (by rw [HN0.out]; omega)) (fun _ _ _ _ hs hg _ => Nat.le_trans hs hg.size)))
    (fun _ _ _ _ _ hs _ _ => hs)
    ⟨⟨_, hbO, World.ownsRow_nil _ _ _ _, trivial⟩, hB0, by rw [HN0.out]; exact Nat.le_refl _⟩
    (fun x => { tmps := #[.slice A L.length c0, undef, .slice none 0 0, .pointer (some ⟨w.heap.size, 0, none⟩), undef, .int .i32 x.2, .slice A L.length c0, .func (.func 84) #[] #[.pointer (some ⟨w.heap.size + 1, 0, none⟩)], .int .i64 (x.1 : Nat), .int .i32 x.2, undef, undef, undef, undef, undef], defers := [] }) ?assign ?body ?done ?stop
  case assign =>
    intro l x W K hK
    gi_wp2
    exact hK
  case body =>
    rintro l pre x W ⟨⟨v, hv, hrow, _⟩, hB, hn0W⟩ hlt
    have hplm := HPL.out
    have hc := hv.cell
    have hrow' := own_less hrow (show w.heap.size ≤ n0 by omega)
    gi_wp2_with (gi_at_builtin; refine wpListIn_append_own _ rfl _ _ 29 rfl n0 21 i0 (.int .i32 0) 1 4 Try.underlying29 hi hz0 hz1 hz2 rfl (by decide) _ _ _ rfl (hrow.alloc _) ⟨W.heap.size, 0, none⟩ 1 1 [.int .i32 x.2] rfl rfl (cell_one_new _ _ _) (by simp [Value.oneCell']) (by simp only [maxLen]; omega) (by omega) (by simp; omega) ?_; intro v' w2 hown' hgrow _; obtain ⟨g', cap2, rfl⟩ := ownsRow_succ hown'; obtain ⟨hv1, hv2, hr2, hk2, hb2⟩ := hv.appended (by decide) hrow' (by have := hB.size; omega) (Nat.le_refl _) (own_less hown' (show w.heap.size ≤ n0 by omega)) hgrow; have hc1 := hv1.cell; have hf1 := hv1.frozen)
    have hmid := mid_append (m0 := w.heap.size + 1) (B := w.heap.size) (e := 21) (v' := .slice (some ⟨g', 0, none⟩) (pre.length + 1) cap2) (by omega) hn0W hrow hgrow
    have hr3 := hown'.kept (grownBy_setCell' w2 w.heap.size (.slice (some ⟨g', 0, none⟩) (pre.length + 1) cap2)) (.inr (hv1.not_row (by decide) hown').symm)
    exact ⟨hk2.from _, hmid, ⟨_, hv2, by simpa using hr3, trivial⟩, hB.trans hb2, Nat.le_trans hn0W hb2.size⟩
  case done =>
    rintro D ys W hD rfl ⟨⟨v, hv, hrow, _⟩, hB, _⟩ hK
    have hc := hv.cell
    gi_wp2
    refine ⟨by simp, .inl ⟨_, _, rfl, run_takeDeferred hK, ?_⟩⟩
    refine ⟨_, results_tmp rfl _ _ _, v, rfl, ?_, hB.trans (belowK_b (w := w) (Nat.le_refl _) W D _ _ (by rw [HN0.out] at hD; omega) hK rfl rfl)⟩
    have := ownsRow_putObj (own_less hrow (show w.heap.size ≤ n0 by omega)) (.deferred none) hK rfl
    have e1 := pcs_runes _ bs 0 (Nat.le_refl _)
    rw [← e1]
    simpa [nums, List.map_map, Function.comp_def] using this
  case stop =>
    rintro D c pre W _ _ h _
    exact h.elim
end Go.Proofs.Ytilpbfbnnmclhaa.P
end
section
/-
  utf.Mend: a text of valid bytes alone.
-/
namespace Go.Proofs.Ytilpbfbnnmclhaa.P
open Go.RowKit Go.Proofs.YtilpbfbnnmclhaaW.PrintWords Go.Proofs.YtilpbfbnnmclhaaW.PrintLast Go.Proofs.YtilpbfbnnmclhaaW.PrintMore
set_option linter.unusedVariables false
set_option linter.unusedSimpArgs false

/-! ### plain -/
/-- what the loop of utf.Mend asks at the head of bytes, by the model's own decode -/
def badL (l : List UInt8) : Bool := decide ((Lib.decodeL l).1 = 65533) && (decide (l.length < 3) || decide (l.take 3 ≠ [239, 191, 189]))
theorem enc_fffd : Lib.encodeRune ((65533 : Nat) : Int) = [239, 191, 189] := by decide +kernel
theorem badL_of (l : List UInt8) (hne : l ≠ []) : badL l = decide ((rdL l).2.2 ≠ 0) := by
  have hd := rdL_decode l hne
  have hf := rdL_facts l hne
  unfold badL
  by_cases h : (rdL l).2.2 = 0
  · rw [if_pos h] at hd
    rw [hd]
    have hw := rdL_whole l h hne
    by_cases h1 : (rdL l).1 = 65533
    · rw [h1, enc_fffd] at hw
      have e3 : l.take 3 = [239, 191, 189] := by rw [hw]; simp
      have el : ¬ l.length < 3 := by rw [hw]; simp
      simp [h, h1, e3, el]
    · simp [h, h1]
  · rw [if_neg h] at hd
    rw [hd]
    have : ¬ (3 ≤ l.length ∧ l.take 3 = [239, 191, 189]) := by
      rintro ⟨h3, ht⟩
      apply h
      have e : l = [239, 191, 189] ++ l.drop 3 := by rw [← ht, List.take_append_drop]
      rw [e]
      unfold rdL
      simp only [List.cons_append, List.nil_append, List.getD_cons_zero, List.getD_cons_succ]
      unfold rdN
      rw [List.length_cons, List.length_cons, List.length_cons]
      simp
    by_cases h3 : l.length < 3
    · simp [h, h3]
    · have : l.take 3 ≠ [239, 191, 189] := fun e => this ⟨by omega, e⟩
      simp [h, this]
theorem valid_dec (l : List UInt8) (hne : l ≠ []) : valid l = if badL l = true then false else valid (l.drop (Lib.decodeL l).2) := by
  rw [valid_step l hne, badL_of l hne, rdL_decode l hne]
  by_cases h : (rdL l).2.2 = 0
  · simp [h]
  · simp [h]

def mendS (s : ByteArray) : ByteArray := if valid s.data.toList = true then s else Hc_text (runes s.data.toList)

def utf_Mend.f (s : ByteArray) : Option ByteArray := if s.size ≤ 35184372088831 then some (mendS s) else none

theorem take3_extract (s : ByteArray) (pos : Nat) : (s.extract pos (pos + 3)).toList = (s.data.toList.drop pos).take 3 := by
  rw [Lib.extract_toList]
  congr 1
  omega

set_option maxRecDepth 100000 in
set_option maxHeartbeats 4000000 in
theorem utf_Mend.calls (s : ByteArray) (r : ByteArray) (w : World) (h : utf_Mend.f s = some r) :
    Calls Try.prog 33 #[.string s] w fun e w' => e = .returned (.string r) ∧ Below w.heap.size w w' := by
  unfold utf_Mend.f at h
  by_cases hsz : s.size ≤ 35184372088831
  case neg => rw [if_neg hsz] at h; cases h
  rw [if_pos hsz] at h
  have hr := Option.some.inj h
  clear h
  have HR := Aside0.mk hr
  clear hr
  go_enter Try.func33, Try.ntmps33
  go_wp2
  go_loopw [3] (fun v wr => ∃ (pos : Nat) (b : Bool), v = .bool b ∧ pos ≤ s.size ∧ Aside0 ((b && valid (s.data.toList.drop pos)) = valid s.data.toList) ∧ wr.heap[w.heap.size]? = some (.stringIter s pos) ∧ Below w.heap.size w wr) (fun _ wr => s.size - wr.iterPos w.heap.size)
  case atStart =>
    refine ⟨0, true, rfl, Nat.zero_le _, ⟨by simp⟩, ?_, ?_⟩
    · have := World.iter_heap w s 0
      simpa using this
    · exact (Below.refl _ w).alloc (Nat.le_refl _) _
  case round =>
    obtain ⟨pos, b, rfl, hpl, hv, hit, hbw⟩ := hrel
    have hlt0 : w.heap.size < wr.heap.size := (Array.getElem?_eq_some_iff.1 hit).1
    by_cases hp : pos < s.size
    · have hnx : ∀ ty, (Instr.next (.pointer (some ⟨w.heap.size, 0, none⟩)) true ty).run Try.prog wr = _ := fun ty => Lib.run_next_any_at wr w.heap.size s pos ty hit hp
      have hd1 := decode_le s pos
      have hwd : 1 ≤ (Utf8.decode s pos).2 := by
        by_cases ha : (s[pos]'hp).toNat < 128
        · rw [decode_ascii s pos hp ha]
          exact Nat.le_refl _
        · exact (decode_high s pos hp (by omega)).2
      have hne : s.data.toList.drop pos ≠ [] := by
        intro e
        have := congrArg List.length e
        simp at this
        have h2 : s.data.size = s.size := rfl
        omega
      have hlen : (s.data.toList.drop pos).length = s.size - pos := by simp
      have hvd := valid_dec _ hne
      rw [Lib.decodeL_drop, List.drop_drop] at hvd
      have hbd : badL (s.data.toList.drop pos) = (decide ((Utf8.decode s pos).1 = 65533) && (decide (s.size - pos < 3) || decide ((s.extract pos (pos + 3)).toList ≠ [239, 191, 189]))) := by
        unfold badL
        rw [Lib.decodeL_drop, hlen, take3_extract]
      have hit2 := Lib.iterAt_heap wr w.heap.size s pos (pos + (Utf8.decode s pos).2) hit
      have hbw2 := Lib.below_iterAt hbw (k := w.heap.size) (by omega) s (pos + (Utf8.decode s pos).2)
      have hps : pos + (Utf8.decode s pos).2 ≤ s.size := by
        have h1 := rdL_decode _ hne
        rw [Lib.decodeL_drop] at h1
        have h2 := rdL_facts _ hne
        have h3 := h2.2.1
        rw [hlen] at h3
        rw [h1]
        split <;> simp only <;> omega
      rw [hbd] at hvd
      have HVD := Aside0.mk hvd
      clear hvd hbd hlen hne
      have hme : s.size - (wr.iterAt w.heap.size s (pos + (Utf8.decode s pos).2)).iterPos w.heap.size < s.size - wr.iterPos w.heap.size := by
        simp only [World.iterPos, hit2, hit]
        omega
      have HME := Aside0.mk hme
      clear hme hwd
      by_cases h1 : (Utf8.decode s pos).1 = 65533
      · by_cases h2 : s.size - pos < 3
        · have hw : IntKind.i64.wrap ((s.size : Int) - (pos : Int)) = (s.size : Int) - (pos : Int) := IntWalk.i64_in _ (by omega)
          have hlt3 : decide ((s.size : Int) - (pos : Int) < 3) = true := decide_eq_true (by omega)
          have hvf : valid (s.data.toList.drop pos) = false := by rw [HVD.out]; simp [h1, h2]
          have HVF := Aside0.mk hvf
          clear hvf
          go_wp2
          refine ⟨⟨_, false, rfl, hps, ⟨?_⟩, hit2, hbw2⟩, HME.out⟩
          rw [← hv.out, HVF.out]
          simp
        · have hw : IntKind.i64.wrap ((s.size : Int) - (pos : Int)) = (s.size : Int) - (pos : Int) := IntWalk.i64_in _ (by omega)
          have hlt3 : decide ((s.size : Int) - (pos : Int) < 3) = false := decide_eq_false (by omega)
          have hw3 : IntKind.i64.wrap ((pos : Int) + 3) = (pos : Int) + 3 := IntWalk.i64_in _ (by omega)
          have k1 : ((0 : Int) ≤ (pos : Int)) = True := eq_true (by omega)
          have k2 : ((pos : Int) ≤ (pos : Int) + 3) = True := eq_true (by omega)
          have k3 : ((pos : Int) + 3 ≤ (s.size : Int)) = True := eq_true (by omega)
          have k4 : ((pos : Int) + 3).toNat = pos + 3 := by omega
          by_cases h3 : (s.extract pos (pos + 3)).toList = [239, 191, 189]
          · have hvf : valid (s.data.toList.drop pos) = valid (s.data.toList.drop (pos + (Utf8.decode s pos).2)) := by rw [HVD.out]; simp [h1, h2, h3]
            have HVF := Aside0.mk hvf
            clear hvf
            go_wp2
            refine ⟨⟨_, b, rfl, hps, ⟨?_⟩, hit2, hbw2⟩, HME.out⟩
            rw [← hv.out, HVF.out]
          · have hvf : valid (s.data.toList.drop pos) = false := by rw [HVD.out]; simp [h1, h2, h3]
            have HVF := Aside0.mk hvf
            clear hvf
            have h3b : ((s.extract pos (pos + 3)).toList == [239, 191, 189]) = false := beq_eq_false_iff_ne.2 h3
            go_wp2
            refine ⟨⟨_, false, rfl, hps, ⟨?_⟩, hit2, hbw2⟩, HME.out⟩
            rw [← hv.out, HVF.out]
            simp
      · have hvf : valid (s.data.toList.drop pos) = valid (s.data.toList.drop (pos + (Utf8.decode s pos).2)) := by rw [HVD.out]; simp [h1]
        have HVF := Aside0.mk hvf
        clear hvf
        go_wp2
        refine ⟨⟨_, b, rfl, hps, ⟨?_⟩, hit2, hbw2⟩, HME.out⟩
        rw [← hv.out, HVF.out]
    · obtain rfl : pos = s.size := by omega
      have hnx : ∀ ty, (Instr.next (.pointer (some ⟨w.heap.size, 0, none⟩)) true ty).run Try.prog wr = _ := fun ty => Lib.run_next_end_at wr w.heap.size s s.size ty hit hp
      have hvb : b = valid s.data.toList := by
        have := hv.out
        rw [List.drop_eq_nil_of_le (by simp), valid_nil, Bool.and_true] at this
        exact this
      have HVB := Aside0.mk hvb
      clear hvb hv
      cases b with
      | true =>
        have hm := HR.out
        unfold mendS at hm
        rw [if_pos HVB.out.symm] at hm
        subst hm
        go_wp2
        go_ret
        exact ⟨rfl, hbw⟩
      | false =>
        have hnv : ¬ valid s.data.toList = true := by rw [← HVB.out]; simp
        have HM := HR.out
        unfold mendS at HM
        rw [if_neg hnv] at HM
        have HMR := Aside0.mk HM
        clear HM hnv
        have hcv := Lib.run_convert_string_bytes (P := Try.prog) wr 9 31 5 s Try.underlying9 Try.underlying31 Try.underlying5
        have hbb := Lib.bytesWorld_below wr 5 s
        have hbs := Lib.bytesWorld_size wr 5 s
        have hrd : Kd.C (Kd.int .u8) (Lib.bytesWorld wr 5 s) (some ⟨wr.heap.size, 0, none⟩) s.size (zs s.data.toList) :=
          Kd.C_of_reads (enc := Value.int .u8) (d := (0 : Int)) (h1 := fun _ => rfl) ⟨by simp [zs], by omega, fun _ => ⟨_, rfl, fun j hj => by
            rw [add_plain, Lib.bytesWorld_cell wr 5 s j hj]
            have := rd_zs s.data.toList j
            unfold rd at this
            rw [Int.toNat_natCast] at this
            rw [this]⟩⟩
        have hz : (zs s.data.toList).length = s.size := by simp [zs]
        rw [← hz] at hrd
        have hcall := utf_Runes_calls read_tells (some ⟨wr.heap.size, 0, none⟩) (Go.grownCap wr s.size 0 5) s.data.toList _ hrd (by simp; omega)
        rw [hz] at hcall
        have HC := Aside0.mk hcall
        have HBB := Aside0.mk hbb
        clear hcall hrd hz hbb
        go_wp2_with (go_at_call 56; refine HC.out.mono ?_; rintro e w2 ⟨v, rfl, hown, hb2⟩; have hcv2 := Hc_own_runes (P := Try.prog) (src := 29) (dst := 9) (e := 21) Try.underlying29 Try.underlying21 Try.underlying9 hown)
        go_ret
        have hm := HMR.out
        subst hm
        exact ⟨rfl, hbw.trans ((HBB.out.trans (hb2.mono (by omega))).mono (by omega))⟩
end Go.Proofs.Ytilpbfbnnmclhaa.P
end
section
/-
  charref.Decode: every reference replaced.
-/
namespace Go.Proofs.Ytilpbfbnnmclhaa.P
open Go.RowKit Go.Shelf Go.Proofs.YtilpbfbnnmclhaaW.PrintWords Go.Proofs.YtilpbfbnnmclhaaW.PrintLast Go.Proofs.YtilpbfbnnmclhaaW.PrintMore
set_option linter.unusedVariables false
set_option linter.unusedSimpArgs false

theorem refsGo_mono (attr : Bool) (s : ByteArray) : ∀ (k i : Nat), LeO (refsGo attr s k i) (refsGo attr s (k + 1) i)
  | 0, i => fun r h => by simp [refsGo] at h
  | k + 1, i => by
    have ih := refsGo_mono attr s k
    show LeO (refsGo attr s (k + 1) i) (refsGo attr s (k + 1 + 1) i)
    rw [refsGo, refsGo]
    refine LeO.ite ?_ (LeO.refl _)
    refine LeO.ite ?_ (ih _)
    refine LeO.bind (charref_next.mono _ _ _ _) (fun n => ?_)
    refine LeO.ite ?_ (LeO.refl _)
    refine LeO.ite (ih _) ?_
    exact LeO.bind (ih _) (fun _ => LeO.refl _)

def charref_Decode.f (k : Nat) (s : ByteArray) (attr : Bool) : Option ByteArray :=
  (utf_Mend.f s).bind fun m => (refsGo attr m k 0).bind fun refs =>
    if m.size ≤ 35184372088831 ∧ (repText id m.data.toList refs).length ≤ 140737488355328 then some ⟨(repText id m.data.toList refs).toArray⟩ else none
theorem charref_Decode.mono : ∀ s attr k, LeO (charref_Decode.f k s attr) (charref_Decode.f (k + 1) s attr) := by
  intro s attr k
  unfold charref_Decode.f
  refine LeO.bind (LeO.refl _) (fun m => ?_)
  exact LeO.bind (refsGo_mono attr m k 0) (fun _ => LeO.refl _)

theorem Decode1_calls (a : ByteArray) (n : Int) (b : Bool) (w : World) :
    Calls Try.prog 37 #[.agg #[.string a, .int .i64 n, .bool b]] w fun e w' => e = .returned (.string (id a)) ∧ Below w.heap.size w w' := by
  have hu60 := Try.underlying60
  have HB0 := Aside0.mk (Below.refl w.heap.size w)
  go_enter Try.func37, Try.ntmps37
  go_wp2_with (first | ((with_reducible refine gate_dst (N := 1) rfl ?_); refine box_event ?hg (N := 1) ?hd (cs := #[.string a, .int .i64 n, .bool b]) (t := 60) ?hr ?_; (case hd => rfl); (case hg => rfl); (case hr => first | (go_simp; done) | (go_simp; rfl)); intro gb hg w5 hbox hb; have HB5 := Aside0.mk (below_step HB0.out hb); have BK5 := Aside0.mk hbox; clear hb hbox hg; have hcg5 : w5.cell? ⟨gb, 0, none⟩ = some (.string a) := (blk_cell BK5.out 0).trans rfl))
  go_ret
  exact ⟨rfl, HB5.out⟩

set_option maxRecDepth 100000 in
set_option maxHeartbeats 2000000 in
theorem charref_Decode.calls (k : Nat) (s : ByteArray) (attr : Bool) (r : ByteArray) (w : World) (h : charref_Decode.f k s attr = some r) :
    Calls Try.prog 18 #[.string s, .bool attr] w fun e w' => e = .returned (.string r) ∧ Below w.heap.size w w' := by
  obtain ⟨m, hm, h⟩ := Option.bind_eq_some_iff.1 h
  obtain ⟨refs, hrefs, h⟩ := Option.bind_eq_some_iff.1 h
  by_cases hlen : m.size ≤ 35184372088831 ∧ (repText id m.data.toList refs).length ≤ 140737488355328
  case neg => rw [if_neg hlen] at h; cases h
  rw [if_pos hlen] at h
  have hr := Option.some.inj h
  clear h
  obtain ⟨hms, hlen⟩ := hlen
  have HM := Aside0.mk (utf_Mend.calls s m w hm)
  have HREP := Aside0.mk (fun W => D_replaced_calls k m attr id refs W hms hrefs hlen (fun x _ n b W => Decode1_calls x.2.1 n b W))
  have HR := Aside0.mk hr
  clear hm hrefs hlen hms hr
  go_enter Try.func18, Try.ntmps18
  go_wp2_with (first | (go_at_call 33; refine HM.out.mono ?_; rintro e w1 ⟨rfl, hb1⟩) | (go_at_call 32; refine (HREP.out w1).mono ?_; rintro e w2 ⟨rfl, hb2⟩))
  go_ret
  exact ⟨by rw [HR.out]; rfl, hb1.trans (hb2.mono hb1.size)⟩
end Go.Proofs.Ytilpbfbnnmclhaa.P
end
section
/-
  Decoding in plain Lean: a text decoded, and what is sure of a beginning.
-/
namespace Go.Proofs.Ytilpbfbnnmclhaa.P
open Go.RowKit Go.Proofs.YtilpbfbnnmclhaaW.PrintWords Go.Proofs.YtilpbfbnnmclhaaW.PrintLast Go.Proofs.YtilpbfbnnmclhaaW.PrintMore
set_option linter.unusedVariables false
set_option linter.unusedSimpArgs false

/-! ### the whole -/
def dgGo (g : ByteArray → ByteArray) (attr : Bool) : Nat → List UInt8 → List UInt8
  | 0, l => l
  | _ + 1, [] => []
  | n + 1, b :: t => if b = 38 then (if (nextL t attr true).2.1 = 0 then 38 :: dgGo g attr n t else (g (nextL t attr true).1).data.toList ++ dgGo g attr n (t.drop (nextL t attr true).2.1.toNat)) else b :: dgGo g attr n t
def dgL (g : ByteArray → ByteArray) (attr : Bool) (l : List UInt8) : List UInt8 := dgGo g attr l.length l
theorem dgGo_fuel (g : ByteArray → ByteArray) (attr : Bool) : ∀ (n m : Nat) (l : List UInt8), l.length ≤ n → l.length ≤ m → dgGo g attr n l = dgGo g attr m l
  | 0, m, l, hn, _ => by
    obtain rfl : l = [] := List.eq_nil_of_length_eq_zero (by omega)
    cases m <;> rfl
  | n + 1, 0, l, _, hm => by
    obtain rfl : l = [] := List.eq_nil_of_length_eq_zero (by omega)
    rfl
  | n + 1, m + 1, [], _, _ => rfl
  | n + 1, m + 1, b :: t, hn, hm => by
    rw [List.length_cons] at hn hm
    unfold dgGo
    rw [dgGo_fuel g attr n m t (by omega) (by omega), dgGo_fuel g attr n m (t.drop (nextL t attr true).2.1.toNat) (by rw [List.length_drop]; omega) (by rw [List.length_drop]; omega)]
theorem dgL_nil (g : ByteArray → ByteArray) (attr : Bool) : dgL g attr [] = [] := rfl
theorem dgL_cons (g : ByteArray → ByteArray) (attr : Bool) (b : UInt8) (t : List UInt8) :
    dgL g attr (b :: t) = if b = 38 then (if (nextL t attr true).2.1 = 0 then 38 :: dgL g attr t else (g (nextL t attr true).1).data.toList ++ dgL g attr (t.drop (nextL t attr true).2.1.toNat)) else b :: dgL g attr t := by
  unfold dgL
  rw [List.length_cons, dgGo, dgGo_fuel g attr t.length (t.drop (nextL t attr true).2.1.toNat).length (t.drop (nextL t attr true).2.1.toNat) (by rw [List.length_drop]; omega) (Nat.le_refl _)]

theorem drop_cons_at (m : List UInt8) (i : Nat) (h : i < m.length) : m.drop i = m.getD i 0 :: m.drop (i + 1) := lenS i h
theorem take_grow (m : List UInt8) (a i : Nat) (ha : a ≤ i) (hi : i < m.length) : (m.drop a).take (i + 1 - a) = (m.drop a).take (i - a) ++ [m.getD i 0] := by
  have e : i + 1 - a = (i - a) + 1 := by omega
  have hl : i - a < (m.drop a).length := by rw [List.length_drop]; omega
  rw [e, List.take_succ_eq_append_getElem hl]
  congr 2
  rw [List.getElem_drop, List.getD_eq_getElem?_getD, List.getElem?_eq_getElem hi]
  simp only [Option.getD_some]
  congr 1
  omega
/-! ### what is said is short -/
theorem saysE_len (x : Ent) : (saysE x).length ≤ 2 := by unfold saysE; split <;> simp
theorem stepL_two (l : List UInt8) (acc : Nat × List Int) (x : Ent) (h : acc.2.length ≤ 2) : (stepL l acc x).2.length ≤ 2 := by
  unfold stepL
  have hs := saysE_len x
  repeat' split
  all_goals first | exact hs | exact h
theorem foldL_two (l : List UInt8) : ∀ (es : List Ent) (acc : Nat × List Int), acc.2.length ≤ 2 → (es.foldl (stepL l) acc).2.length ≤ 2
  | [], _, h => h
  | x :: t, acc, h => foldL_two l t _ (stepL_two l acc x h)
theorem nextL_short (l : List UInt8) (attr e : Bool) : (nextL l attr e).1.size ≤ 8 := by
  have h2 : (Hc_text (longL l).2).size ≤ 8 := by
    have h1 := foldL_two l ents (0, []) (by simp)
    have h3 := runesBytes_size_le (longL l).2
    unfold Hc_text
    have h4 : (longL l).2.length ≤ 2 := h1
    omega
  have h0 : emp.size ≤ 8 := by decide
  unfold nextL numericL namedL
  repeat' split
  all_goals first | exact h0 | exact h2 | (simp only; have := encode_size_le (numL (hexL l) (List.drop (fromL l) (List.take (atL l) l))).fst; omega)
theorem dgL_len (attr : Bool) : ∀ (n : Nat) (l : List UInt8), l.length ≤ n → (dgL id attr l).length ≤ 8 * l.length
  | 0, l, h => by
    obtain rfl : l = [] := List.eq_nil_of_length_eq_zero (by omega)
    exact Nat.le_refl _
  | n + 1, [], h => Nat.le_refl _
  | n + 1, b :: t, h => by
    rw [List.length_cons] at h
    rw [dgL_cons, List.length_cons]
    have h1 := dgL_len attr n t (by omega)
    split
    · split
      · rw [List.length_cons]
        omega
      · have h2 := dgL_len attr n (t.drop (nextL t attr true).2.1.toNat) (by rw [List.length_drop]; omega)
        have h3 := nextL_short t attr true
        rw [List.length_drop] at h2
        rw [List.length_append]
        have h4 : (id (nextL t attr true).1).data.toList.length = (nextL t attr true).1.size := by simp
        omega
    · rw [List.length_cons]
      omega
theorem mendS_list (s : ByteArray) : (mendS s).data.toList = mendL s.data.toList := by
  unfold mendS
  by_cases h : valid s.data.toList = true
  · rw [if_pos h, mendL_of_valid _ h]
  · rw [if_neg h]
    exact runesBytes_list _
theorem mendL_len4 (l : List UInt8) : (mendL l).length ≤ 4 * l.length := by
  unfold mendL
  have h1 : ∀ xs : List Int, (text xs).length ≤ 4 * xs.length := by
    intro xs
    induction xs with
    | nil => exact Nat.le_refl _
    | cons x t ih =>
      rw [text_cons, List.length_append, List.length_cons]
      have : (Lib.encodeRune x).length ≤ 4 := by
        unfold Lib.encodeRune
        rw [List.length_map]
        exact (Lib.encodeRuneZ_length x).2
      omega
  have h2 : ∀ (n : Nat) (l : List UInt8), l.length ≤ n → (runes l).length ≤ l.length := by
    intro n
    induction n with
    | zero =>
      intro l h
      obtain rfl : l = [] := List.eq_nil_of_length_eq_zero (by omega)
      exact Nat.le_refl _
    | succ n ih =>
      intro l h
      by_cases hne : l = []
      · subst hne
        exact Nat.le_refl _
      · have hw := (rdL_facts l hne).1
        have hl : 0 < l.length := List.length_pos_iff.2 hne
        rw [runes_step l hne, List.length_cons]
        have := ih (l.drop (rdL l).2.1) (by rw [List.length_drop]; omega)
        rw [List.length_drop] at this
        omega
  have h3 := h1 (runes l)
  have h4 := h2 _ l (Nat.le_refl _)
  omega
/-! ### what is sure of a beginning -/
def decGo (attr e : Bool) : Nat → List UInt8 → List UInt8 × List UInt8
  | 0, l => ([], l)
  | _ + 1, [] => ([], [])
  | n + 1, b :: t =>
    if b = 38 then
      (if (nextL t attr e).2.2 = true then
        ((if (nextL t attr e).2.1 = 0 then [38] else []) ++ ((nextL t attr e).1.data.toList ++ (decGo attr e n (t.drop (nextL t attr e).2.1.toNat)).1), (decGo attr e n (t.drop (nextL t attr e).2.1.toNat)).2)
       else ([], b :: t))
    else (b :: (decGo attr e n t).1, (decGo attr e n t).2)
def decL (attr e : Bool) (l : List UInt8) : List UInt8 × List UInt8 := decGo attr e l.length l
theorem decGo_fuel (attr e : Bool) : ∀ (n m : Nat) (l : List UInt8), l.length ≤ n → l.length ≤ m → decGo attr e n l = decGo attr e m l
  | 0, m, l, hn, _ => by
    obtain rfl : l = [] := List.eq_nil_of_length_eq_zero (by omega)
    cases m <;> rfl
  | n + 1, 0, l, _, hm => by
    obtain rfl : l = [] := List.eq_nil_of_length_eq_zero (by omega)
    rfl
  | n + 1, m + 1, [], _, _ => rfl
  | n + 1, m + 1, b :: t, hn, hm => by
    rw [List.length_cons] at hn hm
    unfold decGo
    rw [decGo_fuel attr e n m t (by omega) (by omega), decGo_fuel attr e n m (t.drop (nextL t attr e).2.1.toNat) (by rw [List.length_drop]; omega) (by rw [List.length_drop]; omega)]
theorem decL_nil (attr e : Bool) : decL attr e [] = ([], []) := rfl
theorem decL_cons (attr e : Bool) (b : UInt8) (t : List UInt8) : decL attr e (b :: t) =
    if b = 38 then
      (if (nextL t attr e).2.2 = true then
        ((if (nextL t attr e).2.1 = 0 then [38] else []) ++ ((nextL t attr e).1.data.toList ++ (decL attr e (t.drop (nextL t attr e).2.1.toNat)).1), (decL attr e (t.drop (nextL t attr e).2.1.toNat)).2)
       else ([], b :: t))
    else (b :: (decL attr e t).1, (decL attr e t).2) := by
  unfold decL
  rw [List.length_cons, decGo, decGo_fuel attr e t.length (t.drop (nextL t attr e).2.1.toNat).length (t.drop (nextL t attr e).2.1.toNat) (by rw [List.length_drop]; omega) (Nat.le_refl _)]
theorem nextL_zero (l : List UInt8) (attr e : Bool) (h : (nextL l attr e).2.1 = 0) : (nextL l attr e).1 = emp := by
  have hn : (namedL l attr e).2.1 = 0 → (namedL l attr e).1 = emp := by
    unfold namedL
    intro h
    split at h
    · rename_i c1; rw [if_pos c1]
    · rename_i c1
      rw [if_neg c1]
      split at h
      · rename_i c2; rw [if_pos c2]
      · rename_i c2
        rw [if_neg c2]
        split at h
        · rename_i c3
          rw [if_pos c3]
          split at h
          · rename_i c4
            rw [if_pos c4]
            split at h
            · simp only at h; omega
            · rename_i c5; rw [if_neg c5]
          · rename_i c4
            rw [if_neg c4]
            split at h
            · rename_i c5; rw [if_pos c5]
            · rename_i c5
              rw [if_neg c5]
              split at h
              · rename_i c6; rw [if_pos c6]
              · simp only at h; omega
        · simp only at h; omega
  unfold nextL at h ⊢
  by_cases c : l ≠ [] ∧ l.getD 0 0 = 35
  · rw [if_pos c] at h ⊢
    have hf := fromL_pos l
    unfold numericL at h ⊢
    by_cases c1 : l.length = 1
    · rw [if_pos c1]
    rw [if_neg c1] at h ⊢
    by_cases c2 : atL l = l.length ∧ e = false
    · rw [if_pos c2]
    rw [if_neg c2] at h ⊢
    by_cases c3 : atL l = fromL l
    · rw [if_pos c3]
    rw [if_neg c3] at h
    exfalso
    have ha : fromL l ≤ atL l := by unfold atL; omega
    simp only at h
    split at h <;> omega
  · rw [if_neg c] at h ⊢
    exact hn h
/-- at the end all is told -/
theorem decL_end (attr : Bool) : ∀ (n : Nat) (l : List UInt8), l.length ≤ n → decL attr true l = (dgL id attr l, [])
  | 0, l, h => by
    obtain rfl : l = [] := List.eq_nil_of_length_eq_zero (by omega)
    rfl
  | n + 1, [], h => rfl
  | n + 1, b :: t, h => by
    rw [List.length_cons] at h
    rw [decL_cons, dgL_cons, decL_end attr n t (by omega), decL_end attr n (t.drop (nextL t attr true).2.1.toNat) (by rw [List.length_drop]; omega), nextL_end t attr]
    by_cases c : b = 38
    · rw [if_pos c, if_pos c, if_pos rfl]
      by_cases c0 : (nextL t attr true).2.1 = 0
      · rw [if_pos c0, if_pos c0, nextL_zero t attr true c0, c0]
        rfl
      · rw [if_neg c0, if_neg c0]
        rfl
    · rw [if_neg c, if_neg c]
/-- what was sure stays; it goes on with the rest -/
theorem decL_app (attr e : Bool) (u : List UInt8) : ∀ (n : Nat) (l : List UInt8), l.length ≤ n →
    decL attr e (l ++ u) = ((decL attr false l).1 ++ (decL attr e ((decL attr false l).2 ++ u)).1, (decL attr e ((decL attr false l).2 ++ u)).2)
  | 0, l, h => by
    obtain rfl : l = [] := List.eq_nil_of_length_eq_zero (by omega)
    rfl
  | n + 1, [], h => rfl
  | n + 1, b :: t, h => by
    rw [List.length_cons] at h
    rw [decL_cons attr false]
    by_cases c : b = 38
    · rw [if_pos c]
      by_cases hs : (nextL t attr false).2.2 = true
      · have hz := nextL_size t attr false
        have hn : nextL (t ++ u) attr e = nextL t attr false := by rw [nextL_app t u attr e hs, nextL_is t attr hs]
        rw [if_pos hs, List.cons_append, decL_cons, if_pos c, hn, if_pos hs]
        have hd : (t ++ u).drop (nextL t attr false).2.1.toNat = t.drop (nextL t attr false).2.1.toNat ++ u := List.drop_append_of_le_length (by omega)
        rw [hd, decL_app attr e u n (t.drop (nextL t attr false).2.1.toNat) (by rw [List.length_drop]; omega)]
        simp only [List.append_assoc]
      · rw [if_neg hs]
        rfl
    · rw [if_neg c, List.cons_append, decL_cons, if_neg c, decL_app attr e u n t (by omega)]
      rfl
theorem getD_drop2 (l : List UInt8) (p i : Nat) : (l.drop p).getD i 0 = l.getD (p + i) 0 := by
  simp [List.getD_eq_getElem?_getD, List.getElem?_drop]
/-- the rest is an end of the text; it is nothing, or begins with an & -/
theorem decL_rest (attr e : Bool) : ∀ (n : Nat) (l : List UInt8), l.length ≤ n → ∃ i, i ≤ l.length ∧ (decL attr e l).2 = l.drop i ∧ (i = l.length ∨ l.getD i 0 = 38)
  | 0, l, h => by
    obtain rfl : l = [] := List.eq_nil_of_length_eq_zero (by omega)
    exact ⟨0, Nat.le_refl _, rfl, .inl rfl⟩
  | n + 1, [], h => ⟨0, Nat.le_refl _, rfl, .inl rfl⟩
  | n + 1, b :: t, h => by
    rw [List.length_cons] at h
    rw [decL_cons]
    by_cases c : b = 38
    · rw [if_pos c]
      by_cases hs : (nextL t attr e).2.2 = true
      · have hz := nextL_size t attr e
        obtain ⟨i, h1, h2, h3⟩ := decL_rest attr e n (t.drop (nextL t attr e).2.1.toNat) (by rw [List.length_drop]; omega)
        rw [List.length_drop] at h1 h3
        rw [if_pos hs]
        refine ⟨(nextL t attr e).2.1.toNat + i + 1, by rw [List.length_cons]; omega, ?_, ?_⟩
        · rw [List.drop_succ_cons, ← List.drop_drop]
          exact h2
        · rcases h3 with h3 | h3
          · exact .inl (by rw [List.length_cons]; omega)
          · refine .inr ?_
            rw [getD_drop2] at h3
            rw [List.getD_cons_succ]
            exact h3
      · rw [if_neg hs]
        exact ⟨0, Nat.zero_le _, rfl, .inr c⟩
    · rw [if_neg c]
      obtain ⟨i, h1, h2, h3⟩ := decL_rest attr e n t (by omega)
      refine ⟨i + 1, by rw [List.length_cons]; omega, h2, ?_⟩
      rcases h3 with h3 | h3
      · exact .inl (by rw [List.length_cons]; omega)
      · exact .inr h3
theorem decL_valid (attr e : Bool) (l : List UInt8) (hv : valid l = true) : valid (decL attr e l).2 = true := by
  obtain ⟨i, h1, h2, h3⟩ := decL_rest attr e _ l (Nat.le_refl _)
  rw [h2]
  rcases h3 with h3 | h3
  · rw [List.drop_eq_nil_of_le (by omega)]
    rfl
  · by_cases c : i < l.length
    · exact valid_drop_at l hv i c (by rw [h3]; decide)
    · rw [List.drop_eq_nil_of_le (by omega)]
      rfl
end Go.Proofs.Ytilpbfbnnmclhaa.P
end
section
/-
  (*charref.Decoder).tell: what is sure of the runes that are held.
-/
namespace Go.Proofs.Ytilpbfbnnmclhaa.P
open Go.RowKit Go.Shelf Go.Proofs.YtilpbfbnnmclhaaW.PrintWords Go.Proofs.YtilpbfbnnmclhaaW.PrintLast Go.Proofs.YtilpbfbnnmclhaaW.PrintMore
set_option linter.unusedVariables false
set_option linter.unusedSimpArgs false
attribute [local go_sem ↓] Go.wp_at_zero Go.wp_at_succ

/-- a decoder in the call's own memory: whether in an attribute, the runes that are held, whether it is over -/
def DecAt (B dg : Nat) (attr : Bool) (rs : List Int) (over : Bool) (w : World) : Prop :=
  B ≤ dg ∧ ∃ v, w.heap[dg]? = some (.cells #[.bool attr, v, .bool over, .bool true] 53 (0, 0)) ∧ w.ownsRow B 21 1 v rs.length (nums .i32 rs)

/-! ### the step in plain Lean -/
def TellInv (attr e : Bool) (l : List UInt8) (i : Nat) (out : List UInt8) : Prop :=
  decL attr e l = (out ++ (decL attr e (l.drop i)).1, (decL attr e (l.drop i)).2) ∧ out.length ≤ 9 * i
theorem TellInv.start (attr e : Bool) (l : List UInt8) : TellInv attr e l 0 [] := ⟨by rw [List.drop_zero, List.nil_append], Nat.zero_le _⟩
theorem TellInv.plain {attr e : Bool} {l : List UInt8} {i : Nat} {out : List UInt8} (h : TellInv attr e l i out) (hi : i < l.length) (hb : l.getD i 0 ≠ 38) : TellInv attr e l (i + 1) (out ++ [l.getD i 0]) := by
  obtain ⟨h1, h2⟩ := h
  refine ⟨?_, by rw [List.length_append, List.length_singleton]; omega⟩
  rw [h1, drop_cons_at l i hi, decL_cons, if_neg hb, List.append_assoc]
  rfl
theorem TellInv.ref {attr e : Bool} {l : List UInt8} {i : Nat} {out : List UInt8} (h : TellInv attr e l i out) (hi : i < l.length) (hb : l.getD i 0 = 38) (f1 : ByteArray) (m : Nat) (hf : nextL (l.drop (i + 1)) attr e = (f1, (m : Int), true)) :
    i + 1 + m ≤ l.length ∧ TellInv attr e l (i + 1 + m) (out ++ ((if m = 0 then [38] else []) ++ f1.data.toList)) := by
  obtain ⟨h1, h2⟩ := h
  have hz := nextL_size (l.drop (i + 1)) attr e
  have hs := nextL_short (l.drop (i + 1)) attr e
  rw [hf, List.length_drop] at hz
  rw [hf] at hs
  simp only at hz hs
  have hl : f1.data.toList.length = f1.size := by simp
  refine ⟨by omega, ?_, ?_⟩
  · rw [h1, drop_cons_at l i hi, decL_cons, if_pos hb, hf]
    simp only [if_true, Int.toNat_natCast, List.drop_drop]
    have e0 : ((m : Int) = 0) ↔ m = 0 := by omega
    by_cases c : m = 0
    · rw [if_pos c, if_pos (e0.2 c)]
      simp only [List.append_assoc]
    · rw [if_neg c, if_neg (fun d => c (e0.1 d))]
      simp only [List.append_assoc]
  · have : (if m = 0 then [38] else ([] : List UInt8)).length ≤ 1 := by split <;> simp
    rw [List.length_append, List.length_append]
    omega
theorem TellInv.stop {attr e : Bool} {l : List UInt8} {i : Nat} {out : List UInt8} (h : TellInv attr e l i out) (hi : i < l.length) (hb : l.getD i 0 = 38) (hf : (nextL (l.drop (i + 1)) attr e).2.2 = false) :
    decL attr e l = (out, l.drop i) := by
  obtain ⟨h1, _⟩ := h
  rw [h1, drop_cons_at l i hi, decL_cons, if_pos hb, hf, if_neg (by decide), List.append_nil]
theorem TellInv.done {attr e : Bool} {l : List UInt8} {out : List UInt8} (h : TellInv attr e l l.length out) : decL attr e l = (out, l.drop l.length) := by
  obtain ⟨h1, _⟩ := h
  rw [h1, List.drop_length, decL_nil, List.append_nil]

/-! ### text to runes: the model's own conversion of a valid text -/
theorem runesFrom_list (s : ByteArray) : ∀ (n i : Nat) (acc : Array Value), s.size - i ≤ n → valid (s.data.toList.drop i) = true → (Conv.runesFrom s n i acc).toList = acc.toList ++ nums .i32 (runes (s.data.toList.drop i))
  | 0, i, acc, h, hv => by
    rw [List.drop_eq_nil_of_le (by simp; have : s.data.size = s.size := rfl; omega), runes_nil]
    simp [Conv.runesFrom, nums]
  | n + 1, i, acc, h, hv => by
    have hl : s.data.toList.length = s.size := by simp
    unfold Conv.runesFrom
    by_cases c : i < s.size
    · have hne : s.data.toList.drop i ≠ [] := by rw [ne_eq, List.drop_eq_nil_iff]; omega
      have hd := rdL_decode _ hne
      have hf := rdL_facts _ hne
      rw [valid_step _ hne] at hv
      by_cases h0 : (rdL (s.data.toList.drop i)).2.2 = 0
      · rw [if_pos h0] at hv
        rw [if_pos h0, Lib.decodeL_drop] at hd
        rw [List.drop_drop] at hv
        rw [if_pos c, hd, runesFrom_list s n _ _ (by have := hf.1; omega) hv, runes_step _ hne, List.drop_drop]
        simp [nums]
      · rw [if_neg h0] at hv
        cases hv
    · rw [if_neg c, List.drop_eq_nil_of_le (by omega), runes_nil]
      simp [nums]
theorem conv_runes (w : World) (s : ByteArray) (hs : s.size ≤ 70368744177664) (hv : valid s.data.toList = true) :
    ∃ (g2 n2 c2 : Nat) (v : Value) (w' : World), v = .slice (some ⟨g2, 0, none⟩) n2 c2 ∧ (convert 9 29 (.string s)).run Try.prog w = .ok v w' ∧ w'.ownsRow w.heap.size 21 1 v (runes s.data.toList).length (nums .i32 (runes s.data.toList)) ∧ Below w.heap.size w w' := by
  have hr := runesFrom_list s s.size 0 #[] (by omega) (by rw [List.drop_zero]; exact hv)
  rw [List.drop_zero] at hr
  have hn : (Conv.runesFrom s s.size 0 #[]).size = (runes s.data.toList).length := by
    have := congrArg List.length hr
    simpa [nums] using this
  have hsz := size_runesFrom s s.size 0 #[]
  have h := run_runes_of_string (P := Try.prog) w 9 29 21 s Try.underlying9 Try.underlying29 Try.underlying21 (by simp at hsz; omega)
  have hge := grownCap_ge w (Conv.runesFrom s s.size 0 #[]).size 0 21
  have hle := grownCap_le_maxLen w (Conv.runesFrom s s.size 0 #[]).size 0 21 (by unfold maxLen; simp at hsz; omega)
  refine ⟨_, _, _, _, _, rfl, h, ?_, below_alloc (below_drew (Below.refl _ w)) _⟩
  rw [hn] at hge hle ⊢
  refine ⟨by simp [nums], .inr ⟨w.heap.size, _, _, rfl, Nat.le_refl _, heap_alloc_new w.drew _, hge, hle, ?_, ?_⟩⟩
  · rw [Array.size_append, hn, Array.size_replicate]
    omega
  · rw [Array.toList_append, hr]
    simp [nums]

theorem below_drewB {B : Nat} {a w : World} (h : Below B a w) : Below B a w.drew := below_drew h
/-- behind the loop: what is left goes back to runes, and into the decoder -/
theorem tell_tail (B b dg : Nat) (attr over : Bool) (v : Value) (out : List UInt8) (s : ByteArray) (W : World) (hs : s.size ≤ 70368744177664) (hv : valid s.data.toList = true) (hBW : B ≤ W.heap.size) (hbd : b ≠ dg)
    (hI : Lib.IsBuilderF 86 5 B b (Lib.byteCells out) W) (hD : W.heap[dg]? = some (.cells #[.bool attr, v, .bool over, .bool true] 53 (0, 0))) :
    ∃ (g2 n2 c2 : Nat) (v2 : Value) (W2 : World), v2 = .slice (some ⟨g2, 0, none⟩) n2 c2 ∧ (convert 9 29 (.string s)).run Try.prog W = .ok v2 W2 ∧ W2.cell? ⟨dg, 1, none⟩ = some v ∧ W2.frozen? ⟨dg, 1, none⟩ = false ∧ B ≤ W2.heap.size ∧ Below W.heap.size W W2 ∧
      Lib.IsBuilderF 86 5 B b (Lib.byteCells out) (W2.setCell ⟨dg, 1, none⟩ v2) ∧
      (W2.setCell ⟨dg, 1, none⟩ v2).heap[dg]? = some (.cells #[.bool attr, v2, .bool over, .bool true] 53 (0, 0)) ∧
      (W2.setCell ⟨dg, 1, none⟩ v2).ownsRow B 21 1 v2 (runes s.data.toList).length (nums .i32 (runes s.data.toList)) := by
  obtain ⟨g2, n2, c2, v2, W2, hsh, h1, h2, h3⟩ := conv_runes W s hs hv
  have hD2 := blk_kept h3 hD
  have hI2 := bld_below hI h3
  refine ⟨g2, n2, c2, v2, W2, hsh, h1, (blk_cell hD2 1).trans rfl, blk_frozen hD2 1, Nat.le_trans hBW h3.size, h3, ?_, blk_put hD2 1 _ rfl, ?_⟩
  · refine bld_kept hI2 fun k o ho hk => ?_
    have hne : k ≠ dg := by
      rintro rfl
      rcases hk with hk | ⟨c, fz, hk⟩
      · exact hbd hk.symm
      · rw [hD2] at ho
        have e := Option.some.inj ho
        rw [hk] at e
        injection e with _ e2 _
        exact absurd e2 (by decide)
    rw [Below.heap_setCell _ _ _ k hne]
    exact ho
  · refine own_move (own_less h2 hBW) fun k hk => ?_
    have hne : k ≠ dg := by
      rintro rfl
      obtain ⟨cells, hc⟩ := own_typed h2 k hk
      rw [hD2] at hc
      have e := Option.some.inj hc
      injection e with _ e2 _
      exact absurd e2 (by decide)
    exact Below.heap_setCell _ _ _ k hne
theorem tell_fin (B b dg : Nat) (attr over : Bool) (v2 : Value) (rs : List Int) (W W' : World) (hBd : B ≤ dg) (hbd : b ≠ dg) (hbr : ∀ g, v2.ownBlock = some g → g ≠ b)
    (hD : W.heap[dg]? = some (.cells #[.bool attr, v2, .bool over, .bool true] 53 (0, 0))) (hown : W.ownsRow B 21 1 v2 rs.length (nums .i32 rs)) (hk : Lib.OthersKept 5 (some b) W W') :
    DecAt B dg attr rs over W' := by
  refine ⟨hBd, v2, hk dg _ hD (fun e => hbd (Option.some.inj e).symm) (fun c fz e => by injection e with _ e2 _; exact absurd e2 (by decide)), own_move hown fun k hk2 => ?_⟩
  obtain ⟨cells, hc⟩ := own_typed hown k hk2
  have := hk k _ hc (fun e => hbr k hk2 (Option.some.inj e)) (fun c fz e => by injection e with _ e2 _; exact absurd e2 (by decide))
  rw [this, hc]
theorem own_not_bld {B b : Nat} {bs : List Value} {W : World} {v2 : Value} {n : Nat} {xs : List Value} (h : W.ownsRow B 21 1 v2 n xs) (hI : Lib.IsBuilderF 86 5 B b bs W) : ∀ g, v2.ownBlock = some g → g ≠ b := by
  rintro g hg rfl
  obtain ⟨cells, hc⟩ := own_typed h g hg
  have key : ∀ p, Lib.BuilderAtF 86 5 B g p bs W → False := by
    rintro p ⟨_, v, hb, _, _⟩
    rw [hb] at hc
    have e := Option.some.inj hc
    injection e with _ e2 _
    exact absurd e2 (by decide)
  exact hI.elim (key _) (key _)

/-- the struct that 'next' hands back, stored into a block that was made before the call -/
theorem found_store (B b dg g : Nat) (bs : List Value) (w W : World) (cd cf : Array Value) (f1 : ByteArray) (m : Int) (f3 : Bool) (hB : B ≤ g) (hgb : g ≠ b) (hgd : g ≠ dg)
    (hF : W.heap[g]? = some (.cells #[.string (⟨#[]⟩ : ByteArray), .int .i64 0, .bool false] 60 (0, 0))) (hI : Lib.IsBuilderF 86 5 B b bs W)
    (hD : W.heap[dg]? = some (.cells cd 53 (0, 0))) (hBel : Below B w W) :
    (((W.setCell ⟨g, 0, none⟩ (.string f1)).setCell ⟨g, 1, none⟩ (.int .i64 m)).setCell ⟨g, 2, none⟩ (.bool f3)).heap[g]? = some (.cells #[.string f1, .int .i64 m, .bool f3] 60 (0, 0)) ∧
      Lib.IsBuilderF 86 5 B b bs (((W.setCell ⟨g, 0, none⟩ (.string f1)).setCell ⟨g, 1, none⟩ (.int .i64 m)).setCell ⟨g, 2, none⟩ (.bool f3)) ∧
      (((W.setCell ⟨g, 0, none⟩ (.string f1)).setCell ⟨g, 1, none⟩ (.int .i64 m)).setCell ⟨g, 2, none⟩ (.bool f3)).heap[dg]? = some (.cells cd 53 (0, 0)) ∧
      Below B w (((W.setCell ⟨g, 0, none⟩ (.string f1)).setCell ⟨g, 1, none⟩ (.int .i64 m)).setCell ⟨g, 2, none⟩ (.bool f3)) := by
  have one : ∀ (W : World) (cs : Array Value) (j : Nat) (u : Value), W.heap[g]? = some (.cells cs 60 (0, 0)) → Lib.IsBuilderF 86 5 B b bs W → Lib.IsBuilderF 86 5 B b bs (W.setCell ⟨g, j, none⟩ u) := by
    intro W cs j u h hI
    refine bld_kept hI fun k o ho hk => ?_
    have hne : k ≠ g := by
      rintro rfl
      rcases hk with hk | ⟨c, fz, hk⟩
      · exact hgb hk
      · rw [h] at ho
        have e := Option.some.inj ho
        rw [hk] at e
        injection e with _ e2 _
        exact absurd e2 (by decide)
    rw [Below.heap_setCell _ _ _ k hne]
    exact ho
  have h1 := blk_put hF 0 (.string f1) rfl
  have h2 := blk_put h1 1 (.int .i64 m) rfl
  have h3 := blk_put h2 2 (.bool f3) rfl
  refine ⟨h3, one _ _ 2 _ h2 (one _ _ 1 _ h1 (one _ _ 0 _ hF hI)), ?_, ((hBel.setCell (p := ⟨g, 0, none⟩) hB _).setCell (p := ⟨g, 1, none⟩) hB _).setCell (p := ⟨g, 2, none⟩) hB _⟩
  rw [Below.heap_setCell _ _ _ dg (Ne.symm hgd), Below.heap_setCell _ _ _ dg (Ne.symm hgd), Below.heap_setCell _ _ _ dg (Ne.symm hgd)]
  exact hD

theorem bld_ne {B b g : Nat} {bs : List Value} {W : World} {cf : Array Value} (hI : Lib.IsBuilderF 86 5 B b bs W) (hF : W.heap[g]? = some (.cells cf 60 (0, 0))) : g ≠ b := by
  rintro rfl
  have key : ∀ p, Lib.BuilderAtF 86 5 B g p bs W → False := by
    rintro p ⟨_, v, hb, _, _⟩
    rw [hF] at hb
    have e := Option.some.inj hb
    injection e with _ e2 _
    exact absurd e2 (by decide)
  exact hI.elim (key _) (key _)

set_option maxRecDepth 100000 in
set_option maxHeartbeats 8000000 in
theorem tell_calls (B dg : Nat) (attr e over : Bool) (rs : List Int) (w : World) (hD : DecAt B dg attr rs over w) (hB : B ≤ w.heap.size) (hg : goodsR rs) (hn : rs.length ≤ 1073741824) :
    Calls Try.prog 42 #[.pointer (some ⟨dg, 0, none⟩), .bool e] w fun en w' =>
      en = .returned (.string ⟨(decL attr e (text rs)).1.toArray⟩) ∧ DecAt B dg attr (runes (decL attr e (text rs)).2) over w' ∧ Below B w w' := by
  obtain ⟨hBd, v, hb, hown⟩ := hD
  have hcv := Hc_own_runes (P := Try.prog) (src := 29) (dst := 9) (e := 21) Try.underlying29 Try.underlying21 Try.underlying9 hown
  have hdlt : dg < w.heap.size := (Array.getElem?_eq_some_iff.1 hb).1
  have htx : (Hc_text rs).data.toList = text rs := runesBytes_list rs
  have hsz : (Hc_text rs).size ≤ 4294967296 := by
    have := runesBytes_size_le rs
    unfold Hc_text
    omega
  have hval : valid (Hc_text rs).data.toList = true := by rw [htx]; exact valid_text rs hg
  rw [← htx]
  generalize Hc_text rs = s at hcv hsz hval
  have hl : s.data.toList.length = s.size := by simp
  have hc0 : w.cell? ⟨dg, 0, none⟩ = some (.bool attr) := (blk_cell hb 0).trans rfl
  have hc1 : w.cell? ⟨dg, 1, none⟩ = some v := (blk_cell hb 1).trans rfl
  have hI0 : Lib.IsBuilderF 86 5 B w.heap.size (Lib.byteCells []) (w.alloc (.cells #[.pointer none, .slice none 0 0] 86)) :=
    .inl ⟨hB, .slice none 0 0, heap_alloc_new w _, ⟨rfl, .inl ⟨rfl, rfl⟩⟩, by simp [Value.ownBlock]⟩
  have hD0 : (w.alloc (.cells #[.pointer none, .slice none 0 0] 86)).heap[dg]? = some (.cells #[.bool attr, v, .bool over, .bool true] 53 (0, 0)) := (Lib.alloc_old w _ dg hdlt).trans hb
  have hbel0 : Below B w (w.alloc (.cells #[.pointer none, .slice none 0 0] 86)) := (Below.refl B w).alloc hB _
  have HI0 := Aside0.mk hI0
  have HD0 := Aside0.mk hD0
  have HB0 := Aside0.mk hbel0
  have HVAL := Aside0.mk hval
  have HL := Aside0.mk hl
  clear hI0 hD0 hbel0 hval hown hb hl htx
  go_enter Try.func42, Try.ntmps42
  go_wp2
  go_loopw [7] (fun v7 wr => ∃ (i : Nat) (out : List UInt8), v7 = .int .i64 (i : Nat) ∧ i ≤ s.size ∧ Aside0 (TellInv attr e s.data.toList i out) ∧ Aside0 (Lib.IsBuilderF 86 5 B w.heap.size (Lib.byteCells out) wr) ∧ Aside0 (wr.heap[dg]? = some (.cells #[.bool attr, v, .bool over, .bool true] 53 (0, 0))) ∧ Aside0 (Below B w wr)) (fun v7 _ => s.size - (intOf v7).toNat)
  case atStart => exact ⟨0, [], rfl, Nat.zero_le _, ⟨TellInv.start _ _ _⟩, HI0, HD0, HB0⟩
  case round =>
    obtain ⟨i, out, rfl, hi, HT, HIx, HDx, HBx⟩ := hrel
    have s1 : ((0 : Int) ≤ (i : Int)) = True := eq_true (by omega)
    have s2 : ((i : Int) ≤ (s.size : Int)) = True := eq_true (by omega)
    have hxl : (s.extract i s.size).data.toList = s.data.toList.drop i := by
      rw [extract_list]
      refine List.take_of_length_le ?_
      rw [List.length_drop]
      have := HL.out
      omega
    have HXL := Aside0.mk hxl
    have HXZ := Aside0.mk (show (s.extract i s.size).size ≤ s.size by simp)
    clear hxl
    by_cases hlt : i < s.size
    · have hl1 : ((i : Int) < (s.size : Int)) = True := eq_true (by omega)
      have hx0 : ∀ h : i < s.size, ((s[i]'h).toNat : Int) = bt s (i : Int) := bt_at s (i : Int)
      have hw1 : IntKind.i64.wrap ((i : Int) + 1) = (i : Int) + 1 := IntWalk.i64_in _ (by omega)
      have hbl := Aside0.mk (bt_l s i hlt)
      by_cases c : s.data.toList.getD i 0 = 38
      · have hcb : (bt s (i : Int) != 38) = false := by
          rw [hbl.out, bne_eq_false_iff_eq, c]
          rfl
        have t1 : ((0 : Int) ≤ (i : Int) + 1) = True := eq_true (by omega)
        have t2 : ((i : Int) + 1 ≤ (s.size : Int)) = True := eq_true (by omega)
        have t3 : ((i : Int) + 1).toNat = i + 1 := by omega
        have hxe : (s.extract (i + 1) s.size).data.toList = s.data.toList.drop (i + 1) := by
          rw [extract_list]
          refine List.take_of_length_le ?_
          rw [List.length_drop]
          have := HL.out
          omega
        have hze : (s.extract (i + 1) s.size).size ≤ s.size := by simp
        have hnx : charref_next.f 100000000000 (s.extract (i + 1) s.size) attr e = some (nextL (s.data.toList.drop (i + 1)) attr e) := by
          rw [next_f 100000000000 _ attr e (by omega) (by omega), nextP_eq, hxe]
        have hnz := nextL_size (s.data.toList.drop (i + 1)) attr e
        obtain ⟨⟨f1, f2, f3⟩, hq⟩ : ∃ q, nextL (s.data.toList.drop (i + 1)) attr e = q := ⟨_, rfl⟩
        rw [hq] at hnx hnz
        obtain ⟨m, rfl⟩ : ∃ m : Nat, f2 = m := ⟨f2.toNat, by have := hnz.1; simp only at this; omega⟩
        have HNX := Aside0.mk hnx
        have HQ := Aside0.mk hq
        have HC := Aside0.mk c
        have hdc0 : wr.cell? ⟨dg, 0, none⟩ = some (.bool attr) := (blk_cell HDx.out 0).trans rfl
        have HIs := Aside0.mk (show w.heap.size < wr.heap.size from (by
          rcases HIx.out with h | h <;> (obtain ⟨_, _, h, _⟩ := h; exact (Array.getElem?_eq_some_iff.1 h).1)))
        have hnew := World.new_ne wr ⟨dg, 0, none⟩ hdc0
        have hdltr : dg < wr.heap.size := (Array.getElem?_eq_some_iff.1 HDx.out).1
        clear hnx hnz hq hxe hze c hcv hc0 hc1
        go_upto_region 8 with (fail)
        go_cut [8] (fun v8 wc => ∃ gb : Nat, v8 = .pointer (some ⟨gb, 0, none⟩) ∧ Aside0 (wc.heap[gb]? = some (.cells #[.string f1, .int .i64 (m : Nat), .bool f3] 60 (0, 0))) ∧ Aside0 (Lib.IsBuilderF 86 5 B w.heap.size (Lib.byteCells out) wc) ∧ Aside0 (wc.heap[dg]? = some (.cells #[.bool attr, v, .bool over, .bool true] 53 (0, 0))) ∧ Aside0 (Below B w wc))
        case first =>
          go_region_with (first | (go_at_call 27; refine (charref_next.calls 100000000000 (s.extract (i + 1) s.size) attr e f1 (m : Int) f3 _ HNX.out).mono ?_; rintro e2 w5 ⟨rfl, hb5⟩; have HB5 := Aside0.mk hb5; clear hb5; (try (have BK5 := Aside0.mk (blk_below (heap_alloc_new wr.drew (.cells #[.string (⟨#[]⟩ : ByteArray), .int .i64 0, .bool false] 60)) HB5.out); have hcg0 : w5.cell? ⟨wr.heap.size, 0, none⟩ = some (.string (⟨#[]⟩ : ByteArray)) := (blk_cell BK5.out 0).trans rfl; have hcg1 : w5.cell? ⟨wr.heap.size, 1, none⟩ = some (.int .i64 0) := (blk_cell BK5.out 1).trans rfl; have hcg2 : w5.cell? ⟨wr.heap.size, 2, none⟩ = some (.bool false) := (blk_cell BK5.out 2).trans rfl; have hfg0 : w5.frozen? ⟨wr.heap.size, 0, none⟩ = false := blk_frozen BK5.out 0; have hfg1 : w5.frozen? ⟨wr.heap.size, 1, none⟩ = false := blk_frozen BK5.out 1; have hfg2 : w5.frozen? ⟨wr.heap.size, 2, none⟩ = false := blk_frozen BK5.out 2))))
          all_goals (go_wp2_with fail)
          all_goals go_meet
          all_goals (case rel =>
            first
            | exact ⟨_, rfl, ⟨heap_alloc_new w5 _⟩, ⟨bld_below (bld_below (show Lib.IsBuilderF 86 5 B w.heap.size (Lib.byteCells out) wr.drew from HIx.out) HB5.out) (below_alloc (Below.refl _ w5) _)⟩, ⟨blk_kept (below_alloc (Below.refl _ w5) _) (blk_kept HB5.out HDx.out)⟩, ⟨((below_drewB HBx.out).trans (HB5.out.mono (Nat.le_trans hB HBx.out.size))).alloc (Nat.le_trans (Nat.le_trans hB HBx.out.size) HB5.out.size) _⟩⟩
            | (obtain ⟨q1, q2, q3, q4⟩ := found_store B w.heap.size dg wr.heap.size (Lib.byteCells out) w w5 _ #[] f1 (m : Int) f3 (Nat.le_trans hB HBx.out.size) (by have := HIs.out; omega) (by omega) BK5.out
                (bld_below (bld_below (show Lib.IsBuilderF 86 5 B w.heap.size (Lib.byteCells out) wr.drew from HIx.out) (below_alloc (Below.refl _ wr.drew) _)) HB5.out)
                (blk_kept HB5.out (blk_kept (below_alloc (Below.refl _ wr.drew) _) HDx.out)) (((below_drewB HBx.out).alloc (Nat.le_trans hB HBx.out.size) _).trans (HB5.out.mono (by have := HBx.out.size; simp; omega))); exact ⟨_, rfl, ⟨q1⟩, ⟨q2⟩, ⟨q3⟩, ⟨q4⟩⟩))
        case rest =>
          obtain ⟨gb, rfl, HFc, HIc, HDc, HBc⟩ := hcut
          have hg0 : wc.cell? ⟨gb, 0, none⟩ = some (.string f1) := (blk_cell HFc.out 0).trans rfl
          have hg1 : wc.cell? ⟨gb, 1, none⟩ = some (.int .i64 (m : Nat)) := (blk_cell HFc.out 1).trans rfl
          have hg2 : wc.cell? ⟨gb, 2, none⟩ = some (.bool f3) := (blk_cell HFc.out 2).trans rfl
          cases f3 with
          | false =>
            have HFIN := Aside0.mk (HT.out.stop (by have := HL.out; omega) HC.out (by rw [HQ.out]))
            have HXV := Aside0.mk (valid_drop_at s.data.toList HVAL.out i (by have := HL.out; omega) (by rw [HC.out]; decide))
            clear hnew hdltr
            obtain ⟨g2, n2, c2, v2, W2, hsh2, hcv2, hcd2, hfd2, hbz2, hb2, hI3, hD3, hown3⟩ := tell_tail B w.heap.size dg attr over v out (s.extract i s.size) wc (by have := HXZ.out; omega) (by rw [HXL.out]; exact HXV.out) (HBc.out.size |> Nat.le_trans hB) (by omega) HIc.out HDc.out
            have HST := Aside0.mk (Try.Builder_String_any_k B w.heap.size out (W2.setCell ⟨dg, 1, none⟩ v2) hI3 (by simpa using hbz2))
            have HNB := Aside0.mk (own_not_bld hown3 hI3)
            have HD3 := Aside0.mk hD3
            have HOWN3 := Aside0.mk hown3
            have hsh3 := hsh2
            clear hsh2
            subst hsh3
            have HB2 := Aside0.mk ((HBc.out.trans (hb2.mono (Nat.le_trans hB HBc.out.size))).setCell (p := ⟨dg, 1, none⟩) hBd (.slice (some ⟨g2, 0, none⟩) n2 c2))
            clear hI3 hD3 hown3 hb2 hbz2
            go_wp2_with (go_at_call 55; refine HST.out.mono ?_; rintro e2 w8 ⟨rfl, _, hbel8, hok8⟩)
            go_ret
            have hfin := HFIN.out
            rw [hfin]
            refine ⟨rfl, ?_, HB2.out.trans hbel8⟩
            have hxl := HXL.out
            rw [← hxl]
            exact tell_fin B w.heap.size dg attr over _ _ _ _ hBd (by omega) HNB.out HD3.out HOWN3.out hok8
          | true =>
            obtain ⟨hend, hti⟩ := HT.out.ref (by have := HL.out; omega) HC.out f1 m HQ.out
            rw [HL.out] at hend
            have HTI := Aside0.mk hti
            have hob := Aside0.mk HT.out.2
            have hsh := Aside0.mk (show f1.size ≤ 8 by have := nextL_short (s.data.toList.drop (i + 1)) attr e; rw [HQ.out] at this; exact this)
            have HGB := Aside0.mk (bld_ne HIc.out HFc.out)
            have hw2 : IntKind.i64.wrap (1 + (m : Int)) = 1 + (m : Int) := IntWalk.i64_in _ (by omega)
            have hw3 : IntKind.i64.wrap ((i : Int) + (1 + (m : Int))) = ((i + 1 + m : Nat) : Int) := by rw [IntWalk.i64_in _ (by omega)]; omega
            clear hti hnew hdltr
            by_cases hm0 : m = 0
            · have HM0 := Aside0.mk hm0
              have hz1 : ((m : Int) == 0) = true := beq_iff_eq.2 (by omega)
              have hz2 : (m == 0) = true := beq_iff_eq.2 hm0
              have HOUT := Aside0.mk (show Lib.byteCells (out ++ ((if m = 0 then [38] else []) ++ f1.data.toList)) = (Lib.byteCells out ++ [.int .u8 38]) ++ Lib.strCells f1 by
                rw [if_pos hm0, ← List.append_assoc, Lib.byteCells_append, Lib.byteCells_append]; rfl)
              clear hm0
              go_wp2_with (first | (go_at_call 59; refine (bld_WriteByte_k B w.heap.size (Lib.byteCells out) 38 wc HIc.out (by have h1 := hob.out; rw [Lib.byteCells_length]; omega) (Nat.le_trans hB HBc.out.size)).mono ?_; rintro e2 w7 ⟨rfl, hb7, hbel7, hok7⟩; have HI7 := Aside0.mk hb7; have HB7 := Aside0.mk (HBc.out.trans hbel7); have HD7 := Aside0.mk (hok7 dg _ HDc.out (fun h => by have := Option.some.inj h; omega) (fun c fz h => by injection h with _ h2 _; exact absurd h2 (by decide))); have HF7 := Aside0.mk (hok7 gb _ HFc.out (fun h => HGB.out (Option.some.inj h)) (fun c fz h => by injection h with _ h2 _; exact absurd h2 (by decide))); have hg70 : w7.cell? ⟨gb, 0, none⟩ = some (.string f1) := (blk_cell HF7.out 0).trans rfl; clear hb7 hbel7 hok7) | (go_at_call 54; refine (bld_WriteString_k B w.heap.size (Lib.byteCells out ++ [.int .u8 38]) f1 w7 (.inr HI7.out) (by have h1 := hob.out; have h2 := hsh.out; rw [List.length_append, Lib.byteCells_length]; simp only [List.length_singleton]; omega) (Nat.le_trans hB HB7.out.size)).mono ?_; rintro e2 w8 ⟨rfl, hb8, hbel8, hok8⟩; have HI8 := Aside0.mk hb8; have HB8 := Aside0.mk (HB7.out.trans hbel8); have HD8 := Aside0.mk (hok8 dg _ HD7.out (fun h => by have := Option.some.inj h; omega) (fun c fz h => by injection h with _ h2 _; exact absurd h2 (by decide))); have HF8 := Aside0.mk (hok8 gb _ HF7.out (fun h => HGB.out (Option.some.inj h)) (fun c fz h => by injection h with _ h2 _; exact absurd h2 (by decide))); have hg81 : w8.cell? ⟨gb, 1, none⟩ = some (.int .i64 (m : Nat)) := (blk_cell HF8.out 1).trans rfl; clear hb8 hbel8 hok8))
              go_roundw
              case rel => exact ⟨i + 1 + m, _, rfl, hend, HTI, ⟨by rw [HOUT.out]; exact .inr HI8.out⟩, HD8, HB8⟩
              case measure => simp [intOf]; omega
            · have hz1 : ((m : Int) == 0) = false := beq_eq_false_iff_ne.2 (by omega)
              have hz2 : (m == 0) = false := beq_eq_false_iff_ne.2 hm0
              have HOUT := Aside0.mk (show Lib.byteCells (out ++ ((if m = 0 then [38] else []) ++ f1.data.toList)) = Lib.byteCells out ++ Lib.strCells f1 by
                rw [if_neg hm0, List.nil_append, Lib.byteCells_append]; rfl)
              have hpos : 0 < m := by omega
              clear hm0
              go_wp2_with ((go_at_call 54; refine (bld_WriteString_k B w.heap.size (Lib.byteCells out) f1 wc HIc.out (by have h1 := hob.out; have h2 := hsh.out; rw [Lib.byteCells_length]; omega) (Nat.le_trans hB HBc.out.size)).mono ?_; rintro e2 w8 ⟨rfl, hb8, hbel8, hok8⟩; have HI8 := Aside0.mk hb8; have HB8 := Aside0.mk (HBc.out.trans hbel8); have HD8 := Aside0.mk (hok8 dg _ HDc.out (fun h => by have := Option.some.inj h; omega) (fun c fz h => by injection h with _ h2 _; exact absurd h2 (by decide))); have HF8 := Aside0.mk (hok8 gb _ HFc.out (fun h => HGB.out (Option.some.inj h)) (fun c fz h => by injection h with _ h2 _; exact absurd h2 (by decide))); have hg81 : w8.cell? ⟨gb, 1, none⟩ = some (.int .i64 (m : Nat)) := (blk_cell HF8.out 1).trans rfl; clear hb8 hbel8 hok8))
              go_roundw
              case rel => exact ⟨i + 1 + m, _, rfl, hend, HTI, ⟨by rw [HOUT.out]; exact .inr HI8.out⟩, HD8, HB8⟩
              case measure => simp [intOf]; omega
      · have hcb : (bt s (i : Int) != 38) = true := by
          rw [hbl.out, bne_iff_ne]
          exact fun h => c ((u8_eq _ 38 (by decide)).1 h)
        have HT2 := Aside0.mk (HT.out.plain (by have := HL.out; omega) c)
        have hob := Aside0.mk HT.out.2
        have HCL := Aside0.mk (show Lib.byteCells (out ++ [s.data.toList.getD i 0]) = Lib.byteCells out ++ [.int .u8 (bt s (i : Int))] by rw [hbl.out, Lib.byteCells_append]; rfl)
        clear c
        go_wp2_with (go_at_call 59; refine (bld_WriteByte_k B w.heap.size (Lib.byteCells out) (bt s (i : Int)) wr HIx.out (by have := hob.out; rw [Lib.byteCells_length]; omega) (Nat.le_trans hB HBx.out.size)).mono ?_; rintro e2 w7 ⟨rfl, hb7, hbel7, hok7⟩; have HI7 := Aside0.mk hb7; have HB7 := Aside0.mk (HBx.out.trans hbel7); have HD7 := Aside0.mk (hok7 dg _ HDx.out (fun h => by have := Option.some.inj h; omega) (fun c fz h => by injection h with _ h2 _; exact absurd h2 (by decide))); clear hb7 hbel7 hok7)
        go_roundw
        case rel => exact ⟨i + 1, _, rfl, by omega, HT2, ⟨by rw [HCL.out]; exact .inr HI7.out⟩, HD7, HB7⟩
        case measure => simp [intOf]; omega
    · have hl1 : ((i : Int) < (s.size : Int)) = False := eq_false (by omega)
      obtain rfl : i = s.size := by omega
      have HFIN := Aside0.mk (show decL attr e s.data.toList = (out, s.data.toList.drop s.size) by have h := HT.out; rw [← HL.out] at h ⊢; exact h.done)
      have HXV := Aside0.mk (show valid (s.data.toList.drop s.size) = true by rw [List.drop_eq_nil_of_le (Nat.le_of_eq HL.out)]; rfl)
      clear HXL HXZ
      have HXL := Aside0.mk (show ByteArray.empty.data.toList = s.data.toList.drop s.size by rw [List.drop_eq_nil_of_le (Nat.le_of_eq HL.out)]; rfl)
      have HXZ := Aside0.mk (show ByteArray.empty.size ≤ s.size from Nat.zero_le _)
      obtain ⟨g2, n2, c2, v2, W2, hsh2, hcv2, hcd2, hfd2, hbz2, hb2, hI3, hD3, hown3⟩ := tell_tail B w.heap.size dg attr over v out ByteArray.empty wr (by have := HXZ.out; omega) (by rw [HXL.out]; exact HXV.out) (HBx.out.size |> Nat.le_trans hB) (by omega) HIx.out HDx.out
      have HST := Aside0.mk (Try.Builder_String_any_k B w.heap.size out (W2.setCell ⟨dg, 1, none⟩ v2) hI3 (by simpa using hbz2))
      have HNB := Aside0.mk (own_not_bld hown3 hI3)
      have HD3 := Aside0.mk hD3
      have HOWN3 := Aside0.mk hown3
      have hsh3 := hsh2
      clear hsh2
      subst hsh3
      have HB2 := Aside0.mk ((HBx.out.trans (hb2.mono (Nat.le_trans hB HBx.out.size))).setCell (p := ⟨dg, 1, none⟩) hBd (.slice (some ⟨g2, 0, none⟩) n2 c2))
      clear hI3 hD3 hown3 hb2 hbz2
      go_wp2_with (go_at_call 55; refine HST.out.mono ?_; rintro e2 w8 ⟨rfl, _, hbel8, hok8⟩)
      go_ret
      have hfin := HFIN.out
      rw [hfin]
      refine ⟨rfl, ?_, HB2.out.trans hbel8⟩
      have hxl := HXL.out
      rw [← hxl]
      exact tell_fin B w.heap.size dg attr over _ _ _ _ hBd (by omega) HNB.out HD3.out HOWN3.out hok8
end Go.Proofs.Ytilpbfbnnmclhaa.P
end
section
/-
  (*charref.Decoder).Feed, End, Held, New.
-/
namespace Go.Proofs.Ytilpbfbnnmclhaa.P
open Go.RowKit Go.Shelf Go.Proofs.YtilpbfbnnmclhaaW.PrintWords Go.Proofs.YtilpbfbnnmclhaaW.PrintLast Go.Proofs.YtilpbfbnnmclhaaW.PrintMore
set_option linter.unusedVariables false
set_option linter.unusedSimpArgs false

theorem DecAt.below {B dg : Nat} {attr over : Bool} {rs : List Int} {w w' : World} (h : DecAt B dg attr rs over w) (hb : Below w.heap.size w w') : DecAt B dg attr rs over w' := by
  obtain ⟨h1, v, h2, h3⟩ := h
  exact ⟨h1, v, blk_kept hb h2, own_move h3 fun k hk => hb.block k (own_lt h3 k hk)⟩

set_option maxRecDepth 100000 in
set_option maxHeartbeats 4000000 in
theorem new_calls (B : Nat) (attr : Bool) (w : World) (hB : B ≤ w.heap.size) :
    Calls Try.prog 22 #[.bool attr] w fun en w' => en = .returned (.pointer (some ⟨w.heap.size, 0, none⟩)) ∧ DecAt B w.heap.size attr [] false w' ∧ Below B w w' := by
  go_enter Try.func22, Try.ntmps22
  go_wp2
  go_ret
  exact ⟨rfl, ⟨hB, .slice none 0 0, heap_alloc_new w _, World.ownsRow_nil _ _ _ _⟩, (Below.refl B w).alloc hB _⟩

theorem is_calls (dg : Nat) (w : World) (h : w.cell? ⟨dg, 3, none⟩ = some (.bool true)) :
    Calls Try.prog 41 #[.pointer (some ⟨dg, 0, none⟩)] w fun en w' => en = .returned (.bool true) ∧ w = w' := by
  go_enter Try.func41, Try.ntmps41
  go_wp2
  go_ret
  exact ⟨rfl, rfl⟩
set_option maxRecDepth 100000 in
set_option maxHeartbeats 4000000 in
theorem feed_over (B dg : Nat) (attr : Bool) (rs : List Int) (s : ByteArray) (w : World) (hD : DecAt B dg attr rs true w) :
    Calls Try.prog 23 #[.pointer (some ⟨dg, 0, none⟩), .string s] w fun en w' => en = .returned (.tuple #[.string ⟨#[]⟩, .int .i64 3]) ∧ DecAt B dg attr rs true w' ∧ Below B w w' := by
  have HD := Aside0.mk hD
  obtain ⟨hBd, v, hb, hown⟩ := hD
  have hc2 : w.cell? ⟨dg, 2, none⟩ = some (.bool true) := (blk_cell hb 2).trans rfl
  have hc3 : w.cell? ⟨dg, 3, none⟩ = some (.bool true) := (blk_cell hb 3).trans rfl
  clear hown hb
  go_enter Try.func23, Try.ntmps23
  go_wp2
  go_ret2
  exact ⟨rfl, HD.out.below (by repeat (first | exact Below.refl _ _ | apply below_drew | apply pw_below_drewN | apply below_alloc)), by repeat (first | exact Below.refl _ _ | apply below_drew | apply pw_below_drewN)⟩
theorem end_over (B dg : Nat) (attr : Bool) (rs : List Int) (w : World) (hD : DecAt B dg attr rs true w) :
    Calls Try.prog 24 #[.pointer (some ⟨dg, 0, none⟩)] w fun en w' => en = .returned (.tuple #[.string ⟨#[]⟩, .int .i64 3]) ∧ DecAt B dg attr rs true w' ∧ Below B w w' := by
  have HD := Aside0.mk hD
  obtain ⟨hBd, v, hb, hown⟩ := hD
  have hc2 : w.cell? ⟨dg, 2, none⟩ = some (.bool true) := (blk_cell hb 2).trans rfl
  have hc3 : w.cell? ⟨dg, 3, none⟩ = some (.bool true) := (blk_cell hb 3).trans rfl
  clear hown hb
  go_enter Try.func24, Try.ntmps24
  go_wp2
  go_ret2
  exact ⟨rfl, HD.out.below (by repeat (first | exact Below.refl _ _ | apply below_drew | apply pw_below_drewN | apply below_alloc)), by repeat (first | exact Below.refl _ _ | apply below_drew | apply pw_below_drewN)⟩
theorem held_calls (B dg : Nat) (attr over : Bool) (rs : List Int) (w : World) (hD : DecAt B dg attr rs over w) (hn : rs.length ≤ 1073741824) :
    Calls Try.prog 25 #[.pointer (some ⟨dg, 0, none⟩)] w fun en w' => en = .returned (.int .i64 ((text rs).length : Nat)) ∧ DecAt B dg attr rs over w' ∧ Below B w w' := by
  have HD := Aside0.mk hD
  obtain ⟨hBd, v, hb, hown⟩ := hD
  have hcv := Hc_own_runes (P := Try.prog) (src := 29) (dst := 9) (e := 21) Try.underlying29 Try.underlying21 Try.underlying9 hown
  have htx : (Hc_text rs).size = (text rs).length := by
    rw [← runesBytes_list rs]
    show (Hc_text rs).size = (Hc_text rs).data.toList.length
    simp
  have HTX := Aside0.mk htx
  have hc1 : w.cell? ⟨dg, 1, none⟩ = some v := (blk_cell hb 1).trans rfl
  have hc3 : w.cell? ⟨dg, 3, none⟩ = some (.bool true) := (blk_cell hb 3).trans rfl
  clear hown hb htx
  go_enter Try.func25, Try.ntmps25
  go_wp2
  go_ret
  exact ⟨by first | rfl | (rw [← HTX.out]; rfl) | (rw [HTX.out]; rfl), HD.out.below (by repeat (first | exact Below.refl _ _ | apply below_drew | apply pw_below_drewN | apply below_alloc)), by repeat (first | exact Below.refl _ _ | apply below_drew | apply pw_below_drewN)⟩
set_option maxRecDepth 100000 in
set_option maxHeartbeats 4000000 in
theorem end_calls (B dg : Nat) (attr : Bool) (rs : List Int) (w : World) (hD : DecAt B dg attr rs false w) (hB : B ≤ w.heap.size) (hg : goodsR rs) (hn : rs.length ≤ 1073741824) :
    Calls Try.prog 24 #[.pointer (some ⟨dg, 0, none⟩)] w fun en w' => en = .returned (.tuple #[.string ⟨(dgL id attr (text rs)).toArray⟩, .int .i64 0]) ∧ DecAt B dg attr [] true w' ∧ Below B w w' := by
  have HD := Aside0.mk hD
  obtain ⟨hBd, v, hb, hown⟩ := hD
  have hc2 : w.cell? ⟨dg, 2, none⟩ = some (.bool false) := (blk_cell hb 2).trans rfl
  have hc3 : w.cell? ⟨dg, 3, none⟩ = some (.bool true) := (blk_cell hb 3).trans rfl
  have hf2 : w.frozen? ⟨dg, 2, none⟩ = false := blk_frozen hb 2
  have hD2 : DecAt B dg attr rs true (w.setCell ⟨dg, 2, none⟩ (.bool true)) := by
    refine ⟨hBd, v, blk_put hb 2 _ rfl, own_move hown fun k hk => ?_⟩
    have hne : k ≠ dg := by
      rintro rfl
      obtain ⟨cells, hc⟩ := own_typed hown k hk
      rw [hb] at hc
      have e := Option.some.inj hc
      injection e with _ e2 _
      exact absurd e2 (by decide)
    exact Below.heap_setCell _ _ _ k hne
  have HT := Aside0.mk (tell_calls B dg attr true true rs _ hD2 (by simpa using hB) hg hn)
  have hB2 := Aside0.mk ((Below.refl B w).setCell (p := ⟨dg, 2, none⟩) hBd (.bool true))
  clear hown hb hD2
  go_enter Try.func24, Try.ntmps24
  go_wp2_with (first | (go_at_call 41; refine (is_calls dg w hc3).mono ?_; rintro e w1 ⟨rfl, rfl⟩) | (go_at_call 42; refine HT.out.mono ?_; rintro e w1 ⟨rfl, hd1, hb1⟩; have HD1 := Aside0.mk hd1; have HB1 := Aside0.mk hb1; clear hd1 hb1))
  go_ret2
  have he := decL_end attr _ (text rs) (Nat.le_refl _)
  have h1 := HD1.out
  rw [he] at h1 ⊢
  exact ⟨rfl, h1, hB2.out.trans HB1.out⟩
set_option maxRecDepth 100000 in
set_option maxHeartbeats 8000000 in
theorem feed_calls (B dg : Nat) (attr : Bool) (rs : List Int) (s : ByteArray) (w : World) (hD : DecAt B dg attr rs false w) (hB : B ≤ w.heap.size) (hg : goodsR rs) (hn : rs.length + s.size ≤ 268435456) :
    Calls Try.prog 23 #[.pointer (some ⟨dg, 0, none⟩), .string s] w fun en w' =>
      en = .returned (.tuple #[.string ⟨(decL attr false (text rs ++ mendL s.data.toList)).1.toArray⟩, .int .i64 0]) ∧ DecAt B dg attr (runes (decL attr false (text rs ++ mendL s.data.toList)).2) false w' ∧ Below B w w' := by
  obtain ⟨i0, hi, hz0, hz1, hz2⟩ := info_parts info21
  have HD := Aside0.mk hD
  have hdlt : dg < w.heap.size := by
    obtain ⟨_, _, hb, _⟩ := hD
    exact (Array.getElem?_eq_some_iff.1 hb).1
  obtain ⟨hBd, v, hb, hown⟩ := hD
  have hc2 : w.cell? ⟨dg, 2, none⟩ = some (.bool false) := (blk_cell hb 2).trans rfl
  have hc3 : w.cell? ⟨dg, 3, none⟩ = some (.bool true) := (blk_cell hb 3).trans rfl
  clear hown hb
  have hml := mendS_list s
  have hl : s.data.toList.length = s.size := by simp
  have hm4 := mendL_len4 s.data.toList
  have hmv := mendL_valid s.data.toList
  have hmr : (runes (mendL s.data.toList)).length ≤ s.size := by
    rw [mendL_runes]
    have : ∀ (n : Nat) (l : List UInt8), l.length ≤ n → (runes l).length ≤ l.length := by
      intro n
      induction n with
      | zero =>
        intro l h
        obtain rfl : l = [] := List.eq_nil_of_length_eq_zero (by omega)
        exact Nat.le_refl _
      | succ n ih =>
        intro l h
        by_cases hne : l = []
        · subst hne
          exact Nat.le_refl _
        · have hw := (rdL_facts l hne).1
          have hl : 0 < l.length := List.length_pos_iff.2 hne
          rw [runes_step l hne, List.length_cons]
          have := ih (l.drop (rdL l).2.1) (by rw [List.length_drop]; omega)
          rw [List.length_drop] at this
          omega
    have := this _ s.data.toList (Nat.le_refl _)
    omega
  have hmz : (mendS s).size = (mendL s.data.toList).length := by rw [← hml]; simp
  have hmg : goodsR (runes (mendL s.data.toList)) := runes_good _ _ (Nat.le_refl _)
  have HM := Aside0.mk (utf_Mend.calls s (mendS s) w (by unfold utf_Mend.f; rw [if_pos (by omega)]))
  have hmsz : (mendS s).size ≤ 4294967296 := by rw [hmz]; omega
  rw [← hml] at hmv hmr hmg ⊢
  clear hmz hml hm4 hl
  generalize mendS s = m at hmv hmr hmg hmsz HM
  have hml : m.data.toList.length = m.size := by simp
  have htx : text (rs ++ runes m.data.toList) = text rs ++ m.data.toList := by rw [text_append, text_runes _ _ (Nat.le_refl _) hmv]
  have HTX := Aside0.mk htx
  have HMV := Aside0.mk hmv
  have HML := Aside0.mk hml
  have HG := Aside0.mk (show goodsR (rs ++ runes m.data.toList) from fun r hr => by
    rcases List.mem_append.1 hr with h | h
    · exact hg r h
    · exact hmg r h)
  have HN := Aside0.mk (show (rs ++ runes m.data.toList).length ≤ 1073741824 by rw [List.length_append]; omega)
  clear htx hmv hml hmg hmr
  go_enter Try.func23, Try.ntmps23
  go_wp2_with (first | (go_at_call 41; refine (is_calls dg w hc3).mono ?_; rintro e w1 ⟨rfl, rfl⟩) | (go_at_call 33; refine HM.out.mono ?_; rintro e w1 ⟨rfl, hb1⟩; have HD1 := Aside0.mk (HD.out.below hb1); have HB1 := Aside0.mk hb1; clear hb1))
  have hsz1 := HB1.out.size
  go_loopw [7] (fun v7 wr => ∃ (pos : Nat) (rs' : List Int), pos ≤ m.size ∧ Aside0 (rs' ++ runes (m.data.toList.drop pos) = rs ++ runes m.data.toList) ∧ Aside0 (valid (m.data.toList.drop pos) = true) ∧ wr.heap[w1.heap.size]? = some (.stringIter m pos) ∧ Aside0 (DecAt B dg attr rs' false wr) ∧ Aside0 (Below B w wr)) (fun _ wr => m.size - wr.iterPos w1.heap.size)
  case atStart =>
    refine ⟨0, rs, Nat.zero_le _, ⟨by rw [List.drop_zero]⟩, ⟨by rw [List.drop_zero]; exact HMV.out⟩, ?_, ⟨?_⟩, ⟨?_⟩⟩
    · have := World.iter_heap w1 m 0
      simpa using this
    · exact HD1.out.below (below_alloc (Below.refl _ w1) _)
    · exact (HB1.out.mono hB).alloc (Nat.le_trans hB hsz1) _
  case round =>
    obtain ⟨pos, rs', hpl, HR, HV, hit, HDx, HBx⟩ := hrel
    have hlt0 : w1.heap.size < wr.heap.size := (Array.getElem?_eq_some_iff.1 hit).1
    by_cases hp : pos < m.size
    · have hne : m.data.toList.drop pos ≠ [] := by rw [ne_eq, List.drop_eq_nil_iff]; have := HML.out; omega
      have hd := rdL_decode _ hne
      have hf := rdL_facts _ hne
      have hv := HV.out
      rw [valid_step _ hne] at hv
      have h0 : (rdL (m.data.toList.drop pos)).2.2 = 0 := by
        by_cases h0 : (rdL (m.data.toList.drop pos)).2.2 = 0
        · exact h0
        · rw [if_neg h0] at hv
          cases hv
      rw [if_pos h0, List.drop_drop] at hv
      rw [if_pos h0, Lib.decodeL_drop] at hd
      have hrn := runes_step _ hne
      rw [List.drop_drop] at hrn
      have hw1 := hf.1
      have hw2 := hf.2.1
      rw [List.length_drop, HML.out] at hw2
      have hg1 := hf.2.2.2.2.1
      have hlen : rs'.length + 1 ≤ 1073741824 := by
        have h1 := congrArg List.length HR.out
        have h2 := HN.out
        rw [hrn] at h1
        rw [List.length_append, List.length_cons] at h1
        omega
      have hnx : ∀ ty, (Instr.next (.pointer (some ⟨w1.heap.size, 0, none⟩)) true ty).run Try.prog wr = _ := fun ty => Lib.run_next_any_at wr w1.heap.size m pos ty hit hp
      rw [hd] at hnx
      simp only at hnx
      generalize rdL (m.data.toList.drop pos) = q at hd hrn hw1 hw2 hg1 hnx hv
      obtain ⟨q1, q2, q3⟩ := q
      simp only at hd hrn hw1 hw2 hg1 hnx hv
      have hit2 := Lib.iterAt_heap wr w1.heap.size m pos (pos + q2) hit
      have hBy2 := Lib.below_iterAt HBx.out (k := w1.heap.size) (Nat.le_trans hB hsz1) m (pos + q2)
      have hsz2 : (wr.iterAt w1.heap.size m (pos + q2)).heap.size = wr.heap.size := Lib.iterAt_size wr w1.heap.size m (pos + q2)
      obtain ⟨_, v, hb, hown⟩ := HDx.out
      obtain ⟨A0, cap0, rfl, _⟩ := own_reads hown
      have hdlt2 : dg < wr.heap.size := (Array.getElem?_eq_some_iff.1 hb).1
      have hdne : dg ≠ w1.heap.size := by
        rintro rfl
        rw [hit] at hb
        cases hb
      have hb2 : (wr.iterAt w1.heap.size m (pos + q2)).heap[dg]? = some (.cells #[.bool attr, .slice A0 rs'.length cap0, .bool false, .bool true] 53 (0, 0)) := by rw [Lib.iterAt_other _ _ _ _ _ hdne]; exact hb
      have hown2 : (wr.iterAt w1.heap.size m (pos + q2)).ownsRow B 21 1 (.slice A0 rs'.length cap0) rs'.length (nums .i32 rs') := own_move hown fun k hk => by
        refine Lib.iterAt_other _ _ _ _ _ ?_
        rintro rfl
        obtain ⟨cells, hc⟩ := own_typed hown _ hk
        rw [hit] at hc
        cases hc
      generalize hW0 : wr.iterAt w1.heap.size m (pos + q2) = W0 at hnx hit2 hBy2 hsz2 hb2 hown2
      clear hb hown hd hne hf h0
      have hc1 : W0.cell? ⟨dg, 1, none⟩ = some (.slice A0 rs'.length cap0) := (blk_cell hb2 1).trans rfl
      have HRN := Aside0.mk hrn
      have HV2 := Aside0.mk hv
      have HB2 := Aside0.mk hb2
      have HIT2 := Aside0.mk hit2
      have HBY2 := Aside0.mk hBy2
      have HSZ2 := Aside0.mk hsz2
      have HOWN2 := Aside0.mk hown2
      have HW0 := Aside0.mk hW0
      clear hrn hv hb2 hit2 hBy2 hsz2 hown2 hW0
      go_wp2_with (at_builtin; refine wpList_append_own _ rfl _ _ 29 rfl B 21 i0 (.int .i32 0) 1 4 Try.underlying29 hi hz0 hz1 hz2 rfl (by decide) _ _ _ rfl (HOWN2.out.alloc _) ⟨W0.heap.size, 0, none⟩ 1 1 [.int .i32 (q1 : Nat)] rfl rfl ?c1 ?c2 ?c3 ?c4 ?c5 ?_)
      case c1 => exact cell_one_new _ _ _
      case c2 => simp [Value.oneCell']
      case c3 => simp only [maxLen]; omega
      case c4 => omega
      case c5 => have h1 := HSZ2.out; have h2 := HBx.out.size; simp; omega
      intro v' w2 hown' hgrow _
      obtain ⟨g', cap2, rfl⟩ := ownsRow_succ hown'
      have hlt3 : dg < W0.heap.size := by have := HSZ2.out; omega
      have hrow : ∀ k, Value.ownBlock (.slice A0 rs'.length cap0) = some k → k ≠ dg ∧ k ≠ w1.heap.size := by
        intro k hk
        obtain ⟨cells, hc⟩ := own_typed HOWN2.out k hk
        refine ⟨?_, ?_⟩
        · rintro rfl
          rw [HB2.out] at hc
          have e := Option.some.inj hc
          injection e with _ e2 _
          exact absurd e2 (by decide)
        · rintro rfl
          rw [HIT2.out] at hc
          cases hc
      have hd2 : w2.heap[dg]? = some (.cells #[.bool attr, .slice A0 rs'.length cap0, .bool false, .bool true] 53 (0, 0)) := by
        rw [hgrow.block dg (by simp; omega) (fun e => (hrow dg e.symm).1 rfl), Lib.alloc_old W0 _ dg hlt3]
        exact HB2.out
      have hi2 : w2.heap[w1.heap.size]? = some (.stringIter m (pos + q2)) := by
        have h1 := HSZ2.out
        rw [hgrow.block w1.heap.size (by simp; omega) (fun e => (hrow _ e.symm).2 rfl), Lib.alloc_old W0 _ _ (by omega)]
        exact HIT2.out
      have hdc : w2.cell? ⟨dg, 1, none⟩ = some (.slice A0 rs'.length cap0) := (blk_cell hd2 1).trans rfl
      have hdf : w2.frozen? ⟨dg, 1, none⟩ = false := blk_frozen hd2 1
      have hBy3 : Below B w w2 := (HBY2.out.alloc (by have h1 := HSZ2.out; have h2 := HBx.out.size; omega) _).grown hgrow (by have h1 := HSZ2.out; have h2 := HBx.out.size; simp; omega) (own_base HOWN2.out)
      have HD2 := Aside0.mk hd2
      have HI2 := Aside0.mk hi2
      have HBY3 := Aside0.mk hBy3
      have HOWN' := Aside0.mk hown'
      clear hd2 hi2 hBy3 hown' hgrow hrow
      go_wp2
      have hrow2 : ∀ k, Value.ownBlock (.slice (some ⟨g', 0, none⟩) (rs'.length + 1) cap2) = some k → k ≠ dg := by
        rintro k hk rfl
        obtain ⟨cells, hc⟩ := own_typed HOWN'.out k hk
        rw [HD2.out] at hc
        have e := Option.some.inj hc
        injection e with _ e2 _
        exact absurd e2 (by decide)
      refine ⟨⟨pos + q2, rs' ++ [(q1 : Int)], by omega, ⟨?_⟩, HV2, ?_, ⟨?_⟩, ⟨?_⟩⟩, ?_⟩
      · have h1 := HR.out
        rw [HRN.out] at h1
        rw [List.append_assoc]
        exact h1
      · rw [Below.heap_setCell _ _ _ _ (Ne.symm hdne)]
        exact HI2.out
      · refine ⟨hBd, _, blk_put HD2.out 1 _ rfl, ?_⟩
        have e : nums .i32 (rs' ++ [(q1 : Int)]) = nums .i32 rs' ++ [.int .i32 (q1 : Nat)] := by simp [nums]
        rw [e, List.length_append]
        exact own_move HOWN'.out fun k hk => Below.heap_setCell _ _ _ k (hrow2 k hk)
      · exact HBY3.out.setCell (p := ⟨dg, 1, none⟩) hBd _
      · have h3 : (w2.setCell ⟨dg, 1, none⟩ (.slice (some ⟨g', 0, none⟩) (rs'.length + 1) cap2)).heap[w1.heap.size]? = some (.stringIter m (pos + q2)) := by
          rw [Below.heap_setCell _ _ _ _ (Ne.symm hdne)]
          exact HI2.out
        simp only [World.iterPos, h3, hit]
        omega
    · obtain rfl : pos = m.size := by omega
      have hnx : ∀ ty, (Instr.next (.pointer (some ⟨w1.heap.size, 0, none⟩)) true ty).run Try.prog wr = _ := fun ty => Lib.run_next_end_at wr w1.heap.size m m.size ty hit hp
      have hr : rs' = rs ++ runes m.data.toList := by
        have := HR.out
        rw [List.drop_eq_nil_of_le (Nat.le_of_eq HML.out), runes_nil, List.append_nil] at this
        exact this
      subst hr
      have HT := Aside0.mk (tell_calls B dg attr false false _ wr HDx.out (Nat.le_trans hB HBx.out.size) HG.out HN.out)
      go_wp2_with (go_at_call 42; refine HT.out.mono ?_; rintro e w9 ⟨rfl, hd9, hb9⟩; have HD9 := Aside0.mk hd9; have HB9 := Aside0.mk hb9; clear hd9 hb9)
      go_ret2
      have h1 := HD9.out
      rw [HTX.out] at h1 ⊢
      exact ⟨rfl, h1, HBx.out.trans HB9.out⟩
end Go.Proofs.Ytilpbfbnnmclhaa.P
end
section
namespace Go.Proofs.Ytilpbfbnnmclhaa.P
open Go.RowKit Go.Proofs.YtilpbfbnnmclhaaW.PrintWords Go.Proofs.YtilpbfbnnmclhaaW.PrintLast Go.Proofs.YtilpbfbnnmclhaaW.PrintMore
attribute [local go_sem] max2_int min2_int max_two min_two max_three min_three max_four min_four   -- for this text's walks alone
set_option linter.unusedVariables false
set_option linter.unusedSimpArgs false

/-! ### sievelaw06_awake: function 11 -/
def sievelaw06_awake.f (k : Nat)  : Option (Bool) := (charref_Decode.f k (⟨#[97, 38, 99, 111, 112, 121, 61, 49, 38, 35, 120, 52, 49, 59]⟩ : ByteArray) true).bind fun t307 => (if t307.toList = ([97, 38, 99, 111, 112, 121, 61, 49, 65] : List UInt8) then ((charref_Decode.f k (⟨#[38, 97, 109, 112, 59, 38, 108, 116, 59]⟩ : ByteArray) false).bind fun t308 => (some (t308.toList == ([38, 60] : List UInt8)))) else (some false))
theorem sievelaw06_awake.mono : ∀ k, LeO (sievelaw06_awake.f k ) (sievelaw06_awake.f (k + 1) ) := by
 intro  k
 unfold sievelaw06_awake.f
 repeat' first
   | (with_reducible exact charref_Decode.mono _ _ _)
   | (with_reducible exact LeO.refl _)
   | (with_reducible exact LeO.none _)
   | (with_reducible refine LeO.ite ?_ ?_)
   | (with_reducible refine LeO.bind ?_ (fun _ => ?_))
   | exact charref_Decode.mono _ _ _
   | exact LeO.none _
   | refine LeO.ite ?_ ?_
   | refine LeO.bind ?_ (fun _ => ?_)
set_option maxHeartbeats 8000000 in
set_option maxRecDepth 100000 in
theorem sievelaw06_awake.calls (k : Nat)  (r : Bool) (w : World) (h : sievelaw06_awake.f k  = some r) :
  Calls Try.prog 11 #[] w fun e w' => e = .returned (.bool r) ∧ Below w.heap.size w w' := by
 have HB := Aside0.mk (Below.refl w.heap.size w)
 have H : ((charref_Decode.f k (⟨#[97, 38, 99, 111, 112, 121, 61, 49, 38, 35, 120, 52, 49, 59]⟩ : ByteArray) true).bind fun t307 => (if t307.toList = ([97, 38, 99, 111, 112, 121, 61, 49, 65] : List UInt8) then ((charref_Decode.f k (⟨#[38, 97, 109, 112, 59, 38, 108, 116, 59]⟩ : ByteArray) false).bind fun t308 => (some (t308.toList == ([38, 60] : List UInt8)))) else (some false))) = some r := h
 clear h
 replace H := Option.bind_eq_some_iff.mp H
 obtain ⟨t307, A10, H⟩ := H
 replace H : (if t307.toList = ([97, 38, 99, 111, 112, 121, 61, 49, 65] : List UInt8) then ((charref_Decode.f k (⟨#[38, 97, 109, 112, 59, 38, 108, 116, 59]⟩ : ByteArray) false).bind fun t308 => (some (t308.toList == ([38, 60] : List UInt8)))) else (some false)) = some r := H
 have A1 := Aside0.mk A10
 clear A10
 by_cases c2 : t307.toList = ([97, 38, 99, 111, 112, 121, 61, 49, 65] : List UInt8)
 ·rw [if_pos c2] at H
  have c2b0 : (t307.toList == ([97, 38, 99, 111, 112, 121, 61, 49, 65] : List UInt8)) = true := beq_iff_eq.mpr c2
  have c2b1 : (t307.toList != ([97, 38, 99, 111, 112, 121, 61, 49, 65] : List UInt8)) = false := bne_eq_false_iff_eq.mpr c2
  clear c2
  replace H := Option.bind_eq_some_iff.mp H
  obtain ⟨t308, A30, H⟩ := H
  replace H : (some (t308.toList == ([38, 60] : List UInt8))) = some r := H
  have A3 := Aside0.mk A30
  clear A30
  obtain rfl := Option.some.inj H
  go_enter Try.func11, Try.ntmps11
  go_wp2_with (first | ((with_reducible refine gate_callee (f := 18) rfl ?_); refine goesL_ (some 1) rfl rfl Try.func18 (by kernel_rfl) rfl #[.string (⟨#[97, 38, 99, 111, 112, 121, 61, 49, 38, 35, 120, 52, 49, 59]⟩ : ByteArray), .bool true] rfl (by (try simp only [List.map_toArray, List.map_cons, List.map_nil]); first | done | rfl | (simp only [List.length_drop, List.length_take]; rfl) | (simp [*] <;> rfl)) ?_; (with_reducible refine (charref_Decode.calls k (⟨#[97, 38, 99, 111, 112, 121, 61, 49, 38, 35, 120, 52, 49, 59]⟩ : ByteArray) true t307 _ A1.out).mono ?_); rintro e w4 ⟨rfl, hb⟩; refine ⟨_, rfl, ?_⟩; have n0_ := Aside0.mk (below_step (by repeat (first | (with_reducible first | exact HB.out | apply below_alloc | apply pw_below_drewN | apply below_drew1) | exact HB.out)) hb); clear HB; have HB := n0_; clear n0_; (try clear hb); (try clear hb2); (try clear hk); (try clear hi)) | (go_at_call 18; (with_reducible refine (charref_Decode.calls k (⟨#[38, 97, 109, 112, 59, 38, 108, 116, 59]⟩ : ByteArray) false t308 _ A3.out).mono ?_); rintro e w5 ⟨rfl, hb⟩; have n0_ := Aside0.mk (below_step (by repeat (first | (with_reducible first | exact HB.out | apply below_alloc | apply pw_below_drewN | apply below_drew1) | exact HB.out)) hb); clear HB; have HB := n0_; clear n0_; (try clear hb); (try clear hb2); (try clear hk); (try clear hi)))
  go_ret
  exact ⟨by first | rfl | (simp [errW_none, errW_some] <;> rfl) | (simp [*, errW_none, errW_some] <;> rfl), by repeat (first | (with_reducible first | exact HB.out | apply below_alloc | apply pw_below_drewN | apply below_drew1) | exact HB.out)⟩
 ·rw [if_neg c2] at H
  have c2b0 : (t307.toList == ([97, 38, 99, 111, 112, 121, 61, 49, 65] : List UInt8)) = false := beq_eq_false_iff_ne.mpr c2
  have c2b1 : (t307.toList != ([97, 38, 99, 111, 112, 121, 61, 49, 65] : List UInt8)) = true := bne_iff_ne.mpr c2
  obtain rfl := Option.some.inj H
  go_enter Try.func11, Try.ntmps11
  go_wp2_with (first | ((with_reducible refine gate_callee (f := 18) rfl ?_); refine goesL_ (some 1) rfl rfl Try.func18 (by kernel_rfl) rfl #[.string (⟨#[97, 38, 99, 111, 112, 121, 61, 49, 38, 35, 120, 52, 49, 59]⟩ : ByteArray), .bool true] rfl (by (try simp only [List.map_toArray, List.map_cons, List.map_nil]); first | done | rfl | (simp only [List.length_drop, List.length_take]; rfl) | (simp [*] <;> rfl)) ?_; (with_reducible refine (charref_Decode.calls k (⟨#[97, 38, 99, 111, 112, 121, 61, 49, 38, 35, 120, 52, 49, 59]⟩ : ByteArray) true t307 _ A1.out).mono ?_); rintro e w6 ⟨rfl, hb⟩; refine ⟨_, rfl, ?_⟩; have n0_ := Aside0.mk (below_step (by repeat (first | (with_reducible first | exact HB.out | apply below_alloc | apply pw_below_drewN | apply below_drew1) | exact HB.out)) hb); clear HB; have HB := n0_; clear n0_; (try clear hb); (try clear hb2); (try clear hk); (try clear hi)))
  go_ret
  exact ⟨by first | rfl | (simp [errW_none, errW_some] <;> rfl) | (simp [*, errW_none, errW_some] <;> rfl), by repeat (first | (with_reducible first | exact HB.out | apply below_alloc | apply pw_below_drewN | apply below_drew1) | exact HB.out)⟩

end Go.Proofs.Ytilpbfbnnmclhaa.P
end
section
namespace Go.Proofs.Ytilpbfbnnmclhaa.P
open Go.RowKit Go.Proofs.YtilpbfbnnmclhaaW.PrintWords Go.Proofs.YtilpbfbnnmclhaaW.PrintLast Go.Proofs.YtilpbfbnnmclhaaW.PrintMore
attribute [local go_sem] max2_int min2_int max_two min_two max_three min_three max_four min_four   -- for this text's walks alone
set_option linter.unusedVariables false
set_option linter.unusedSimpArgs false

/-! ### sievelaw06_num: function 10 -/
def sievelaw06_num.f (a0 : Int) : Option (Int) := some a0
set_option maxHeartbeats 8000000 in
set_option maxRecDepth 100000 in
theorem sievelaw06_num.calls (a0 : Int) (r : Int) (w : World) (h : sievelaw06_num.f a0 = some r) :
  Calls Try.prog 10 #[.int .i64 a0] w fun e w' => e = .returned (.int .i64 r) ∧ Drawn0 w w' := by
 have H : (some a0) = some r := h
 clear h
 obtain rfl := Option.some.inj H
 go_enter Try.func10, Try.ntmps10
 go_wp2
 go_ret
 exact ⟨by first | rfl | (simp; done) | (simp [*]; done), by repeat (first | exact Drawn0.refl _ | apply Drawn0.step)⟩

end Go.Proofs.Ytilpbfbnnmclhaa.P
end
section
namespace Go.Proofs.Ytilpbfbnnmclhaa.P
open Go.RowKit Go.Proofs.YtilpbfbnnmclhaaW.PrintWords Go.Proofs.YtilpbfbnnmclhaaW.PrintLast Go.Proofs.YtilpbfbnnmclhaaW.PrintMore
attribute [local go_sem] max2_int min2_int max_two min_two max_three min_three max_four min_four   -- for this text's walks alone
set_option linter.unusedVariables false
set_option linter.unusedSimpArgs false

end Go.Proofs.Ytilpbfbnnmclhaa.P
end
section
/-
  sievelaw06.CharrefCuts: texts in pieces: all that is told is the whole decoded.
-/
namespace Go.Proofs.Ytilpbfbnnmclhaa.P
open Go.RowKit Go.Shelf Go.Proofs.YtilpbfbnnmclhaaW.PrintWords Go.Proofs.YtilpbfbnnmclhaaW.PrintLast Go.Proofs.YtilpbfbnnmclhaaW.PrintMore
set_option linter.unusedVariables false
set_option linter.unusedSimpArgs false

/-- what has been told, and what is held, of all so far -/
def CutsInv (attr : Bool) (a g : ByteArray) (rs : List Int) : Prop :=
  goodsR rs ∧ valid a.data.toList = true ∧ (text rs).length ≤ a.size ∧ g.size ≤ 8 * a.size ∧ ∀ u, dgL id attr (a.data.toList ++ u) = g.data.toList ++ dgL id attr (text rs ++ u)
theorem CutsInv.start (attr : Bool) : CutsInv attr ⟨#[]⟩ ⟨#[]⟩ [] := ⟨(fun r h => by cases h), rfl, Nat.zero_le _, Nat.zero_le _, fun u => rfl⟩
theorem dgL_app (attr : Bool) (l u : List UInt8) : dgL id attr (l ++ u) = (decL attr false l).1 ++ dgL id attr ((decL attr false l).2 ++ u) := by
  have h := decL_app attr true u _ l (Nat.le_refl _)
  rw [decL_end attr _ _ (Nat.le_refl _), decL_end attr _ _ (Nat.le_refl _)] at h
  exact (Prod.mk.inj h).1
theorem rest_len (attr : Bool) (l : List UInt8) : (decL attr false l).2.length ≤ l.length := by
  obtain ⟨i, h1, h2, _⟩ := decL_rest attr false _ l (Nat.le_refl _)
  rw [h2, List.length_drop]
  omega
theorem size_list (s : ByteArray) : s.data.toList.length = s.size := by simp
theorem CutsInv.step {attr : Bool} {a g : ByteArray} {rs : List Int} (h : CutsInv attr a g rs) (s : ByteArray) :
    CutsInv attr (a ++ ⟨(mendL s.data.toList).toArray⟩) (g ++ ⟨(decL attr false (text rs ++ mendL s.data.toList)).1.toArray⟩) (runes (decL attr false (text rs ++ mendL s.data.toList)).2) := by
  obtain ⟨h1, h2, h3, h4, h5⟩ := h
  have hv : valid (text rs ++ mendL s.data.toList) = true := valid_append _ _ _ (Nat.le_refl _) (valid_text rs h1) (mendL_valid _)
  have hr := decL_valid attr false _ hv
  have ht : text (runes (decL attr false (text rs ++ mendL s.data.toList)).2) = (decL attr false (text rs ++ mendL s.data.toList)).2 := mendL_of_valid _ hr
  have hl := rest_len attr (text rs ++ mendL s.data.toList)
  rw [List.length_append] at hl
  have key : ∀ u, dgL id attr ((a ++ ⟨(mendL s.data.toList).toArray⟩ : ByteArray).data.toList ++ u) = (g ++ ⟨(decL attr false (text rs ++ mendL s.data.toList)).1.toArray⟩ : ByteArray).data.toList ++ dgL id attr (text (runes (decL attr false (text rs ++ mendL s.data.toList)).2) ++ u) := by
    intro u
    rw [ht, ByteArray.data_append, Array.toList_append, ByteArray.data_append, Array.toList_append]
    show dgL id attr ((a.data.toList ++ mendL s.data.toList) ++ u) = (g.data.toList ++ (decL attr false (text rs ++ mendL s.data.toList)).1) ++ _
    rw [List.append_assoc, h5, ← List.append_assoc (text rs), dgL_app attr (text rs ++ mendL s.data.toList) u, List.append_assoc]
  have ha : (a ++ ⟨(mendL s.data.toList).toArray⟩ : ByteArray).size = a.size + (mendL s.data.toList).length := by rw [ByteArray.size_append]; rfl
  refine ⟨runes_good _ _ (Nat.le_refl _), ?_, ?_, ?_, key⟩
  · rw [ByteArray.data_append, Array.toList_append]
    exact valid_append _ _ _ (Nat.le_refl _) h2 (mendL_valid _)
  · rw [ht, ha]
    omega
  · have k0 := congrArg List.length (key [])
    have k1 := dgL_len attr _ ((a ++ ⟨(mendL s.data.toList).toArray⟩ : ByteArray).data.toList ++ []) (Nat.le_refl _)
    rw [List.length_append] at k0
    rw [List.append_nil, size_list] at k1
    rw [List.append_nil] at k0
    rw [size_list] at k0
    omega
theorem CutsInv.fin {attr : Bool} {a g : ByteArray} {rs : List Int} (h : CutsInv attr a g rs) : (g ++ ⟨(dgL id attr (text rs)).toArray⟩ : ByteArray).toList = (⟨(dgL id attr (mendL a.data.toList)).toArray⟩ : ByteArray).toList := by
  obtain ⟨h1, h2, h3, h4, h5⟩ := h
  have := h5 []
  rw [List.append_nil, List.append_nil] at this
  rw [ByteArray.toList_eq, ByteArray.toList_eq, ByteArray.data_append, Array.toList_append, mendL_of_valid _ h2]
  exact this.symm
theorem cuts_awake : sievelaw06_awake.f 400 = some true := by decide +kernel
/-- how long the first texts are -/
def sumL (l : List ByteArray) : Nat := (l.map fun s => s.size).foldr (· + ·) 0
theorem sumL_cons (s : ByteArray) (t : List ByteArray) : sumL (s :: t) = s.size + sumL t := rfl
theorem sumL_take : ∀ (l : List ByteArray) (i : Nat) (h : i < l.length), sumL (l.take (i + 1)) = sumL (l.take i) + l[i].size
  | [], i, h => absurd h (Nat.not_lt_zero _)
  | s :: t, 0, h => by simp [sumL]
  | s :: t, i + 1, h => by
    have h' : i < t.length := by simpa using h
    rw [List.take_succ_cons, List.take_succ_cons, sumL_cons, sumL_cons, sumL_take t i h']
    simp only [List.getElem_cons_succ]
    omega
theorem sumL_le : ∀ (l : List ByteArray) (i : Nat), sumL (l.take i) ≤ sumL l
  | [], i => by simp
  | s :: t, 0 => Nat.zero_le _
  | s :: t, i + 1 => by
    rw [List.take_succ_cons, sumL_cons, sumL_cons]
    have := sumL_le t i
    omega

end Go.Proofs.Ytilpbfbnnmclhaa.P
end
section
/-
  A slice of strings that is an argument: what its reading says, and its bulk.
-/
namespace Go.Proofs.Ytilpbfbnnmclhaa.P
open Go.RowKit Go.Deep Go.Proofs.YtilpbfbnnmclhaaW.PrintWords Go.Proofs.YtilpbfbnnmclhaaW.PrintLast Go.Proofs.YtilpbfbnnmclhaaW.PrintMore
set_option linter.unusedVariables false
set_option linter.unusedSimpArgs false

theorem bulk_strs {H : Type} : ∀ l : List ByteArray, Rows.uptoBulkAll (l.map fun s => DataW.lit (H := H) (.string s.data.toList)) = sumL l + l.length
  | [] => by simp [Rows.uptoBulkAll, sumL]
  | s :: t => by
    rw [List.map_cons, List.length_cons, sumL_cons]
    simp only [Rows.uptoBulkAll, Rows.uptoBulk]
    rw [bulk_strs t, size_list]
    omega
theorem strs_open {H : Type} {enc : TypeId × Value → H} {W : World} {A : Option Addr} {len cap fuel : Nat} {x : DataW H × List MemPlace}
    (hf : DataW.trod enc Try.prog W 0 (fun _ => true) true fuel 45 [.slice A len cap] = some x) :
    ∃ l : List ByteArray, len = l.length ∧ ReadsOf Value.string (⟨#[]⟩ : ByteArray) W A l.length l ∧ sumL l + l.length ≤ Rows.uptoBulk x.1 := by
  rcases open_slice1 Try.underlying45 (by kernel_rfl) hf with ⟨hcs, rfl⟩ | ⟨a, l, c, m, n, V, D, Pl, hcs, _, hl, hm, hmm, rfl, hcell⟩
  · simp only [List.cons.injEq, Value.slice.injEq, and_true] at hcs
    obtain ⟨rfl, rfl, rfl⟩ := hcs
    exact ⟨[], rfl, ⟨rfl, Nat.zero_le _, fun h => absurd h (Nat.lt_irrefl _)⟩, Nat.zero_le _⟩
  · simp only [List.cons.injEq, Value.slice.injEq, and_true] at hcs
    obtain ⟨rfl, rfl, rfl⟩ := hcs
    have hmc : m = cap := by simpa using hmm
    subst hmc
    have hS : ∀ i, i < len → ∃ s : ByteArray, V i = .string s ∧ D i = .lit (.string s.data.toList) := by
      intro i hi
      obtain ⟨s, h1, h2, _⟩ := DataW.trod_string Try.underlying9 (hcell i (by omega)).2
      simp only [List.cons.injEq, and_true] at h1
      exact ⟨s, h1, (Prod.mk.inj h2).1⟩
    obtain ⟨S, hS2⟩ := choose_lt (α := ByteArray) (p := fun i s => V i = .string s ∧ D i = .lit (.string s.data.toList)) hS
    have hD : (List.range len).map D = ((List.range len).map S).map (fun s => DataW.lit (H := H) (.string s.data.toList)) := by
      rw [List.map_map]
      exact List.map_congr_left fun i hi => (hS2 i (List.mem_range.1 hi)).2
    refine ⟨(List.range len).map S, by simp, ⟨rfl, by simp; unfold maxLen at hm; omega, fun _ => ⟨a, rfl, fun j hj => ?_⟩⟩, ?_⟩
    · have hj' : j < len := by simpa using hj
      rw [(hcell j (by omega)).1, (hS2 j hj').1]
      congr 1
      simp [List.getD_eq_getElem?_getD, List.getElem?_map, List.getElem?_range hj']
    · simp only [Rows.uptoBulk]
      rw [hD, bulk_strs]
      omega
end Go.Proofs.Ytilpbfbnnmclhaa.P
end
section
/-
  The document's Held and Decode in plain Lean; a text that is cut where a reference begins.
-/
namespace Go.Proofs.Ytilpbfbnnmclhaa.P
open Go.RowKit Go.Proofs.YtilpbfbnnmclhaaW.PrintWords Go.Proofs.YtilpbfbnnmclhaaW.PrintLast Go.Proofs.YtilpbfbnnmclhaaW.PrintMore
set_option linter.unusedVariables false
set_option linter.unusedSimpArgs false

/-! ### a text that ends where an & stands -/
theorem ents_noamp : ∀ x ∈ ents, ∀ b ∈ nameL x, b ≠ 38 := by decide +kernel
theorem isPrefix_amp (t2 : List UInt8) : ∀ (p t1 : List UInt8), (∀ b ∈ p, b ≠ 38) → p.isPrefixOf (t1 ++ 38 :: t2) = p.isPrefixOf t1
  | [], t1, _ => by simp
  | a :: p, [], h => by
    have := h a List.mem_cons_self
    rw [List.nil_append, List.isPrefixOf_cons_cons, beq_eq_false_iff_ne.2 this, Bool.false_and]
    rfl
  | a :: p, b :: t1, h => by
    rw [List.cons_append, List.isPrefixOf_cons_cons, List.isPrefixOf_cons_cons, isPrefix_amp t2 p t1 (fun x hx => h x (List.mem_cons_of_mem _ hx))]
theorem getD_amp (t1 t2 : List UInt8) (n : Nat) (h : n ≤ t1.length) : (t1 ++ 38 :: t2).getD n 0 = if n < t1.length then t1.getD n 0 else 38 := by
  by_cases c : n < t1.length
  · rw [if_pos c, getD_app t1 _ n c]
  · rw [if_neg c]
    obtain rfl : n = t1.length := by omega
    rw [List.getD_eq_getElem?_getD, List.getElem?_append_right (Nat.le_refl _), Nat.sub_self]
    rfl
theorem stepL_amp (t1 t2 : List UInt8) (x : Ent) (hx : ∀ b ∈ nameL x, b ≠ 38) (acc : Nat × List Int) : stepL (t1 ++ 38 :: t2) acc x = stepL t1 acc x := by
  unfold stepL
  rw [isPrefix_amp t2 _ t1 hx]
  by_cases hp : (nameL x).isPrefixOf t1 = true
  · have hl := ((prefix_take _ _).1 hp).1
    rw [if_pos hp, if_pos hp]
    have e : ((nameL x).length < (t1 ++ 38 :: t2).length ∧ (t1 ++ 38 :: t2).getD (nameL x).length 0 = 59) ↔ ((nameL x).length < t1.length ∧ t1.getD (nameL x).length 0 = 59) := by
      rw [getD_amp t1 t2 _ hl, List.length_append, List.length_cons]
      constructor
      · rintro ⟨_, h⟩
        by_cases c : (nameL x).length < t1.length
        · rw [if_pos c] at h
          exact ⟨c, h⟩
        · rw [if_neg c] at h
          exact absurd h (by decide)
      · rintro ⟨h1, h2⟩
        rw [if_pos h1]
        exact ⟨by omega, h2⟩
    by_cases c : (nameL x).length < t1.length ∧ t1.getD (nameL x).length 0 = 59
    · rw [if_pos c, if_pos (e.2 c)]
    · rw [if_neg c, if_neg (fun d => c (e.1 d))]
  · rw [if_neg hp, if_neg hp]
theorem foldL_amp (t1 t2 : List UInt8) : ∀ (es : List Ent), (∀ x ∈ es, ∀ b ∈ nameL x, b ≠ 38) → ∀ acc : Nat × List Int, es.foldl (stepL (t1 ++ 38 :: t2)) acc = es.foldl (stepL t1) acc
  | [], _, acc => rfl
  | x :: r, h, acc => by
    rw [List.foldl_cons, List.foldl_cons, stepL_amp t1 t2 x (h x List.mem_cons_self), foldL_amp t1 t2 r (fun y hy => h y (List.mem_cons_of_mem _ hy))]
theorem namedL_amp (t1 t2 : List UInt8) (attr : Bool) : namedL (t1 ++ 38 :: t2) attr true = namedL t1 attr true := by
  have hl : longL (t1 ++ 38 :: t2) = longL t1 := foldL_amp t1 t2 ents ents_noamp (0, [])
  have hle := longL_le t1
  unfold namedL
  rw [hl, if_neg (show ¬ (true = false ∧ _) from fun h => by cases h.1), if_neg (show ¬ (true = false ∧ _) from fun h => by cases h.1)]
  generalize longL t1 = q at hle
  obtain ⟨n, o⟩ := q
  simp only at hle ⊢
  by_cases c0 : n = 0
  · rw [if_pos c0, if_pos c0]
  rw [if_neg c0, if_neg c0, getD_app t1 _ _ (by omega)]
  by_cases c1 : attr = true ∧ t1.getD (n - 1) 0 ≠ 59
  · rw [if_pos c1, if_pos c1, if_neg (show ¬ n = (t1 ++ 38 :: t2).length by rw [List.length_append, List.length_cons]; omega), getD_amp t1 t2 n hle]
    by_cases c2 : n = t1.length
    · rw [if_pos c2, if_neg (show ¬ n < t1.length by omega), if_neg (by decide), if_neg (by decide), if_pos trivial]
    · rw [if_neg c2, if_pos (show n < t1.length by omega)]
  · rw [if_neg c1, if_neg c1]
theorem nDig_amp (hex : Bool) (t2 : List UInt8) : ∀ t1 : List UInt8, nDig hex (t1 ++ 38 :: t2) = nDig hex t1
  | [] => by
    rw [List.nil_append]
    unfold nDig
    rw [if_neg (by cases hex <;> decide)]
  | b :: t => by
    rw [List.cons_append]
    unfold nDig
    rw [nDig_amp hex t2 t]
theorem numericL_amp (t1 t2 : List UInt8) (h0 : t1 ≠ []) : numericL (t1 ++ 38 :: t2) true = numericL t1 true := by
  have hl0 : 0 < t1.length := List.length_pos_iff.2 h0
  have hh : hexL (t1 ++ 38 :: t2) = hexL t1 := by
    unfold hexL
    by_cases c : 1 < t1.length
    · rw [getD_app t1 _ 1 c]
    · have e : t1.getD 1 0 = 0 := by
        rw [List.getD_eq_getElem?_getD, List.getElem?_eq_none (by omega)]
        rfl
      rw [getD_amp t1 t2 1 (by omega), if_neg c, e]
      decide
  have hfr : fromL (t1 ++ 38 :: t2) = fromL t1 := by unfold fromL; rw [hh]
  have hf := fromL_le t1 (by omega)
  have ha := atL_le t1 hf
  have hat : atL (t1 ++ 38 :: t2) = atL t1 := by
    unfold atL
    rw [hh, hfr, List.drop_append_of_le_length hf, nDig_amp]
  have hfp := fromL_pos t1
  unfold numericL
  rw [hh, hfr, hat, List.length_append, List.length_cons, List.take_append_of_le_length ha]
  rw [if_neg (show ¬ (t1.length + (t2.length + 1) = 1) by omega), if_neg (show ¬ (atL t1 = t1.length + (t2.length + 1) ∧ true = false) from fun h => by cases h.2), if_neg (show ¬ (atL t1 = t1.length ∧ true = false) from fun h => by cases h.2)]
  by_cases c1 : t1.length = 1
  · have : atL t1 = fromL t1 := by
      have h1 : fromL t1 = 1 := by omega
      have h2 : fromL t1 ≤ atL t1 := by unfold atL; omega
      omega
    rw [if_pos c1, if_pos this]
  rw [if_neg c1]
  by_cases c2 : atL t1 = fromL t1
  · rw [if_pos c2, if_pos c2]
  rw [if_neg c2, if_neg c2, getD_amp t1 t2 _ ha]
  by_cases c3 : atL t1 < t1.length
  · rw [if_pos c3]
    by_cases c4 : t1.getD (atL t1) 0 = 59
    · rw [if_pos (show atL t1 < t1.length + (t2.length + 1) ∧ t1.getD (atL t1) 0 = 59 from ⟨by omega, c4⟩), if_pos (show atL t1 < t1.length ∧ t1.getD (atL t1) 0 = 59 from ⟨c3, c4⟩)]
    · rw [if_neg (show ¬ (atL t1 < t1.length + (t2.length + 1) ∧ t1.getD (atL t1) 0 = 59) from fun h => c4 h.2), if_neg (show ¬ (atL t1 < t1.length ∧ t1.getD (atL t1) 0 = 59) from fun h => c4 h.2)]
  · rw [if_neg c3, if_neg (show ¬ (atL t1 < t1.length + (t2.length + 1) ∧ (38 : UInt8) = 59) from fun h => absurd h.2 (by decide)), if_neg (show ¬ (atL t1 < t1.length ∧ t1.getD (atL t1) 0 = 59) from fun h => c3 h.1)]
theorem nextL_amp (t1 t2 : List UInt8) (attr : Bool) : nextL (t1 ++ 38 :: t2) attr true = nextL t1 attr true := by
  unfold nextL
  by_cases h0 : t1 = []
  · subst h0
    have e38 : ([] ++ 38 :: t2 : List UInt8).getD 0 0 = 38 := rfl
    rw [e38, if_neg (show ¬ (([] ++ 38 :: t2 : List UInt8) ≠ [] ∧ (38 : UInt8) = 35) from fun h => absurd h.2 (by decide)), if_neg (show ¬ (([] : List UInt8) ≠ [] ∧ _) from fun h => h.1 rfl)]
    exact namedL_amp [] t2 attr
  · have hl0 : 0 < t1.length := List.length_pos_iff.2 h0
    rw [getD_app t1 _ 0 hl0]
    by_cases c : t1.getD 0 0 = 35
    · rw [if_pos (show t1 ++ 38 :: t2 ≠ [] ∧ t1.getD 0 0 = 35 from ⟨by simp, c⟩), if_pos (show t1 ≠ [] ∧ t1.getD 0 0 = 35 from ⟨h0, c⟩)]
      exact numericL_amp t1 t2 h0
    · rw [if_neg (show ¬ (t1 ++ 38 :: t2 ≠ [] ∧ t1.getD 0 0 = 35) from fun h => c h.2), if_neg (show ¬ (t1 ≠ [] ∧ t1.getD 0 0 = 35) from fun h => c h.2)]
      exact namedL_amp t1 t2 attr
theorem dgL_amp (attr : Bool) (t2 : List UInt8) : ∀ (n : Nat) (t1 : List UInt8), t1.length ≤ n → dgL id attr (t1 ++ 38 :: t2) = dgL id attr t1 ++ dgL id attr (38 :: t2)
  | 0, t1, h => by
    obtain rfl : t1 = [] := List.eq_nil_of_length_eq_zero (by omega)
    rfl
  | n + 1, [], h => rfl
  | n + 1, b :: t, h => by
    rw [List.length_cons] at h
    have hz := nextL_size t attr true
    rw [List.cons_append, dgL_cons, dgL_cons id attr b t, nextL_amp t t2 attr, dgL_amp attr t2 n t (by omega), List.drop_append_of_le_length (by omega),
      dgL_amp attr t2 n (t.drop (nextL t attr true).2.1.toNat) (by rw [List.length_drop]; omega)]
    split
    · split
      · rfl
      · rw [List.append_assoc]
    · rfl
/-- what is told of a text is the decoding of the part that is told of -/
theorem told_dg (attr : Bool) (X : List UInt8) : dgL id attr (X.take (X.length - (decL attr false X).2.length)) = (decL attr false X).1 := by
  obtain ⟨j, h1, h2, h3⟩ := decL_rest attr false _ X (Nat.le_refl _)
  have hlen : (decL attr false X).2.length = X.length - j := by rw [h2, List.length_drop]
  have e : X.length - (decL attr false X).2.length = j := by omega
  rw [e]
  have ha := dgL_app attr X []
  rw [List.append_nil, List.append_nil, h2] at ha
  by_cases c : j = X.length
  · subst c
    rw [List.drop_length, dgL_nil, List.append_nil] at ha
    rw [List.take_length, ha]
  · have hlt : j < X.length := by omega
    have hj : X.getD j 0 = 38 := h3.resolve_left c
    have hd := drop_cons_at X j hlt
    rw [hj] at hd
    have hX : X = X.take j ++ 38 :: X.drop (j + 1) := by rw [← hd, List.take_append_drop]
    have hm := dgL_amp attr (X.drop (j + 1)) _ (X.take j) (Nat.le_refl _)
    rw [← hX, ← hd] at hm
    rw [hm] at ha
    exact List.append_cancel_right ha
/-- the part that is told of is valid -/
theorem valid_take_go : ∀ (rs : List Int), goodsR rs → ∀ i, (i = (text rs).length ∨ ((text rs).getD i 0).toNat < 128) → valid ((text rs).take i) = true
  | [], _, i, _ => by simp [text_nil, valid_nil]
  | r :: t, hg, i, hb => by
    have hgt : goodsR t := fun x hx => hg x (List.mem_cons_of_mem _ hx)
    rw [text_cons] at hb ⊢
    by_cases c0 : i = 0
    · subst c0
      rfl
    by_cases c : i < (Lib.encodeRune r).length
    · exfalso
      rcases hb with hb | hb
      · rw [List.length_append] at hb
        omega
      · have := encode_tail_high r i (by omega) c
        rw [List.getD_eq_getElem?_getD, List.getElem?_append_left c, ← List.getD_eq_getElem?_getD] at hb
        omega
    · rw [List.take_append, List.take_of_length_le (by omega), valid_encode r (hg r List.mem_cons_self)]
      refine valid_take_go t hgt _ ?_
      rcases hb with hb | hb
      · rw [List.length_append] at hb
        exact .inl (by omega)
      · refine .inr ?_
        rw [List.getD_eq_getElem?_getD, List.getElem?_append_right (by omega), ← List.getD_eq_getElem?_getD] at hb
        exact hb
theorem told_valid (attr : Bool) (X : List UInt8) (hv : valid X = true) : valid (X.take (X.length - (decL attr false X).2.length)) = true := by
  obtain ⟨j, h1, h2, h3⟩ := decL_rest attr false _ X (Nat.le_refl _)
  have hlen : (decL attr false X).2.length = X.length - j := by rw [h2, List.length_drop]
  have e : X.length - (decL attr false X).2.length = j := by omega
  have hm := mendL_of_valid X hv
  unfold mendL at hm
  have := valid_take_go (runes X) (runes_good _ X (Nat.le_refl _)) j
  rw [hm] at this
  rw [e]
  refine this ?_
  rcases h3 with h3 | h3
  · exact .inl h3
  · exact .inr (by rw [h3]; decide)

/-! ### Held -/
theorem held_l0 (s : ByteArray) (attr : Bool) (hs : s.size ≤ 4294967296) : ∀ (d i k : Nat), s.size - i ≤ d → i ≤ s.size → d + 2 * s.size + 630 ≤ k →
    sieveref06_Held.l0 k s attr (i : Int) = some ((s.size - (decL attr false (s.data.toList.drop i)).2.length : Nat) : Int)
  | 0, i, k, hd, hi, hk => by
    obtain ⟨k, rfl⟩ : ∃ j, k = j + 1 := ⟨k - 1, by omega⟩
    obtain rfl : i = s.size := by omega
    rw [sieveref06_Held.l0, if_neg (by omega), List.drop_eq_nil_of_le (Nat.le_of_eq (size_list s)), decL_nil]
    rfl
  | d + 1, i, k, hd, hi, hk => by
    obtain ⟨k, rfl⟩ : ∃ j, k = j + 1 := ⟨k - 1, by omega⟩
    have hl := size_list s
    by_cases hlt : i < s.size
    · have HW := Aside0.mk (show wrap64 ((i : Int) + 1) = ((i + 1 : Nat) : Int) by unfold wrap64; omega)
      have hq : ((s.data.toList.getD i 0).toNat : Int) = 38 ↔ s.data.toList.getD i 0 = 38 := u8_eq _ 38 (by decide)
      rw [sieveref06_Held.l0, if_pos (by omega), if_pos (by omega), bt_l s i hlt, HW.out, drop_cons_at _ i (by omega), decL_cons]
      by_cases c : s.data.toList.getD i 0 = 38
      · have hxe : (s.extract (i + 1) s.size).data.toList = s.data.toList.drop (i + 1) := by
          rw [extract_list]
          refine List.take_of_length_le ?_
          rw [List.length_drop]
          omega
        have hze : (s.extract (i + 1) s.size).size ≤ s.size := by simp
        rw [if_pos (hq.2 c), if_pos c, if_pos (by omega), if_pos (by omega), Int.toNat_natCast, rsure_f k _ attr (by omega) (by omega), Option.bind_some, rwhole_f k _ attr (by omega) (by omega), Option.bind_some, hxe]
        unfold sureL
        by_cases hsu : (nextL (s.data.toList.drop (i + 1)) attr false).2.2 = true
        · have hn := nextL_is _ _ hsu
          have hz := nextL_size (s.data.toList.drop (i + 1)) attr true
          rw [List.length_drop, hl] at hz
          rw [if_pos hsu, if_pos hsu, hn]
          generalize nextL (s.data.toList.drop (i + 1)) attr true = q at hz
          obtain ⟨q1, q2, q3⟩ := q
          simp only at hz ⊢
          obtain ⟨m, rfl⟩ : ∃ m : Nat, q2 = m := ⟨q2.toNat, by omega⟩
          have HW1 := Aside0.mk (show wrap64 (1 + (m : Int)) = 1 + (m : Int) by unfold wrap64; omega)
          have HW2 := Aside0.mk (show wrap64 ((i : Int) + (1 + (m : Int))) = ((i + 1 + m : Nat) : Int) by unfold wrap64; omega)
          rw [HW1.out, HW2.out, held_l0 s attr hs d (i + 1 + m) k (by omega) (by omega) (by omega), Int.toNat_natCast, List.drop_drop]
        · rw [if_neg hsu, if_neg hsu]
          rw [List.length_cons, List.length_drop, hl]
          congr 2
          omega
      · rw [if_neg (fun h => c (hq.1 h)), if_neg c, held_l0 s attr hs d (i + 1) k (by omega) (by omega) (by omega)]
    · obtain rfl : i = s.size := by omega
      rw [sieveref06_Held.l0, if_neg (by omega), List.drop_eq_nil_of_le (Nat.le_of_eq (size_list s)), decL_nil]
      rfl
theorem Held_f (s : ByteArray) (attr : Bool) (hs : s.size ≤ 4294967296) (k : Nat) (hk : 3 * s.size + 630 ≤ k) : sieveref06_Held.f k s attr = some ((s.size - (decL attr false s.data.toList).2.length : Nat) : Int) := by
  have := held_l0 s attr hs s.size 0 k (by omega) (by omega) (by omega)
  rw [List.drop_zero] at this
  exact this
end Go.Proofs.Ytilpbfbnnmclhaa.P
end
section
/-
  The document's Decode in plain Lean: piece by piece it is the same decoding.
-/
namespace Go.Proofs.Ytilpbfbnnmclhaa.P
open Go.RowKit Go.Proofs.YtilpbfbnnmclhaaW.PrintWords Go.Proofs.YtilpbfbnnmclhaaW.PrintLast Go.Proofs.YtilpbfbnnmclhaaW.PrintMore
set_option linter.unusedVariables false
set_option linter.unusedSimpArgs false

abbrev Part := S40
def catP (ps : List Part) : List UInt8 := ps.flatMap fun p => p.f2.data.toList
theorem catP_snoc (ps : List Part) (p : Part) : catP (ps ++ [p]) = catP ps ++ p.f2.data.toList := by simp [catP]
set_option maxHeartbeats 1000000 in
theorem parts_l0 (s : ByteArray) (attr : Bool) (hs : s.size ≤ 4294967296) : ∀ (d i k a : Nat) (out : List Part), s.size - i ≤ d → i ≤ s.size → a ≤ i → out.length ≤ 2 * i → d + 2 * s.size + 630 ≤ k →
    ∃ ps, sieveref06_Parts.l0 k s attr out (a : Int) (i : Int) = some ps ∧ catP ps = catP out ++ ((s.data.toList.drop a).take (i - a) ++ dgL id attr (s.data.toList.drop i)) ∧ ps.length ≤ 2 * s.size + 1
  | 0, i, k, a, out, hd, hi, ha, ho, hk => by
    obtain ⟨k, rfl⟩ : ∃ j, k = j + 1 := ⟨k - 1, by omega⟩
    obtain rfl : i = s.size := by omega
    have hl := size_list s
    rw [sieveref06_Parts.l0, if_neg (by omega), List.drop_eq_nil_of_le (Nat.le_of_eq hl), dgL_nil, List.append_nil]
    by_cases c : a < s.size
    · rw [if_pos (by omega), if_pos (by omega), if_pos (by omega), if_pos (by omega), Int.toNat_natCast]
      exact ⟨_, rfl, by rw [catP_snoc]; simp only; rw [extract_list], by rw [List.length_append, List.length_singleton]; omega⟩
    · rw [if_neg (by omega)]
      exact ⟨_, rfl, by rw [List.drop_eq_nil_of_le (by omega)]; simp, by omega⟩
  | d + 1, i, k, a, out, hd, hi, ha, ho, hk => by
    obtain ⟨k, rfl⟩ : ∃ j, k = j + 1 := ⟨k - 1, by omega⟩
    have hl := size_list s
    by_cases hlt : i < s.size
    · have HW := Aside0.mk (show wrap64 ((i : Int) + 1) = ((i + 1 : Nat) : Int) by unfold wrap64; omega)
      have hq : ((s.data.toList.getD i 0).toNat : Int) = 38 ↔ s.data.toList.getD i 0 = 38 := u8_eq _ 38 (by decide)
      have hdr := drop_cons_at s.data.toList i (by omega)
      have htg := take_grow s.data.toList a i ha (by omega)
      rw [sieveref06_Parts.l0, if_pos (by omega), if_pos (by omega), bt_l s i hlt, HW.out, hdr, dgL_cons]
      by_cases c : s.data.toList.getD i 0 = 38
      · have hxe : (s.extract (i + 1) s.size).data.toList = s.data.toList.drop (i + 1) := by
          rw [extract_list]
          refine List.take_of_length_le ?_
          rw [List.length_drop]
          omega
        have hze : (s.extract (i + 1) s.size).size ≤ s.size := by simp
        have hz := nextL_size (s.data.toList.drop (i + 1)) attr true
        rw [List.length_drop, hl] at hz
        rw [if_pos (hq.2 c), if_pos c, if_pos (by omega), if_pos (by omega), Int.toNat_natCast, rwhole_f k _ attr (by omega) (by omega), Option.bind_some, hxe]
        generalize nextL (s.data.toList.drop (i + 1)) attr true = q at hz
        obtain ⟨q1, q2, q3⟩ := q
        simp only at hz ⊢
        obtain ⟨m, rfl⟩ : ∃ m : Nat, q2 = m := ⟨q2.toNat, by omega⟩
        by_cases hm : m = 0
        · obtain ⟨ps, h1, h2, h3⟩ := parts_l0 s attr hs d (i + 1) k a out (by omega) (by omega) (by omega) (by omega) (by omega)
          rw [if_neg (by omega), if_pos (by omega), h1]
          refine ⟨ps, rfl, ?_, h3⟩
          rw [h2, htg, c, List.append_assoc]
          rfl
        · have HW1 := Aside0.mk (show wrap64 (1 + (m : Int)) = 1 + (m : Int) by unfold wrap64; omega)
          have HW2 := Aside0.mk (show wrap64 ((i : Int) + (1 + (m : Int))) = ((i + 1 + m : Nat) : Int) by unfold wrap64; omega)
          have HW3 := Aside0.mk (show wrap64 (((i + 1 : Nat) : Int) + (m : Int)) = ((i + 1 + m : Nat) : Int) by unfold wrap64; omega)
          rw [if_pos (by omega), if_neg (show ¬ (m : Int) = 0 by omega), HW1.out, HW2.out, HW3.out, Int.toNat_natCast, Int.toNat_natCast, Int.toNat_natCast]
          by_cases ca : a < i
          · have ih := parts_l0 s attr hs d (i + 1 + m) k (i + 1 + m) ((out ++ [(⟨(a : Int), s.extract a i, s.extract a i, false⟩ : Part)]) ++ [(⟨(i : Int), s.extract i (i + 1 + m), q1, true⟩ : Part)]) (by omega) (by omega) (by omega) (by simp only [List.length_append, List.length_singleton]; omega) (by omega)
            obtain ⟨ps, h1, h2, h3⟩ := ih
            rw [if_pos (by omega), if_pos (by omega), if_pos (by omega), if_pos (by omega), if_pos (by omega), Option.bind_some, if_pos (by omega), if_pos (by omega), if_pos (by rw [List.length_append, List.length_singleton]; omega), h1]
            refine ⟨ps, rfl, ?_, h3⟩
            rw [h2, catP_snoc, catP_snoc, Nat.sub_self, List.take_zero, List.nil_append, extract_list, List.drop_drop]
            simp only [List.append_assoc, id, Int.toNat_natCast]
          · obtain rfl : a = i := by omega
            have ih := parts_l0 s attr hs d (a + 1 + m) k (a + 1 + m) (out ++ [(⟨(a : Int), s.extract a (a + 1 + m), q1, true⟩ : Part)]) (by omega) (by omega) (by omega) (by simp only [List.length_append, List.length_singleton]; omega) (by omega)
            obtain ⟨ps, h1, h2, h3⟩ := ih
            rw [if_neg (by omega), if_pos (by omega), if_pos (by omega), if_pos (by omega), h1]
            refine ⟨ps, rfl, ?_, h3⟩
            rw [h2, catP_snoc, Nat.sub_self, List.take_zero, List.nil_append, Nat.sub_self, List.take_zero, List.nil_append, List.drop_drop, List.append_assoc]
            rfl
      · obtain ⟨ps, h1, h2, h3⟩ := parts_l0 s attr hs d (i + 1) k a out (by omega) (by omega) (by omega) (by omega) (by omega)
        rw [if_neg (fun h => c (hq.1 h)), if_neg c, h1]
        refine ⟨ps, rfl, ?_, h3⟩
        rw [h2, htg, List.append_assoc]
        rfl
    · exact parts_l0 s attr hs 0 i (k + 1) a out (by omega) hi ha ho (by omega)
theorem rdecode_l0 (ps : List Part) (hp : ps.length ≤ 17179869184) (hc : (catP ps).length ≤ 1099511627776) : ∀ (d i k : Nat) (x : ByteArray), ps.length - i = d → i ≤ ps.length → x.data.toList ++ catP (ps.drop i) = catP ps → d + 1 ≤ k →
    ∃ r : ByteArray, sieveref06_Decode.l0 k x ps (ps.length : Int) (i : Int) = some r ∧ r.data.toList = catP ps
  | 0, i, k, x, hd, hi, hx, hk => by
    obtain ⟨k, rfl⟩ : ∃ j, k = j + 1 := ⟨k - 1, by omega⟩
    obtain rfl : i = ps.length := by omega
    rw [List.drop_length] at hx
    rw [sieveref06_Decode.l0, if_neg (by omega)]
    exact ⟨x, rfl, by rw [← hx]; simp [catP]⟩
  | d + 1, i, k, x, hd, hi, hx, hk => by
    obtain ⟨k, rfl⟩ : ∃ j, k = j + 1 := ⟨k - 1, by omega⟩
    have hlt : i < ps.length := by omega
    have HW := Aside0.mk (show wrap64 ((i : Int) + 1) = ((i + 1 : Nat) : Int) by unfold wrap64; omega)
    have er : rd_T40 ps (i : Int) = ps[i] := by
      unfold rd_T40
      rw [Int.toNat_natCast, List.getD_eq_getElem?_getD, List.getElem?_eq_getElem hlt]
      rfl
    rw [List.drop_eq_getElem_cons hlt] at hx
    have hcc : catP (ps[i] :: ps.drop (i + 1)) = ps[i].f2.data.toList ++ catP (ps.drop (i + 1)) := List.flatMap_cons
    rw [hcc] at hx
    have hlen := congrArg List.length hx
    rw [List.length_append, List.length_append, size_list, size_list] at hlen
    rw [sieveref06_Decode.l0, if_pos (by omega), if_pos (by omega), if_pos (by omega), er, if_pos (by omega), HW.out]
    refine rdecode_l0 ps hp hc d (i + 1) k _ (by omega) (by omega) ?_ (by omega)
    rw [ByteArray.data_append, Array.toList_append, List.append_assoc]
    exact hx
theorem rDecode_f (s : ByteArray) (attr : Bool) (hs : s.size ≤ 268435456) : sieveref06_Decode.f 100000000000 s attr = some ⟨(dgL id attr (mendL s.data.toList)).toArray⟩ := by
  have hl := size_list s
  have hm4 := mendL_len4 s.data.toList
  have hmz : (⟨(mendL s.data.toList).toArray⟩ : ByteArray).size = (mendL s.data.toList).length := rfl
  have hml : (⟨(mendL s.data.toList).toArray⟩ : ByteArray).data.toList = mendL s.data.toList := rfl
  obtain ⟨ps, h1, h2, h3⟩ := parts_l0 (⟨(mendL s.data.toList).toArray⟩ : ByteArray) attr (by omega) (⟨(mendL s.data.toList).toArray⟩ : ByteArray).size 0 100000000000 0 [] (by omega) (by omega) (Nat.le_refl _) (Nat.zero_le _) (by omega)
  have hc : catP ps = dgL id attr (mendL s.data.toList) := by
    rw [h2, Nat.sub_self, List.take_zero, List.nil_append, List.drop_zero, hml]
    rfl
  have h8 := dgL_len attr _ (mendL s.data.toList) (Nat.le_refl _)
  obtain ⟨r, h4, h5⟩ := rdecode_l0 ps (by omega) (by rw [hc]; omega) ps.length 0 100000000000 ⟨#[]⟩ (by omega) (by omega) rfl (by omega)
  unfold sieveref06_Decode.f sieveref01_Mend.f sieveref06_Parts.f
  rw [if_pos (by omega), Option.bind_some]
  rw [show sieveref06_Parts.l0 100000000000 (⟨(mendL s.data.toList).toArray⟩ : ByteArray) attr ([] : List Part) 0 0 = some ps from h1, Option.bind_some]
  refine (show sieveref06_Decode.l0 100000000000 (⟨#[]⟩ : ByteArray) ps (ps.length : Int) 0 = some r from h4).trans ?_
  rw [hc] at h5
  congr 1
  rw [← h5]
end Go.Proofs.Ytilpbfbnnmclhaa.P
end
section
/-
  sievelaw06.CharrefPieces: texts in pieces: each answer is what is sure then, and how much is held.
-/
namespace Go.Proofs.Ytilpbfbnnmclhaa.P
open Go.RowKit Go.Shelf Go.Proofs.YtilpbfbnnmclhaaW.PrintWords Go.Proofs.YtilpbfbnnmclhaaW.PrintLast Go.Proofs.YtilpbfbnnmclhaaW.PrintMore
set_option linter.unusedVariables false
set_option linter.unusedSimpArgs false

/-- all so far, what is held of it, and how much has been told -/
def PcInv (attr : Bool) (a : ByteArray) (rs : List Int) (told : Nat) : Prop :=
  goodsR rs ∧ valid a.data.toList = true ∧ told + (text rs).length = a.size ∧ a.data.toList.drop told = text rs ∧ (decL attr false a.data.toList).2 = text rs
theorem PcInv.start (attr : Bool) : PcInv attr ⟨#[]⟩ [] 0 := ⟨(fun r h => by cases h), rfl, rfl, rfl, rfl⟩
theorem PcInv.step {attr : Bool} {a : ByteArray} {rs : List Int} {told : Nat} (h : PcInv attr a rs told) (s ms tO : ByteArray) (rs2 : List Int) (hms : ms = ⟨(mendL s.data.toList).toArray⟩)
    (hto : tO = ⟨(decL attr false (text rs ++ mendL s.data.toList)).1.toArray⟩) (hrs : rs2 = runes (decL attr false (text rs ++ mendL s.data.toList)).2) :
    ∃ at2, PcInv attr (a ++ ms) rs2 at2 ∧ told ≤ at2 ∧ at2 ≤ (a ++ ms).size ∧ (a ++ ms).size - (decL attr false (a ++ ms).data.toList).2.length = at2 ∧
      (⟨(dgL id attr (mendL ((a ++ ms).extract told at2).data.toList)).toArray⟩ : ByteArray) = tO := by
  subst hms hto hrs
  obtain ⟨h1, h2, h3, h4, h5⟩ := h
  have hv : valid (text rs ++ mendL s.data.toList) = true := valid_append _ _ _ (Nat.le_refl _) (valid_text rs h1) (mendL_valid _)
  have hr := decL_valid attr false _ hv
  have ht : text (runes (decL attr false (text rs ++ mendL s.data.toList)).2) = (decL attr false (text rs ++ mendL s.data.toList)).2 := mendL_of_valid _ hr
  have hal : (a ++ ⟨(mendL s.data.toList).toArray⟩ : ByteArray).data.toList = a.data.toList ++ mendL s.data.toList := by rw [ByteArray.data_append, Array.toList_append]
  have hasz : (a ++ ⟨(mendL s.data.toList).toArray⟩ : ByteArray).size = a.size + (mendL s.data.toList).length := by rw [ByteArray.size_append]; rfl
  have hdec : (decL attr false (a.data.toList ++ mendL s.data.toList)).2 = (decL attr false (text rs ++ mendL s.data.toList)).2 := by
    rw [decL_app attr false _ _ a.data.toList (Nat.le_refl _), h5]
  have hdrop : (a.data.toList ++ mendL s.data.toList).drop told = text rs ++ mendL s.data.toList := by
    rw [List.drop_append_of_le_length (by rw [size_list]; omega), h4]
  have hXl : (text rs ++ mendL s.data.toList).length = (text rs).length + (mendL s.data.toList).length := List.length_append
  obtain ⟨j, j1, j2, j3⟩ := decL_rest attr false _ (text rs ++ mendL s.data.toList) (Nat.le_refl _)
  have hrl : (decL attr false (text rs ++ mendL s.data.toList)).2.length = (text rs ++ mendL s.data.toList).length - j := by rw [j2, List.length_drop]
  refine ⟨told + j, ⟨runes_good _ _ (Nat.le_refl _), ?_, ?_, ?_, ?_⟩, by omega, by rw [hasz]; omega, ?_, ?_⟩
  · rw [hal]
    exact valid_append _ _ _ (Nat.le_refl _) h2 (mendL_valid _)
  · rw [ht, hasz, hrl]
    omega
  · rw [hal, ht, ← List.drop_drop, hdrop]
    exact j2.symm
  · rw [hal, ht, hdec]
  · rw [hal, hasz, hdec, hrl]
    omega
  · have hx : ((a ++ ⟨(mendL s.data.toList).toArray⟩ : ByteArray).extract told (told + j)).data.toList = (text rs ++ mendL s.data.toList).take ((text rs ++ mendL s.data.toList).length - (decL attr false (text rs ++ mendL s.data.toList)).2.length) := by
      rw [extract_list, hal, hdrop, Nat.add_sub_cancel_left, hrl]
      congr 1
      omega
    rw [hx, mendL_of_valid _ (told_valid attr _ hv), told_dg]
theorem PcInv.fin {attr : Bool} {a : ByteArray} {rs : List Int} {told : Nat} (h : PcInv attr a rs told) :
    (⟨(dgL id attr (mendL (a.extract told a.size).data.toList)).toArray⟩ : ByteArray) = ⟨(dgL id attr (text rs)).toArray⟩ := by
  obtain ⟨h1, h2, h3, h4, h5⟩ := h
  have hx : (a.extract told a.size).data.toList = text rs := by
    rw [extract_list, h4]
    exact List.take_of_length_le (by omega)
  rw [hx, mendL_of_valid _ (valid_text rs h1)]
theorem text_ge : ∀ rs : List Int, rs.length ≤ (text rs).length
  | [] => Nat.le_refl _
  | r :: t => by
    rw [text_cons, List.length_append, List.length_cons]
    have : 1 ≤ (Lib.encodeRune r).length := List.length_pos_iff.2 (encode_ne r)
    have := text_ge t
    omega

set_option maxRecDepth 100000 in
set_option maxHeartbeats 8000000 in
theorem CharrefPieces_walk (A : Option Addr) (c : Nat) (l : List ByteArray) (attr : Bool) (more : ByteArray) (hmore : more.size ≤ 1048576) (hsum : sumL l ≤ 1048576) (hlen : l.length ≤ 1048576) (w : World) (hl : ReadsOf Value.string (⟨#[]⟩ : ByteArray) w A l.length l) :
    Calls Try.prog 9 #[.slice A l.length c, .bool attr, .string more] w fun e w' => e = .returned (.bool true) ∧ Below w.heap.size w w' := by
  have HL := Aside0.mk hl
  have hlen0 : l.length ≤ 9223372036854775807 := by omega
  clear hl
  have HN0 := Aside0.mk (fun W => sievelaw06_num.calls 0 0 W rfl)
  have HN3 := Aside0.mk (fun W => sievelaw06_num.calls 3 3 W rfl)
  go_enter Try.func9, Try.ntmps9
  go_wp2_with (go_at_call 22; refine (new_calls w.heap.size attr w (Nat.le_refl _)).mono ?_; rintro e w1 ⟨rfl, hd1, hb1⟩; have HD1 := Aside0.mk hd1; have HB1 := Aside0.mk hb1; clear hd1 hb1)
  go_loopw [8, 9, 27] (fun v8 v9 v27 wr => ∃ (i told : Nat) (a : ByteArray) (rs : List Int), v8 = .string a ∧ v9 = .int .i64 (told : Nat) ∧ v27 = .int .i64 (i : Nat) ∧ i ≤ l.length ∧ Aside0 (PcInv attr a rs told) ∧ Aside0 (a.size ≤ 4 * sumL (l.take i)) ∧ Aside0 (DecAt w.heap.size w.heap.size attr rs false wr) ∧ Aside0 (Below w.heap.size w wr)) (fun _ _ v27 _ => l.length - (intOf v27).toNat)
  case atStart => exact ⟨0, 0, ⟨#[]⟩, [], rfl, rfl, rfl, Nat.zero_le _, ⟨PcInv.start attr⟩, ⟨Nat.zero_le _⟩, HD1, HB1⟩
  case round =>
    obtain ⟨i, told, a, rs, rfl, rfl, rfl, hi, HC, HA, HDx, HBx⟩ := hrel
    have hbnd : a.size ≤ 4194304 ∧ rs.length ≤ 4194304 ∧ told ≤ a.size := by
      have hsl := sumL_le l i
      have hcz := HC.out.2.2.1
      have hrl := text_ge rs
      have haz := HA.out
      refine ⟨by omega, by omega, by omega⟩
    obtain ⟨bA, bR, bT⟩ := hbnd
    by_cases hlt : i < l.length
    · have hrd : Kd.C (Kd.scalar Value.string (fun _ => rfl)) wr A l.length l := Kd.C_below (Kd.C_of_reads (h1 := fun _ => rfl) HL.out) HBx.out
      have hro : ReadsOf Value.string (⟨#[]⟩ : ByteArray) wr A l.length l := Kd.reads_of_C hrd
      obtain ⟨ad, rfl, hcell⟩ := hro.2.2 (by omega)
      have hci := hcell i hlt
      have hgi : l.getD i (⟨#[]⟩ : ByteArray) = l[i] := by rw [List.getD_eq_getElem?_getD, List.getElem?_eq_getElem hlt]; rfl
      rw [hgi] at hci
      have hsi : l[i].size ≤ 1048576 := by
        have h1 := sumL_take l i hlt
        have h2 := sumL_le l (i + 1)
        omega
      obtain ⟨at2, hst, hat1, hat2, hheld, hdecoded⟩ := HC.out.step l[i] _ _ _ rfl rfl rfl
      have ha2 : (a ++ ⟨(mendL l[i].data.toList).toArray⟩ : ByteArray).size ≤ 4 * sumL (l.take (i + 1)) := by
        rw [ByteArray.size_append, sumL_take l i hlt]
        have h1 := mendL_len4 l[i].data.toList
        rw [size_list] at h1
        have h2 := HA.out
        have h3 : (⟨(mendL l[i].data.toList).toArray⟩ : ByteArray).size = (mendL l[i].data.toList).length := rfl
        omega
      have hbig : (a ++ ⟨(mendL l[i].data.toList).toArray⟩ : ByteArray).size ≤ 4194304 := by
        have h2 := sumL_le l (i + 1)
        omega
      have HM := Aside0.mk (fun W => sieveref01_Mend.calls l[i] ⟨(mendL l[i].data.toList).toArray⟩ W (by unfold sieveref01_Mend.f; rw [if_pos (by omega)]))
      have HF := Aside0.mk (feed_calls w.heap.size w.heap.size attr rs l[i] wr HDx.out HBx.out.size HC.out.1 (by omega))
      have hl1 : ((i : Int) < (l.length : Int)) = True := eq_true (by omega)
      have hl2 : ((0 : Int) ≤ (i : Int)) = True := eq_true (by omega)
      have hw1 : IntKind.i64.wrap ((i : Int) + 1) = (i : Int) + 1 := IntWalk.i64_in _ (by omega)
      generalize hms : (⟨(mendL l[i].data.toList).toArray⟩ : ByteArray) = ms at hst hat2 hheld hdecoded ha2 hbig HM
      generalize hto : (⟨(decL attr false (text rs ++ mendL l[i].data.toList)).1.toArray⟩ : ByteArray) = tO at hdecoded HF
      generalize hrs2 : runes (decL attr false (text rs ++ mendL l[i].data.toList)).2 = rs2 at hst HF
      have hrs2l : rs2.length ≤ 4194304 := by
        have h1 := hst.2.2.1
        have h2 := text_ge rs2
        omega
      have HH := Aside0.mk (fun W => sieveref06_Held.calls 100000000000 (a ++ ms) attr (at2 : Nat) W (by rw [Held_f (a ++ ms) attr (by omega) 100000000000 (by omega), hheld]))
      have HDE := Aside0.mk (fun W => sieveref06_Decode.calls 100000000000 ((a ++ ms).extract told at2) attr tO W (by rw [rDecode_f _ attr (by simp; omega), hdecoded]))
      have haz2 : a.size + ms.size ≤ 9223372036854775807 := by rw [ByteArray.size_append] at hbig; omega
      have hsum2 := hst.2.2.1
      have hwh : IntKind.i64.wrap (((a ++ ms).size : Int) - (at2 : Int)) = (((text rs2).length : Nat) : Int) := by rw [IntWalk.i64_in _ (by omega)]; omega
      have s1 : ((0 : Int) ≤ (told : Int)) = True := eq_true (by omega)
      have s2 : ((told : Int) ≤ (at2 : Int)) = True := eq_true (by omega)
      have s3 : ((at2 : Int) ≤ ((a ++ ms).size : Int)) = True := eq_true (by omega)
      have s4 : ((at2 : Int) ≤ (a.size : Int) + (ms.size : Int)) = True := eq_true (by rw [ByteArray.size_append] at hat2; omega)
      have hwh2 : IntKind.i64.wrap ((a.size : Int) + (ms.size : Int) - (at2 : Int)) = (((text rs2).length : Nat) : Int) := by rw [ByteArray.size_append] at hsum2; rw [IntWalk.i64_in _ (by omega)]; omega
      have HST := Aside0.mk hst
      have HA2 := Aside0.mk ha2
      have HRS2 := Aside0.mk hrs2l
      clear hms hto hrs2 hro hrd hcell hgi hst hheld hdecoded ha2 hsum2 hat1 hat2 hbig hrs2l
      generalize l[i] = si at *
      go_wp2_with (first
        | (go_at_call 23; refine HF.out.mono ?_; rintro e w2 ⟨rfl, hd2, hb2⟩; have HD2 := Aside0.mk hd2; have HB2 := Aside0.mk (HBx.out.trans hb2); clear hd2 hb2)
        | (go_at_call 14; refine (HM.out _).mono ?_; rintro e w4 ⟨rfl, hb4⟩; have HD4 := Aside0.mk (HD2.out.below hb4); have HB4 := Aside0.mk (below_step HB2.out hb4); clear hb4)
        | (go_at_call 26; refine (HH.out _).mono ?_; rintro e w5 ⟨rfl, hb5⟩; have HD5 := Aside0.mk (HD4.out.below hb5); have HB5 := Aside0.mk (below_step HB4.out hb5); clear hb5)
        | (go_at_call 10; refine (HN0.out _).mono ?_; rintro e w3 ⟨rfl, ⟨nd, rfl⟩⟩)
        | (go_at_call 19; refine (HDE.out _).mono ?_; rintro e w6 ⟨rfl, hb6⟩; have HD6 := Aside0.mk ((HD5.out.below (pw_below_drewN (Below.refl _ w5) nd)).below hb6); have HB6 := Aside0.mk (below_step (pw_below_drewN HB5.out nd) hb6); clear hb6)
        | (go_at_call 25; refine (held_calls w.heap.size w.heap.size attr false rs2 w6 HD6.out (by have := HRS2.out; omega)).mono ?_; rintro e w7 ⟨rfl, hd7, hb7⟩; have HD7 := Aside0.mk hd7; have HB7 := Aside0.mk (HB6.out.trans hb7); clear hd7 hb7))
      exact ⟨⟨i + 1, at2, a ++ ms, rs2, rfl, rfl, rfl, by omega, HST, HA2, HD7, HB7⟩, by simp [intOf]; omega⟩
    · obtain rfl : i = l.length := by omega
      have hl1 : ((l.length : Int) < (l.length : Int)) = False := eq_false (by omega)
      have HE := Aside0.mk (end_calls w.heap.size w.heap.size attr rs wr HDx.out HBx.out.size HC.out.1 (by omega))
      have hfin := HC.out.fin
      have HDE := Aside0.mk (fun W => sieveref06_Decode.calls 100000000000 (a.extract told a.size) attr ⟨(dgL id attr (text rs)).toArray⟩ W (by rw [rDecode_f _ attr (by simp; omega), hfin]))
      generalize (⟨(dgL id attr (text rs)).toArray⟩ : ByteArray) = tE at HE HDE
      have s1 : ((0 : Int) ≤ (told : Int)) = True := eq_true (by omega)
      have s2 : ((told : Int) ≤ (a.size : Int)) = True := eq_true (by omega)
      clear hfin
      go_wp2_with (first
        | (go_at_call 24; ((with_reducible refine HE.out.mono ?_); rintro e w2 ⟨rfl, hd2, hb2⟩; have HD2 := Aside0.mk hd2; have HB2 := Aside0.mk (HBx.out.trans hb2); clear hd2 hb2))
        | (go_at_call 23; refine (feed_over w.heap.size w.heap.size attr [] more w2 HD2.out).mono ?_; rintro e w3 ⟨rfl, hd3, hb3⟩; have HD3 := Aside0.mk hd3; have HB3 := Aside0.mk (HB2.out.trans hb3); clear hd3 hb3)
        | (go_at_call 24; ((with_reducible refine (end_over w.heap.size w.heap.size attr [] w3 HD3.out).mono ?_); rintro e w4 ⟨rfl, hd4, hb4⟩; have HD4 := Aside0.mk hd4; have HB4 := Aside0.mk (HB3.out.trans hb4); clear hd4 hb4))
        | (go_at_call 10; ((with_reducible refine (HN0.out _).mono ?_); rintro e w5 ⟨rfl, ⟨nd, rfl⟩⟩))
        | (go_at_call 19; refine (HDE.out _).mono ?_; rintro e w6 ⟨rfl, hb6⟩; have HD6 := Aside0.mk ((HD4.out.below (pw_below_drewN (Below.refl _ w4) nd)).below hb6); have HB6 := Aside0.mk (below_step (pw_below_drewN HB4.out nd) hb6); clear hb6)
        | (go_at_call 10; ((with_reducible refine (HN3.out _).mono ?_); rintro e w7 ⟨rfl, ⟨nd7, rfl⟩⟩))
        | (go_at_call 25; refine (held_calls w.heap.size w.heap.size attr true [] _ (HD6.out.below (pw_below_drewN (Below.refl _ w6) _)) (by simp)).mono ?_; rintro e w8 ⟨rfl, hd8, hb8⟩; have HB8 := Aside0.mk ((pw_below_drewN HB6.out _).trans hb8); clear hd8 hb8)
        | (go_at_call 11; refine (sievelaw06_awake.calls 400 true _ cuts_awake).mono ?_; rintro e w9 ⟨rfl, hb9⟩; have HB9 := Aside0.mk (below_step HB8.out hb9); clear hb9))
      go_ret
      exact ⟨rfl, HB9.out⟩
end Go.Proofs.Ytilpbfbnnmclhaa.P
end
section
namespace Go.Proofs.Ytilpbfbnnmclhaa.charrefPieces
open Go.ChangeShapes Go.WideShapes Go.ChangeAt Go.RowKit Go.Proofs.YtilpbfbnnmclhaaW.PrintWords
open Go.ChangeMaps (open_string shut_string)
set_option linter.unusedVariables false
set_option linter.unusedSimpArgs false
theorem own : ownKnob Try.prog.godebug = none := by kernel_rfl
theorem laidOut : laidOutB Try.prog = true := by kernel_rfl
theorem short {H : Type} (d0 : DataW H) (d1 : DataW H) (s2 : ByteArray) (hk : Rows.uptoSmall H [d0, d1, DataW.lit (H := H) (.string s2.data.toList)] = true) : s2.size ≤ 1048576 ∧ Rows.uptoBulk d0 ≤ 1048576 := by
  have h : Rows.uptoBulkAll [d0, d1, DataW.lit (H := H) (.string s2.data.toList)] ≤ 1048576 := of_decide_eq_true hk
  simp only [Rows.uptoBulkAll, Rows.uptoBulk] at h
  have e2 : s2.data.toList.length = s2.size := by simp
  exact ⟨by omega, by omega⟩
set_option maxRecDepth 100000 in
theorem contract (H : Type) (enc : TypeId × Value → H) (W : World) (base : Nat) (args : Array Value) (ds gs : List (DataW H)) (before : List MemPlace)
    (hval : ∀ (j : Nat) t v, Try.f9.params[j]? = some t → args[j]? = some v → Value.okWide Try.prog W .any base t v)
    (hW : DataW.Whole enc Try.prog Try.f9.params.toList Rows.charrefPiecesSpec.vars false W args.toList ds gs before) (hk : Rows.uptoSmall H (ds ++ gs) = true) :
    Calls Try.prog 9 args W fun e W' => ∃ v, e = .returned v ∧ Rows.charrefPiecesSpec.post enc Try.prog Try.f9 false true false false W args v W' := by
  have hW' := hW
  obtain ⟨p, q, hA0, hV, rfl, hfz, hnd⟩ := hW
  have hA : DataW.TrodAll enc Try.prog W 0 (fun _ => true) true Try.f9.params.toList args.toList ds p := hA0
  rw [Try.params9] at hA hval
  obtain ⟨v0, vs0, d0, ds0, p0, q0, hargs, rfl, rfl, h0, r0⟩ := trodAll_cons hA
  obtain ⟨v1, vs1, d1, ds1, p1, q1, rfl, rfl, rfl, h1, r1⟩ := trodAll_cons r0
  obtain ⟨v2, vs2, d2, ds2, p2, q2, rfl, rfl, rfl, h2, r2⟩ := trodAll_cons r1
  obtain ⟨rfl, rfl, rfl⟩ := trodAll_nil r2
  obtain rfl : args = #[v0, v1, v2] := by cases args; simp_all
  obtain ⟨rfl, rfl⟩ := trodVars_none hV
  obtain ⟨a0, len0, cap0, rfl⟩ := okWide_slice Try.underlying45 (hval 0 45 v0 rfl rfl)
  have k0 := h0
  have lt0 : ∀ x ∈ p0, x.block < W.heap.size := by obtain ⟨m, hm⟩ := k0; exact DataW.trod_lt m _ _ _ hm
  obtain ⟨l0, hlen0, hrd0, hbk0⟩ : ∃ l : List ByteArray, len0 = l.length ∧ ReadsOf Value.string (⟨#[]⟩ : ByteArray) W a0 l.length l ∧ P.sumL l + l.length ≤ Rows.uptoBulk d0 := by
    obtain ⟨fuel, hf⟩ := h0
    simp only [Value.cells] at hf
    exact P.strs_open hf
  subst hlen0
  obtain ⟨a1, rfl, rfl, rfl⟩ := open_bool Try.underlying4 (hval 1 4 v1 rfl rfl) h1
  obtain ⟨a2, rfl, rfl, rfl, y2⟩ := open_string Try.underlying9 (hval 2 9 v2 rfl rfl) h2
  clear hA0
  simp only [List.append_nil] at hk
  have hs := short _ _ a2 hk
  refine (P.CharrefPieces_walk a0 cap0 l0 a1 a2 hs.1 (by have h1 := hbk0; have h2 := hs.2; omega) (by have h1 := hbk0; have h2 := hs.2; omega) W hrd0).mono fun e W' ⟨he, bel⟩ => ?_
  subst he
  exact ⟨_, rfl, _, _, _, [], _, [], hW', trodAll_mk1 (shut_bool Try.underlying4 _), (trodAll_cons_mk (Below.trod laidOut (by kernel_rfl) (of_decide_eq_true (by kernel_rfl)) k0 bel lt0) (trodAll_cons_mk (shut_bool Try.underlying4 _) (trodAll_cons_mk (shut_string Try.underlying9 y2) trodAll_mk0))), rfl, bel.frame _, fun h => by cases h⟩
set_option maxRecDepth 100000 in
theorem lifted (os : Os) (started : os.Started) (H : Type) (enc : TypeId × Value → H) (F : Stop.Interp) :
    ReturnsInHanded {} Try.checked os 9 .any ((Rows.OpenSpec.upto Rows.charrefPiecesSpec).pre6 enc Try.prog Try.f9 Rows.charrefPiecesUptoRow.domain false) (((Rows.OpenSpec.upto Rows.charrefPiecesSpec).at F).post enc Try.prog Try.f9 false true false false) := by
  refine returnsInHanded_of_cond (C := Try.checked) (s := Rows.OpenSpec.upto Rows.charrefPiecesSpec) (k := Rows.uptoSmall) rfl own started (by kernel_rfl) Try.func9
    (OpenSpec.witness (enc := enc) (C := Try.checked) (s := Rows.OpenSpec.upto Rows.charrefPiecesSpec) (k := Rows.uptoSmall) rfl false ⟨#[], #[.slice none 0 0, .bool false, .string ByteArray.empty], []⟩ 8 (by kernel_rfl) (by kernel_rfl) (by kernel_rfl)
      (x := ([.nil, .lit (.bool false), .lit (.string [])], [], [])) (by kernel_rfl) rfl (by kernel_rfl)) ?_
  intro W base args ds gs before hval hW _ hk _
  exact contract H enc W base args ds gs before hval hW hk
theorem proved : Rows.CharrefPiecesUptoSaid :=
  OpenClaim.holds_of_cond 9 Try.f9 rfl rfl rfl rfl rfl rfl rfl ⟨rfl, rfl, rfl, rfl, rfl⟩ rfl rfl rfl rfl rfl (by kernel_rfl) Try.func9 (by kernel_rfl)
    (of_decide_eq_true (by kernel_rfl)) (by unfold Func.isWrapper; first | (rw [if_pos (by decide +kernel)]; kernel_rfl) | (rw [if_neg (by decide +kernel)]; exact ⟨rfl, rfl⟩))
    (fun os started H enc _ F => lifted os started H enc F)
#print axioms proved
end Go.Proofs.Ytilpbfbnnmclhaa.charrefPieces
namespace Go.Proofs.Ytilpbfbnnmclhaa
/-- The row, under a short name, for the claim. -/
theorem charrefPieces_holds : Rows.CharrefPiecesUptoSaid := charrefPieces.proved
end Go.Proofs.Ytilpbfbnnmclhaa
end
