/-
  charref.each: the references of a text, one by one, each handed to a function value.
-/
import Derived.Test.YtilpbfbnnmclhaaPA8
namespace Go.Proofs.Ytilpbfbnnmclhaa.P
open Go.RowKit Go.Proofs.YtilpbfbnnmclhaaW.PrintWords Go.Proofs.YtilpbfbnnmclhaaW.PrintLast Go.Proofs.YtilpbfbnnmclhaaW.PrintMore
set_option linter.unusedVariables false
set_option linter.unusedSimpArgs false

/-- the references from place i on: where the & stands, what is said, how many bytes stand behind the & -/
def refsGo (attr : Bool) (s : ByteArray) : Nat → Nat → Option (List (Nat × ByteArray × Nat))
  | 0, _ => none
  | k + 1, i =>
    if i < s.size then
      (if bt s i = 38 then
        (charref_next.f k (s.extract (i + 1) s.size) attr true).bind fun n =>
          if 0 ≤ n.2.1 ∧ i + 1 + n.2.1.toNat ≤ s.size then
            (if n.2.1 = 0 then refsGo attr s k (i + 1)
             else (refsGo attr s k (i + 1 + n.2.1.toNat)).bind fun t => some ((i, n.1, n.2.1.toNat) :: t))
          else none
       else refsGo attr s k (i + 1))
    else some []

set_option maxRecDepth 100000 in
set_option maxHeartbeats 8000000 in
theorem charref_each_calls (k : Nat) (s : ByteArray) (attr : Bool) (fv : Array Value) (refs : List (Nat × ByteArray × Nat)) (I : List (Nat × ByteArray × Nat) → World → Prop) (w : World)
    (hs : s.size ≤ 35184372088831) (h : refsGo attr s k 0 = some refs)
    (hI : ∀ pre W W', I pre W → Below W.heap.size W W' → I pre W')
    (hdo : ∀ (pre : List (Nat × ByteArray × Nat)) (x : Nat × ByteArray × Nat) (W : World) (b : Bool), I pre W → (∃ post, pre ++ [x] ++ post = refs) → Calls Try.prog 53 (#[.int .i64 (x.1 : Nat), .agg #[.string x.2.1, .int .i64 (x.2.2 : Nat), .bool b]] ++ fv) W fun e W' =>
      e = .returned (.bool true) ∧ I (pre ++ [x]) W' ∧ ∀ (j : Nat) (cs : Array Value), W.heap[j]? = some (Obj.cells cs 60 (0, 0)) → W'.heap[j]? = some (Obj.cells cs 60 (0, 0)))
    (h0 : I [] w) :
    Calls Try.prog 39 #[.string s, .bool attr, .func (.func 53) #[] fv] w fun e w' => e = .returned (.tuple #[]) ∧ I refs w' := by
  have HDO := Aside0.mk hdo
  have HI := Aside0.mk hI
  have HR := Aside0.mk h
  clear hdo
  clear hI
  clear h
  have hu60 := Try.underlying60
  go_enter Try.func39, Try.ntmps39
  go_wp2
  go_loopw [6] (fun v wr => ∃ (i kk : Nat) (pre rest : List (Nat × ByteArray × Nat)), v = .int .i64 (i : Nat) ∧ i ≤ s.size ∧ Aside0 (refsGo attr s kk i = some rest) ∧ Aside0 (pre ++ rest = refs) ∧ Aside0 (I pre wr)) (fun v _ => s.size - (intOf v).toNat)
  case atStart => exact ⟨0, k, [], refs, rfl, Nat.zero_le _, HR, ⟨rfl⟩, ⟨h0⟩⟩
  case round =>
    obtain ⟨i, kk, pre, rest, rfl, hi, hrest, hpre, hinv⟩ := hrel
    by_cases hlt : i < s.size
    · have hl1 : ((i : Int) < (s.size : Int)) = True := eq_true (by omega)
      have hl2 : ((0 : Int) ≤ (i : Int)) = True := eq_true (by omega)
      have hx0 : ∀ h : i < s.size, ((s[i]'h).toNat : Int) = bt s (i : Int) := bt_at s (i : Int)
      have hw1 : IntKind.i64.wrap ((i : Int) + 1) = (i : Int) + 1 := IntWalk.i64_in _ (by omega)
      cases kk with
      | zero => exact absurd hrest.out (by simp [refsGo])
      | succ kk =>
        have hr := hrest.out
        clear hrest
        unfold refsGo at hr
        rw [if_pos hlt] at hr
        by_cases c : bt s (i : Int) = 38
        · rw [if_pos c] at hr
          obtain ⟨⟨n1, n2, n3⟩, hn, hr⟩ := Option.bind_eq_some_iff.1 hr
          have HN := Aside0.mk hn
          clear hn
          by_cases hb : 0 ≤ n2 ∧ i + 1 + n2.toNat ≤ s.size
          · rw [if_pos hb] at hr
            obtain ⟨m, rfl⟩ : ∃ m : Nat, n2 = m := ⟨n2.toNat, by omega⟩
            obtain ⟨_, hm⟩ := hb
            simp only [Int.toNat_natCast] at hm hr
            have HRR := Aside0.mk hr
            clear hr
            have kc : (bt s (i : Int) != 38) = false := bne_eq_false_iff_eq.2 c
            have s1 : ((0 : Int) ≤ (i : Int) + 1) = True := eq_true (by omega)
            have s2 : ((i : Int) + 1 ≤ (s.size : Int)) = True := eq_true (by omega)
            have s3 : ((i : Int) + 1).toNat = i + 1 := by omega
            have hw2 : IntKind.i64.wrap (1 + (m : Int)) = 1 + (m : Int) := IntWalk.i64_in _ (by omega)
            have hw3 : IntKind.i64.wrap ((i : Int) + (1 + (m : Int))) = ((i + 1 + m : Nat) : Int) := by rw [IntWalk.i64_in _ (by omega)]; omega
            by_cases hm0 : m = 0
            · have HM0 := Aside0.mk hm0
              have hrr := HRR.out
              rw [if_pos (by omega)] at hrr
              have HREST := Aside0.mk hrr
              clear hrr
              have g1 : decide ((m : Int) > 0) = false := decide_eq_false (by omega)
              have g2 : decide ((0 : Int) < (m : Int)) = false := decide_eq_false (by omega)
              have g3 : (0 < m) = False := eq_false (by omega)
              have g4 : ((0 : Int) < (m : Int)) = False := eq_false (by omega)
              have hw4 : ((i + 1 + m : Nat) : Int) = ((i + 1 : Nat) : Int) := by omega
              have HW4 := Aside0.mk hw4
              clear hw4 hm0
              go_wp2_with (first | (go_at_call 27; refine (charref_next.calls kk (s.extract (i + 1) s.size) attr true n1 (m : Int) n3 _ HN.out).mono ?_; rintro e w1 ⟨rfl, hb1⟩; have HB1 := Aside0.mk hb1; clear hb1) | ((with_reducible refine gate_dst (N := 7) rfl ?_); refine box_event ?hg (N := 7) ?hd (cs := #[.string (⟨#[]⟩ : ByteArray), .int .i64 0, .bool false]) (t := 60) ?hr ?_; (case hd => rfl); (case hg => rfl); (case hr => first | (go_simp; done) | (go_simp; rfl)); intro gb hg w5 hbox hb; have HB5 := Aside0.mk (below_step HB1.out hb); have BK5 := Aside0.mk hbox; have GE5 := Aside0.mk ((by rw [hg]; exact (below_size HB1.out)) : wr.heap.size ≤ gb); clear hb hbox hg; have hcz0 : w5.cell? ⟨gb, 0, none⟩ = some (.string (⟨#[]⟩ : ByteArray)) := (blk_cell BK5.out 0).trans rfl; have hcz1 : w5.cell? ⟨gb, 1, none⟩ = some (.int .i64 0) := (blk_cell BK5.out 1).trans rfl; have hcz2 : w5.cell? ⟨gb, 2, none⟩ = some (.bool false) := (blk_cell BK5.out 2).trans rfl; have hfz0 := blk_frozen BK5.out 0; have hfz1 := blk_frozen BK5.out 1; have hfz2 := blk_frozen BK5.out 2))
              trace_state
              go_roundw
              case rel => exact ⟨i + 1, kk, pre, rest, by rw [← HW4.out]; rfl, by omega, HREST, hpre, ⟨HI.out pre wr _ hinv.out (below_set (below_set (below_set HB5.out GE5.out) GE5.out) GE5.out)⟩⟩
              case measure => simp [intOf]; omega
            · have hrr := HRR.out
              rw [if_neg (by omega)] at hrr
              obtain ⟨t2, ht2, heq⟩ := Option.bind_eq_some_iff.1 hrr
              have heq := Option.some.inj heq
              have HREST := Aside0.mk ht2
              clear hrr ht2
              have hpre2 : pre ++ [(i, n1, m)] ++ t2 = refs := by rw [← hpre.out, ← heq, List.append_assoc]; rfl
              have HPRE2 := Aside0.mk hpre2
              clear hpre2 heq
              have g1 : decide ((m : Int) > 0) = true := decide_eq_true (by omega)
              have g2 : decide ((0 : Int) < (m : Int)) = true := decide_eq_true (by omega)
              go_wp2_with (first | (go_at_call 27; refine (charref_next.calls kk (s.extract (i + 1) s.size) attr true n1 (m : Int) n3 _ HN.out).mono ?_; rintro e w1 ⟨rfl, hb1⟩; have HB1 := Aside0.mk hb1; clear hb1) | ((with_reducible refine gate_dst (N := 7) rfl ?_); refine box_event ?hg (N := 7) ?hd (cs := #[.string (⟨#[]⟩ : ByteArray), .int .i64 0, .bool false]) (t := 60) ?hr ?_; (case hd => rfl); (case hg => rfl); (case hr => first | (go_simp; done) | (go_simp; rfl)); intro gb hg w5 hbox hb; have HB5 := Aside0.mk (below_step HB1.out hb); have BK5 := Aside0.mk hbox; have GE5 := Aside0.mk ((by rw [hg]; exact (below_size HB1.out)) : wr.heap.size ≤ gb); clear hb hbox hg; have hcz0 : w5.cell? ⟨gb, 0, none⟩ = some (.string (⟨#[]⟩ : ByteArray)) := (blk_cell BK5.out 0).trans rfl; have hcz1 : w5.cell? ⟨gb, 1, none⟩ = some (.int .i64 0) := (blk_cell BK5.out 1).trans rfl; have hcz2 : w5.cell? ⟨gb, 2, none⟩ = some (.bool false) := (blk_cell BK5.out 2).trans rfl; have hfz0 := blk_frozen BK5.out 0; have hfz1 := blk_frozen BK5.out 1; have hfz2 := blk_frozen BK5.out 2) | (go_at_call 53; refine (HDO.out pre (i, n1, m) _ n3 (HI.out pre wr _ hinv.out (below_set (below_set (below_set HB5.out GE5.out) GE5.out) GE5.out)) ⟨t2, HPRE2.out⟩).mono ?_; rintro e w7 ⟨rfl, hinv7, hk7⟩; have HINV7 := Aside0.mk hinv7; have BK7 := Aside0.mk (hk7 gb #[.string n1, .int .i64 (m : Nat), .bool n3] (blk_put (cs := #[.string n1, .int .i64 (m : Nat), .bool false]) (blk_put (cs := #[.string n1, .int .i64 0, .bool false]) (blk_put (cs := #[.string (⟨#[]⟩ : ByteArray), .int .i64 0, .bool false]) BK5.out 0 _ rfl) 1 _ rfl) 2 _ rfl)); clear hinv7 hk7; have hcy1 : w7.cell? ⟨gb, 1, none⟩ = some (.int .i64 (m : Nat)) := (blk_cell BK7.out 1).trans rfl))
              go_roundw
              case rel => exact ⟨i + 1 + m, kk, pre ++ [(i, n1, m)], t2, rfl, hm, HREST, HPRE2, HINV7⟩
              case measure => simp [intOf]; omega
          · rw [if_neg hb] at hr
            cases hr
        · rw [if_neg c] at hr
          have HREST := Aside0.mk hr
          clear hr
          have kc : (bt s (i : Int) != 38) = true := bne_iff_ne.2 c
          clear c
          go_wp2
          go_roundw
          case rel => exact ⟨i + 1, kk, pre, rest, rfl, by omega, HREST, hpre, hinv⟩
          case measure => simp [intOf]; omega
    · have hl1 : ((i : Int) < (s.size : Int)) = False := eq_false (by omega)
      have hrr : rest = [] := by
        have := hrest.out
        cases kk with
        | zero => simp [refsGo] at this
        | succ kk =>
          unfold refsGo at this
          rw [if_neg hlt] at this
          exact (Option.some.inj this).symm
      subst hrr
      have hp := hpre.out
      rw [List.append_nil] at hp
      subst hp
      go_wp2
      go_end0
      exact ⟨rfl, hinv.out⟩
end Go.Proofs.Ytilpbfbnnmclhaa.P
