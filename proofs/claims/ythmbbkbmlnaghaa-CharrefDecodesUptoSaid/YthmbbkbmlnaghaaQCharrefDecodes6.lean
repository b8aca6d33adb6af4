/-
 CharrefDecodes, the given statement (second form: what it reads is of bulk at most 1048576): every text decoded, cleaned; its references one by one, taken twice, left anywhere, are the document's; for every text, both flags and every int. Condition: the bulk.
-/
import Derived.Test.YthmbbkbmlnaghaaQCharrefDecodes0
import Derived.Test.YthmbbkbmlnaghaaQCharrefDecodes1
import Derived.Test.YthmbbkbmlnaghaaQCharrefDecodes2
import Derived.Test.YthmbbkbmlnaghaaQCharrefDecodes3
import Derived.Test.YthmbbkbmlnaghaaQCharrefDecodes4
import Derived.Test.YthmbbkbmlnaghaaQCharrefDecodes5
import Derived.Maps.AppendAt
import Derived.Test.YthmbbkbmlnaghaaRows
import Derived.WalkKit
import Derived.ProofKit
import Derived.OpenShut
import Derived.ShutString
import Derived.ChangeOld
import Derived.Below
import Derived.SizedLaws
import Derived.JoinedCond
section
/-
  Decoding in plain Lean: a text decoded, and what is sure of a beginning.
-/
namespace Go.Proofs.Ythmbbkbmlnaghaa.P
open Go.RowKit Go.Proofs.YthmbbkbmlnaghaaW.PrintWords Go.Proofs.YthmbbkbmlnaghaaW.PrintLast Go.Proofs.YthmbbkbmlnaghaaW.PrintMore
set_option linter.unusedVariables false
set_option linter.unusedSimpArgs false

/-! ### the whole -/
def dgGo (g : ByteArray → ByteArray) (attr : Bool) : Nat → List UInt8 → List UInt8
  | 0, l => l
  | _ + 1, [] => []
  | n + 1, b :: t => if b = 38 then (if (nextL t attr true).2.1 = 0 then 38 :: dgGo g attr n t else (g (nextL t attr true).1).data.toList ++ dgGo g attr n (t.drop (nextL t attr true).2.1.toNat)) else b :: dgGo g attr n t
def dgL (g : ByteArray → ByteArray) (attr : Bool) (l : List UInt8) : List UInt8 := dgGo g attr l.length l
theorem dgGo_fuel (g : ByteArray → ByteArray) (attr : Bool) : ∀ (n m : Nat) (l : List UInt8), l.length ≤ n → l.length ≤ m → dgGo g attr n l = dgGo g attr m l
  | 0, m, l, hn, _ => by
    obtain rfl : l = [] := List.eq_nil_of_length_eq_zero (by omega)
    cases m <;> rfl
  | n + 1, 0, l, _, hm => by
    obtain rfl : l = [] := List.eq_nil_of_length_eq_zero (by omega)
    rfl
  | n + 1, m + 1, [], _, _ => rfl
  | n + 1, m + 1, b :: t, hn, hm => by
    rw [List.length_cons] at hn hm
    unfold dgGo
    rw [dgGo_fuel g attr n m t (by omega) (by omega), dgGo_fuel g attr n m (t.drop (nextL t attr true).2.1.toNat) (by rw [List.length_drop]; omega) (by rw [List.length_drop]; omega)]
theorem dgL_nil (g : ByteArray → ByteArray) (attr : Bool) : dgL g attr [] = [] := rfl
theorem dgL_cons (g : ByteArray → ByteArray) (attr : Bool) (b : UInt8) (t : List UInt8) :
    dgL g attr (b :: t) = if b = 38 then (if (nextL t attr true).2.1 = 0 then 38 :: dgL g attr t else (g (nextL t attr true).1).data.toList ++ dgL g attr (t.drop (nextL t attr true).2.1.toNat)) else b :: dgL g attr t := by
  unfold dgL
  rw [List.length_cons, dgGo, dgGo_fuel g attr t.length (t.drop (nextL t attr true).2.1.toNat).length (t.drop (nextL t attr true).2.1.toNat) (by rw [List.length_drop]; omega) (Nat.le_refl _)]

theorem drop_cons_at (m : List UInt8) (i : Nat) (h : i < m.length) : m.drop i = m.getD i 0 :: m.drop (i + 1) := lenS i h
theorem take_grow (m : List UInt8) (a i : Nat) (ha : a ≤ i) (hi : i < m.length) : (m.drop a).take (i + 1 - a) = (m.drop a).take (i - a) ++ [m.getD i 0] := by
  have e : i + 1 - a = (i - a) + 1 := by omega
  have hl : i - a < (m.drop a).length := by rw [List.length_drop]; omega
  rw [e, List.take_succ_eq_append_getElem hl]
  congr 2
  rw [List.getElem_drop, List.getD_eq_getElem?_getD, List.getElem?_eq_getElem hi]
  simp only [Option.getD_some]
  congr 1
  omega
theorem rep_dg (g : ByteArray → ByteArray) (attr : Bool) (s : ByteArray) (hs : s.size ≤ 35184372088831) : ∀ (k i : Nat) (refs : List (Nat × ByteArray × Nat)), refsGo attr s k i = some refs → i ≤ s.size → ∀ (a : Nat) (acc : List UInt8), a ≤ i →
    (refs.foldl (repStep g s.data.toList) (a, acc)).2 ++ s.data.toList.drop (refs.foldl (repStep g s.data.toList) (a, acc)).1 = acc ++ ((s.data.toList.drop a).take (i - a) ++ dgL g attr (s.data.toList.drop i))
  | 0, i, refs, h, _, _, _, _ => by simp [refsGo] at h
  | k + 1, i, refs, h, hi, a, acc, ha => by
    have hl : s.data.toList.length = s.size := by simp
    unfold refsGo at h
    by_cases c1 : i < s.size
    · rw [if_pos c1] at h
      rw [drop_cons_at _ i (by omega), dgL_cons]
      have hb := bt_l s i c1
      have hq : ((s.data.toList.getD i 0).toNat : Int) = 38 ↔ s.data.toList.getD i 0 = 38 := u8_eq _ 38 (by decide)
      have hx : (s.extract (i + 1) s.size).data.toList = s.data.toList.drop (i + 1) := by
        rw [extract_list]
        refine List.take_of_length_le ?_
        rw [List.length_drop]
        omega
      by_cases c2 : s.data.toList.getD i 0 = 38
      · rw [if_pos (by rw [hb]; exact hq.2 c2)] at h
        rw [if_pos c2]
        obtain ⟨n, hn, h⟩ := Option.bind_eq_some_iff.1 h
        have hz : (s.extract (i + 1) s.size).size ≤ s.size := by simp
        have hn2 : n = nextL (s.data.toList.drop (i + 1)) attr true := by
          have h1 := next_f (k + s.size + 610) (s.extract (i + 1) s.size) attr true (by omega) (by omega)
          have h2 := at_rounds (charref_next.mono (s.extract (i + 1) s.size) attr true) (show k ≤ k + s.size + 610 by omega) hn
          rw [h1] at h2
          rw [← Option.some.inj h2, nextP_eq, hx]
        by_cases c3 : 0 ≤ n.2.1 ∧ i + 1 + n.2.1.toNat ≤ s.size
        · rw [if_pos c3] at h
          rw [← hn2]
          by_cases c4 : n.2.1 = 0
          · rw [if_pos c4] at h
            rw [if_pos c4, rep_dg g attr s hs k (i + 1) refs h (by omega) a acc (by omega), take_grow _ a i ha (by omega), c2, List.append_assoc]
            rfl
          · rw [if_neg c4] at h
            obtain ⟨t, ht, h⟩ := Option.bind_eq_some_iff.1 h
            have := Option.some.inj h
            subst this
            rw [if_neg c4, List.foldl_cons]
            have e : repStep g s.data.toList (a, acc) (i, n.1, n.2.1.toNat) = (i + 1 + n.2.1.toNat, acc ++ ((s.data.toList.drop a).take (i - a) ++ (g n.1).data.toList)) := rfl
            rw [e, rep_dg g attr s hs k _ t ht c3.2 _ _ (Nat.le_refl _), Nat.sub_self, List.take_zero, List.nil_append, List.drop_drop, List.append_assoc, List.append_assoc]
        · rw [if_neg c3] at h
          cases h
      · rw [if_neg (by rw [hb]; exact fun e => c2 (hq.1 e))] at h
        rw [if_neg c2, rep_dg g attr s hs k (i + 1) refs h (by omega) a acc (by omega), take_grow _ a i ha (by omega), List.append_assoc]
        rfl
    · rw [if_neg c1] at h
      have := Option.some.inj h
      subst this
      obtain rfl : i = s.size := by omega
      rw [List.foldl_nil, List.drop_eq_nil_of_le (Nat.le_of_eq hl), dgL_nil, List.append_nil, List.take_of_length_le (by rw [List.length_drop]; omega)]
theorem rep_text (g : ByteArray → ByteArray) (attr : Bool) (s : ByteArray) (hs : s.size ≤ 35184372088831) (k : Nat) (refs : List (Nat × ByteArray × Nat)) (h : refsGo attr s k 0 = some refs) : repText g s.data.toList refs = dgL g attr s.data.toList := by
  have := rep_dg g attr s hs k 0 refs h (Nat.zero_le _) 0 [] (Nat.le_refl _)
  unfold repText repSt
  rw [this]
  simp
theorem refs_some (attr : Bool) (s : ByteArray) (hs : s.size ≤ 35184372088831) : ∀ (d i k : Nat), s.size - i ≤ d → d + s.size + 612 ≤ k → ∃ refs, refsGo attr s k i = some refs
  | 0, i, k, hd, hk => by
    obtain ⟨k, rfl⟩ : ∃ j, k = j + 1 := ⟨k - 1, by omega⟩
    unfold refsGo
    rw [if_neg (by omega)]
    exact ⟨_, rfl⟩
  | d + 1, i, k, hd, hk => by
    obtain ⟨k, rfl⟩ : ∃ j, k = j + 1 := ⟨k - 1, by omega⟩
    have hz : (s.extract (i + 1) s.size).size ≤ s.size := by simp
    unfold refsGo
    by_cases c1 : i < s.size
    · rw [if_pos c1]
      have ih := fun (j : Nat) (hj : i < j) => refs_some attr s hs d j k (by omega) (by omega)
      by_cases c2 : bt s i = 38
      · have hl : (s.extract (i + 1) s.size).data.toList.length = s.size - (i + 1) := by simp
        have hsz := nextL_size (s.extract (i + 1) s.size).data.toList attr true
        rw [hl] at hsz
        rw [if_pos c2, next_f k (s.extract (i + 1) s.size) attr true (by omega) (by omega), Option.bind_some, nextP_eq, if_pos (by omega)]
        by_cases c4 : (nextL (s.extract (i + 1) s.size).data.toList attr true).2.1 = 0
        · rw [if_pos c4]
          exact ih _ (by omega)
        · rw [if_neg c4]
          obtain ⟨t, ht⟩ := ih (i + 1 + (nextL (s.extract (i + 1) s.size).data.toList attr true).2.1.toNat) (by omega)
          rw [ht]
          exact ⟨_, rfl⟩
      · rw [if_neg c2]
        exact ih _ (by omega)
    · rw [if_neg c1]
      exact ⟨_, rfl⟩

/-! ### what is said is short -/
theorem saysE_len (x : Ent) : (saysE x).length ≤ 2 := by unfold saysE; split <;> simp
theorem stepL_two (l : List UInt8) (acc : Nat × List Int) (x : Ent) (h : acc.2.length ≤ 2) : (stepL l acc x).2.length ≤ 2 := by
  unfold stepL
  have hs := saysE_len x
  repeat' split
  all_goals first | exact hs | exact h
theorem foldL_two (l : List UInt8) : ∀ (es : List Ent) (acc : Nat × List Int), acc.2.length ≤ 2 → (es.foldl (stepL l) acc).2.length ≤ 2
  | [], _, h => h
  | x :: t, acc, h => foldL_two l t _ (stepL_two l acc x h)
theorem nextL_short (l : List UInt8) (attr e : Bool) : (nextL l attr e).1.size ≤ 8 := by
  have h2 : (Hc_text (longL l).2).size ≤ 8 := by
    have h1 := foldL_two l ents (0, []) (by simp)
    have h3 := runesBytes_size_le (longL l).2
    unfold Hc_text
    have h4 : (longL l).2.length ≤ 2 := h1
    omega
  have h0 : emp.size ≤ 8 := by decide
  unfold nextL numericL namedL
  repeat' split
  all_goals first | exact h0 | exact h2 | (simp only; have := encode_size_le (numL (hexL l) (List.drop (fromL l) (List.take (atL l) l))).fst; omega)
theorem dgL_len (attr : Bool) : ∀ (n : Nat) (l : List UInt8), l.length ≤ n → (dgL id attr l).length ≤ 8 * l.length
  | 0, l, h => by
    obtain rfl : l = [] := List.eq_nil_of_length_eq_zero (by omega)
    exact Nat.le_refl _
  | n + 1, [], h => Nat.le_refl _
  | n + 1, b :: t, h => by
    rw [List.length_cons] at h
    rw [dgL_cons, List.length_cons]
    have h1 := dgL_len attr n t (by omega)
    split
    · split
      · rw [List.length_cons]
        omega
      · have h2 := dgL_len attr n (t.drop (nextL t attr true).2.1.toNat) (by rw [List.length_drop]; omega)
        have h3 := nextL_short t attr true
        rw [List.length_drop] at h2
        rw [List.length_append]
        have h4 : (id (nextL t attr true).1).data.toList.length = (nextL t attr true).1.size := by simp
        omega
    · rw [List.length_cons]
      omega
theorem mendS_list (s : ByteArray) : (mendS s).data.toList = mendL s.data.toList := by
  unfold mendS
  by_cases h : valid s.data.toList = true
  · rw [if_pos h, mendL_of_valid _ h]
  · rw [if_neg h]
    exact runesBytes_list _
theorem mendL_len4 (l : List UInt8) : (mendL l).length ≤ 4 * l.length := by
  unfold mendL
  have h1 : ∀ xs : List Int, (text xs).length ≤ 4 * xs.length := by
    intro xs
    induction xs with
    | nil => exact Nat.le_refl _
    | cons x t ih =>
      rw [text_cons, List.length_append, List.length_cons]
      have : (Lib.encodeRune x).length ≤ 4 := by
        unfold Lib.encodeRune
        rw [List.length_map]
        exact (Lib.encodeRuneZ_length x).2
      omega
  have h2 : ∀ (n : Nat) (l : List UInt8), l.length ≤ n → (runes l).length ≤ l.length := by
    intro n
    induction n with
    | zero =>
      intro l h
      obtain rfl : l = [] := List.eq_nil_of_length_eq_zero (by omega)
      exact Nat.le_refl _
    | succ n ih =>
      intro l h
      by_cases hne : l = []
      · subst hne
        exact Nat.le_refl _
      · have hw := (rdL_facts l hne).1
        have hl : 0 < l.length := List.length_pos_iff.2 hne
        rw [runes_step l hne, List.length_cons]
        have := ih (l.drop (rdL l).2.1) (by rw [List.length_drop]; omega)
        rw [List.length_drop] at this
        omega
  have h3 := h1 (runes l)
  have h4 := h2 _ l (Nat.le_refl _)
  omega
/-- charref.Decode, of every text that is not too long -/
theorem Decode_f (s : ByteArray) (attr : Bool) (hs : s.size ≤ 1099511627776) (k : Nat) (hk : 8 * s.size + 620 ≤ k) : charref_Decode.f k s attr = some ⟨(dgL id attr (mendL s.data.toList)).toArray⟩ := by
  have hl : s.data.toList.length = s.size := by simp
  have hml := mendS_list s
  have hmz : (mendS s).size = (mendL s.data.toList).length := by rw [← hml]; simp
  have hm4 := mendL_len4 s.data.toList
  unfold charref_Decode.f utf_Mend.f
  rw [if_pos (by omega), Option.bind_some]
  obtain ⟨refs, hr⟩ := refs_some attr (mendS s) (by omega) (mendS s).size 0 k (by omega) (by omega)
  have ht := rep_text id attr (mendS s) (by omega) k refs hr
  have h8 := dgL_len attr _ (mendL s.data.toList) (Nat.le_refl _)
  rw [hr, Option.bind_some, ht, hml, if_pos (by omega)]

end Go.Proofs.Ythmbbkbmlnaghaa.P
end
section
/-
 More of the decoded text, and runes of a valid text.
-/
namespace Go.Proofs.Ythmbbkbmlnaghaa.P
open Go.RowKit Go.Shelf Go.Proofs.YthmbbkbmlnaghaaW.PrintWords Go.Proofs.YthmbbkbmlnaghaaW.PrintLast Go.Proofs.YthmbbkbmlnaghaaW.PrintMore
set_option linter.unusedVariables false
set_option linter.unusedSimpArgs false

theorem size_list (s : ByteArray) : s.data.toList.length = s.size := by simp
end Go.Proofs.Ythmbbkbmlnaghaa.P
end
section
/-
 input.Clean: a text of plain runes alone; Clean's literal.
-/
namespace Go.Proofs.Ythmbbkbmlnaghaa.P
open Go.RowKit Go.Shelf Go.Proofs.YthmbbkbmlnaghaaW.PrintWords Go.Proofs.YthmbbkbmlnaghaaW.PrintLast Go.Proofs.YthmbbkbmlnaghaaW.PrintMore
set_option linter.unusedVariables false
set_option linter.unusedSimpArgs false

theorem runes_le : ∀ (n : Nat) (l : List UInt8), l.length ≤ n → (runes l).length ≤ l.length := by
 intro n
 induction n with
 | zero =>
  intro l h
  obtain rfl : l = [] := List.eq_nil_of_length_eq_zero (by omega)
  exact Nat.le_refl _
 | succ n ih =>
  intro l h
  by_cases hne : l = []
  ·subst hne
   exact Nat.le_refl _
  ·have hw := (rdL_facts l hne).1
   have hl : 0 < l.length := List.length_pos_iff.2 hne
   rw [runes_step l hne, List.length_cons]
   have := ih (l.drop (rdL l).2.1) (by rw [List.length_drop]; omega)
   rw [List.length_drop] at this
   omega

set_option maxRecDepth 100000 in
set_option maxHeartbeats 8000000 in
theorem clean_calls (s : ByteArray) (w : World) (hn : s.size ≤ 268435456) :
  Calls Try.prog 42 #[.string s] w fun en w' => en = .returned (.string (cleanB s)) ∧ Below w.heap.size w w' := by
 obtain ⟨i0, hi, hz0, hz1, hz2⟩ := info_parts info21
 have hml := mendS_list s
 have hl : s.data.toList.length = s.size := by simp
 have hm4 := mendL_len4 s.data.toList
 have hmv := mendL_valid s.data.toList
 have hmr : (runes (mendL s.data.toList)).length ≤ s.size := by
  rw [mendL_runes]
  have := runes_le _ s.data.toList (Nat.le_refl _)
  omega
 have hru : runes (mendL s.data.toList) = runes s.data.toList := mendL_runes _
 have hmz : (mendS s).size = (mendL s.data.toList).length := by rw [← hml]; simp
 have hmg : goodsR (runes (mendL s.data.toList)) := runes_good _ _ (Nat.le_refl _)
 have HM := Aside0.mk (utf_Mend.calls s (mendS s) w (by unfold utf_Mend.f; rw [if_pos (by omega)]))
 have hmsz : (mendS s).size ≤ 4294967296 := by rw [hmz]; omega
 have hcl : cleanB s = ⟨(text ((runes (mendS s).data.toList).map plainP)).toArray⟩ := by unfold cleanB plains; rw [hml, hru]
 rw [← hml] at hmv hmr hmg
 rw [hcl]
 clear hmz hml hm4 hl hru hcl
 generalize mendS s = m at hmv hmr hmg hmsz HM ⊢
 have hml : m.data.toList.length = m.size := by simp
 have HMV := Aside0.mk hmv
 have HML := Aside0.mk hml
 have HG := Aside0.mk hmg
 have HN := Aside0.mk (show (runes m.data.toList).length ≤ 1073741824 by omega)
 clear hmv hml hmg hmr
 go_enter Try.func42, Try.ntmps42
 go_wp2_with (first | (go_at_call 33; refine HM.out.mono ?_; rintro e w1 ⟨rfl, hb1⟩; have HB1 := Aside0.mk hb1; clear hb1))
 have hsz1 := HB1.out.size
 go_loopw [3, 5] (fun v3 v5 wr => ∃ (pos : Nat) (rs' : List Int), pos ≤ m.size ∧ Aside0 (rs' ++ (runes (m.data.toList.drop pos)).map plainP = (runes m.data.toList).map plainP) ∧ Aside0 (valid (m.data.toList.drop pos) = true) ∧ wr.heap[w1.heap.size]? = some (.stringIter m pos) ∧ Aside0 (wr.ownsRow w.heap.size 21 1 v3 rs'.length (nums .i32 rs')) ∧ Aside0 (Below w.heap.size w wr)) (fun _ _ wr => m.size - wr.iterPos w1.heap.size)
 case atStart =>
  refine ⟨0, [], Nat.zero_le _, ⟨by rw [List.drop_zero]; rfl⟩, ⟨by rw [List.drop_zero]; exact HMV.out⟩, ?_, ⟨?_⟩, ⟨?_⟩⟩
  ·have := World.iter_heap w1 m 0
   simpa using this
  ·exact World.ownsRow_nil _ _ _ _
  ·exact HB1.out.alloc hsz1 _
 case round =>
  obtain ⟨pos, rs', hpl, HR, HV, hit, HO, HBx⟩ := hrel
  have hlt0 : w1.heap.size < wr.heap.size := (Array.getElem?_eq_some_iff.1 hit).1
  obtain ⟨A0, cap0, rfl, _⟩ := own_reads HO.out
  by_cases hp : pos < m.size
  ·have hne : m.data.toList.drop pos ≠ [] := by rw [ne_eq, List.drop_eq_nil_iff]; have := HML.out; omega
   have hd := rdL_decode _ hne
   have hf := rdL_facts _ hne
   have hv := HV.out
   rw [valid_step _ hne] at hv
   have h0 : (rdL (m.data.toList.drop pos)).2.2 = 0 := by
    by_cases h0 : (rdL (m.data.toList.drop pos)).2.2 = 0
    ·exact h0
    ·rw [if_neg h0] at hv
     cases hv
   rw [if_pos h0, List.drop_drop] at hv
   rw [if_pos h0, Lib.decodeL_drop] at hd
   have hrn := runes_step _ hne
   rw [List.drop_drop] at hrn
   have hw1 := hf.1
   have hw2 := hf.2.1
   rw [List.length_drop, HML.out] at hw2
   have hg1 : goodR (((rdL (m.data.toList.drop pos)).1 : Nat) : Int) := runes_good _ (m.data.toList.drop pos) (Nat.le_refl _) _ (by rw [runes_step _ hne]; exact List.mem_cons_self)
   have hlen : rs'.length + 1 ≤ 1073741824 := by
    have h1 := congrArg List.length HR.out
    have h2 := HN.out
    rw [hrn] at h1
    simp only [List.length_append, List.length_map, List.length_cons] at h1
    omega
   have hnx : ∀ ty, (Instr.next (.pointer (some ⟨w1.heap.size, 0, none⟩)) true ty).run Try.prog wr = _ := fun ty => Lib.run_next_any_at wr w1.heap.size m pos ty hit hp
   rw [hd] at hnx
   simp only at hnx
   generalize rdL (m.data.toList.drop pos) = q at hd hrn hw1 hw2 hg1 hnx hv
   obtain ⟨q1, q2, q3⟩ := q
   simp only at hd hrn hw1 hw2 hg1 hnx hv
   have HP := Aside0.mk (fun W => input_Plain.calls 6 _ _ W (plain_f (q1 : Int) hg1))
   have hit2 := Lib.iterAt_heap wr w1.heap.size m pos (pos + q2) hit
   have hBy2 := Lib.below_iterAt HBx.out (k := w1.heap.size) hsz1 m (pos + q2)
   have hsz2 : (wr.iterAt w1.heap.size m (pos + q2)).heap.size = wr.heap.size := Lib.iterAt_size wr w1.heap.size m (pos + q2)
   have hown2 : (wr.iterAt w1.heap.size m (pos + q2)).ownsRow w.heap.size 21 1 (.slice A0 rs'.length cap0) rs'.length (nums .i32 rs') := own_move HO.out fun k hk => by
    refine Lib.iterAt_other _ _ _ _ _ ?_
    rintro rfl
    obtain ⟨cells, hc⟩ := own_typed HO.out _ hk
    rw [hit] at hc
    cases hc
   generalize hW0 : wr.iterAt w1.heap.size m (pos + q2) = W0 at hnx hit2 hBy2 hsz2 hown2
   clear hd hne hf h0
   have HRN := Aside0.mk hrn
   have HV2 := Aside0.mk hv
   have HIT2 := Aside0.mk hit2
   have HBY2 := Aside0.mk hBy2
   have HSZ2 := Aside0.mk hsz2
   have HOWN2 := Aside0.mk hown2
   have HW0 := Aside0.mk hW0
   clear hrn hv hit2 hBy2 hsz2 hown2 hW0
   go_wp2_with (first | (go_at_call 59; refine (HP.out _).mono ?_; rintro e w5 ⟨rfl, hd5⟩; obtain ⟨nd, rfl⟩ := hd5.out; clear hd5) | (at_builtin; go_loud (refine wpList_append_own _ rfl _ _ 28 rfl w.heap.size 21 i0 (.int .i32 0) 1 4 Try.underlying28 hi hz0 hz1 hz2 rfl (by decide) _ _ _ rfl ((own_move (w1 := W0.drewN nd) HOWN2.out (fun _ _ => rfl)).alloc _) ⟨W0.heap.size, 0, none⟩ 1 1 [.int .i32 (plainP (q1 : Int))] rfl rfl ?c1 ?c2 ?c3 ?c4 ?c5 ?_)))
   case c1 => exact cell_one_new _ _ _
   case c2 => simp [Value.oneCell']
   case c3 => simp only [maxLen]; omega
   case c4 => omega
   case c5 => have h1 := HSZ2.out; have h2 := HBx.out.size; simp; omega
   intro v' w2 hown' hgrow _
   obtain ⟨g', cap2, rfl⟩ := ownsRow_succ hown'
   have hrow : ∀ k, Value.ownBlock (.slice A0 rs'.length cap0) = some k → k ≠ w1.heap.size := by
    rintro k hk rfl
    obtain ⟨cells, hc⟩ := own_typed HOWN2.out _ hk
    rw [HIT2.out] at hc
    cases hc
   have hi2 : w2.heap[w1.heap.size]? = some (.stringIter m (pos + q2)) := by
    have h1 := HSZ2.out
    rw [hgrow.block w1.heap.size (by simp; omega) (fun e => hrow _ e.symm rfl), Lib.alloc_old (W0.drewN nd) _ _ (by simp; omega)]
    exact HIT2.out
   have hBy3 : Below w.heap.size w w2 := ((pw_below_drewN HBY2.out nd).alloc (by have h1 := HSZ2.out; have h2 := HBx.out.size; simp; omega) _).grown hgrow (by have h1 := HSZ2.out; have h2 := HBx.out.size; simp; omega) (own_base HOWN2.out)
   go_wp2
   refine ⟨⟨pos + q2, rs' ++ [plainP (q1 : Int)], by omega, ⟨?_⟩, HV2, hi2, ⟨?_⟩, ⟨hBy3⟩⟩, ?_⟩
   ·have h1 := HR.out
    rw [HRN.out] at h1
    rw [List.append_assoc]
    exact h1
   ·have e : nums .i32 (rs' ++ [plainP (q1 : Int)]) = nums .i32 rs' ++ [.int .i32 (plainP (q1 : Int))] := by simp [nums]
    rw [e, List.length_append]
    exact hown'
   ·simp only [World.iterPos, hi2, hit]
    omega
  ·obtain rfl : pos = m.size := by omega
   have hnx : ∀ ty, (Instr.next (.pointer (some ⟨w1.heap.size, 0, none⟩)) true ty).run Try.prog wr = _ := fun ty => Lib.run_next_end_at wr w1.heap.size m m.size ty hit hp
   have hr : rs' = (runes m.data.toList).map plainP := by
    have := HR.out
    rw [List.drop_eq_nil_of_le (Nat.le_of_eq HML.out), runes_nil, List.map_nil, List.append_nil] at this
    exact this
   have hcv := Hc_own_runes (P := Try.prog) (src := 28) (dst := 9) (e := 21) Try.underlying28 Try.underlying21 Try.underlying9 HO.out
   have HR2 := Aside0.mk hr
   clear hr
   go_wp2
   go_ret
   refine ⟨?_, by first | exact HBx.out | (repeat (first | exact HBx.out | apply below_drew | apply pw_below_drewN | apply below_alloc))⟩
   rw [← HR2.out, ← runesBytes_list]
   rfl
theorem Clean1_calls (a : ByteArray) (n : Int) (b : Bool) (w : World) (hs : a.size ≤ 268435456) :
  Calls Try.prog 41 #[.agg #[.string a, .int .i64 n, .bool b]] w fun e W' => e = .returned (.string (cleanB a)) ∧ Below w.heap.size w W' := by
 have hu60 := Try.underlying88
 have HB0 := Aside0.mk (Below.refl w.heap.size w)
 go_enter Try.func41, Try.ntmps41
 go_wp2_with (first | (go_at_call 42; refine (clean_calls a _ hs).mono ?_; rintro e w6 ⟨rfl, hb6⟩) | ((with_reducible refine gate_dst (N := 1) rfl ?_); refine box_event ?hg (N := 1) ?hd (cs := #[.string a, .int .i64 n, .bool b]) (t := 88) ?hr ?_; (case hd => rfl); (case hg => rfl); (case hr => first | (go_simp; done) | (go_simp; rfl)); intro gb hg w5 hbox hb; have HB5 := Aside0.mk (below_step HB0.out hb); have BK5 := Aside0.mk hbox; clear hb hbox hg; have hcg5 : w5.cell? ⟨gb, 0, none⟩ = some (.string a) := (blk_cell BK5.out 0).trans rfl))
 go_ret
 exact ⟨rfl, HB5.out.trans (hb6.mono HB5.out.size)⟩
end Go.Proofs.Ythmbbkbmlnaghaa.P
end
section
/-
 The document's Held and Decode in plain Lean; a text that is cut where a reference begins.
-/
namespace Go.Proofs.Ythmbbkbmlnaghaa.P
open Go.RowKit Go.Proofs.YthmbbkbmlnaghaaW.PrintWords Go.Proofs.YthmbbkbmlnaghaaW.PrintLast Go.Proofs.YthmbbkbmlnaghaaW.PrintMore
set_option linter.unusedVariables false
set_option linter.unusedSimpArgs false

/-! ### Held -/
end Go.Proofs.Ythmbbkbmlnaghaa.P
end
section
/-
 The document's Decode in plain Lean: piece by piece it is the same decoding.
-/
namespace Go.Proofs.Ythmbbkbmlnaghaa.P
open Go.RowKit Go.Proofs.YthmbbkbmlnaghaaW.PrintWords Go.Proofs.YthmbbkbmlnaghaaW.PrintLast Go.Proofs.YthmbbkbmlnaghaaW.PrintMore
set_option linter.unusedVariables false
set_option linter.unusedSimpArgs false

abbrev Part := S46
def catP (ps : List Part) : List UInt8 := ps.flatMap fun p => p.f2.data.toList
theorem catP_snoc (ps : List Part) (p : Part) : catP (ps ++ [p]) = catP ps ++ p.f2.data.toList := by simp [catP]
set_option maxHeartbeats 1000000 in
theorem parts_l0 (s : ByteArray) (attr : Bool) (hs : s.size ≤ 4294967296) : ∀ (d i k a : Nat) (out : List Part), s.size - i ≤ d → i ≤ s.size → a ≤ i → out.length ≤ 2 * i → d + 2 * s.size + 630 ≤ k →
  ∃ ps, sieveref06_Parts.l0 k s attr out (a : Int) (i : Int) = some ps ∧ catP ps = catP out ++ ((s.data.toList.drop a).take (i - a) ++ dgL id attr (s.data.toList.drop i)) ∧ ps.length ≤ 2 * s.size + 1
 | 0, i, k, a, out, hd, hi, ha, ho, hk => by
  obtain ⟨k, rfl⟩ : ∃ j, k = j + 1 := ⟨k - 1, by omega⟩
  obtain rfl : i = s.size := by omega
  have hl := size_list s
  rw [sieveref06_Parts.l0, if_neg (by omega), List.drop_eq_nil_of_le (Nat.le_of_eq hl), dgL_nil, List.append_nil]
  by_cases c : a < s.size
  ·rw [if_pos (by omega), if_pos (by omega), if_pos (by omega), if_pos (by omega), Int.toNat_natCast]
   exact ⟨_, rfl, by rw [catP_snoc]; simp only; rw [extract_list], by rw [List.length_append, List.length_singleton]; omega⟩
  ·rw [if_neg (by omega)]
   exact ⟨_, rfl, by rw [List.drop_eq_nil_of_le (by omega)]; simp, by omega⟩
 | d + 1, i, k, a, out, hd, hi, ha, ho, hk => by
  obtain ⟨k, rfl⟩ : ∃ j, k = j + 1 := ⟨k - 1, by omega⟩
  have hl := size_list s
  by_cases hlt : i < s.size
  ·have HW := Aside0.mk (show wrap64 ((i : Int) + 1) = ((i + 1 : Nat) : Int) by unfold wrap64; omega)
   have hq : ((s.data.toList.getD i 0).toNat : Int) = 38 ↔ s.data.toList.getD i 0 = 38 := u8_eq _ 38 (by decide)
   have hdr := drop_cons_at s.data.toList i (by omega)
   have htg := take_grow s.data.toList a i ha (by omega)
   rw [sieveref06_Parts.l0, if_pos (by omega), if_pos (by omega), bt_l s i hlt, HW.out, hdr, dgL_cons]
   by_cases c : s.data.toList.getD i 0 = 38
   ·have hxe : (s.extract (i + 1) s.size).data.toList = s.data.toList.drop (i + 1) := by
     rw [extract_list]
     refine List.take_of_length_le ?_
     rw [List.length_drop]
     omega
    have hze : (s.extract (i + 1) s.size).size ≤ s.size := by simp
    have hz := nextL_size (s.data.toList.drop (i + 1)) attr true
    rw [List.length_drop, hl] at hz
    rw [if_pos (hq.2 c), if_pos c, if_pos (by omega), if_pos (by omega), Int.toNat_natCast, rwhole_f k _ attr (by omega) (by omega), Option.bind_some, hxe]
    generalize nextL (s.data.toList.drop (i + 1)) attr true = q at hz
    obtain ⟨q1, q2, q3⟩ := q
    simp only at hz ⊢
    obtain ⟨m, rfl⟩ : ∃ m : Nat, q2 = m := ⟨q2.toNat, by omega⟩
    by_cases hm : m = 0
    ·obtain ⟨ps, h1, h2, h3⟩ := parts_l0 s attr hs d (i + 1) k a out (by omega) (by omega) (by omega) (by omega) (by omega)
     rw [if_neg (by omega), if_pos (by omega), h1]
     refine ⟨ps, rfl, ?_, h3⟩
     rw [h2, htg, c, List.append_assoc]
     rfl
    ·have HW1 := Aside0.mk (show wrap64 (1 + (m : Int)) = 1 + (m : Int) by unfold wrap64; omega)
     have HW2 := Aside0.mk (show wrap64 ((i : Int) + (1 + (m : Int))) = ((i + 1 + m : Nat) : Int) by unfold wrap64; omega)
     have HW3 := Aside0.mk (show wrap64 (((i + 1 : Nat) : Int) + (m : Int)) = ((i + 1 + m : Nat) : Int) by unfold wrap64; omega)
     rw [if_pos (by omega), if_neg (show ¬ (m : Int) = 0 by omega), HW1.out, HW2.out, HW3.out, Int.toNat_natCast, Int.toNat_natCast, Int.toNat_natCast]
     by_cases ca : a < i
     ·have ih := parts_l0 s attr hs d (i + 1 + m) k (i + 1 + m) ((out ++ [(⟨(a : Int), s.extract a i, s.extract a i, false⟩ : Part)]) ++ [(⟨(i : Int), s.extract i (i + 1 + m), q1, true⟩ : Part)]) (by omega) (by omega) (by omega) (by simp only [List.length_append, List.length_singleton]; omega) (by omega)
      obtain ⟨ps, h1, h2, h3⟩ := ih
      rw [if_pos (by omega), if_pos (by omega), if_pos (by omega), if_pos (by omega), if_pos (by omega), Option.bind_some, if_pos (by omega), if_pos (by omega), if_pos (by rw [List.length_append, List.length_singleton]; omega), h1]
      refine ⟨ps, rfl, ?_, h3⟩
      rw [h2, catP_snoc, catP_snoc, Nat.sub_self, List.take_zero, List.nil_append, extract_list, List.drop_drop]
      simp only [List.append_assoc, id, Int.toNat_natCast]
     ·obtain rfl : a = i := by omega
      have ih := parts_l0 s attr hs d (a + 1 + m) k (a + 1 + m) (out ++ [(⟨(a : Int), s.extract a (a + 1 + m), q1, true⟩ : Part)]) (by omega) (by omega) (by omega) (by simp only [List.length_append, List.length_singleton]; omega) (by omega)
      obtain ⟨ps, h1, h2, h3⟩ := ih
      rw [if_neg (by omega), if_pos (by omega), if_pos (by omega), if_pos (by omega), h1]
      refine ⟨ps, rfl, ?_, h3⟩
      rw [h2, catP_snoc, Nat.sub_self, List.take_zero, List.nil_append, Nat.sub_self, List.take_zero, List.nil_append, List.drop_drop, List.append_assoc]
      rfl
   ·obtain ⟨ps, h1, h2, h3⟩ := parts_l0 s attr hs d (i + 1) k a out (by omega) (by omega) (by omega) (by omega) (by omega)
    rw [if_neg (fun h => c (hq.1 h)), if_neg c, h1]
    refine ⟨ps, rfl, ?_, h3⟩
    rw [h2, htg, List.append_assoc]
    rfl
  ·exact parts_l0 s attr hs 0 i (k + 1) a out (by omega) hi ha ho (by omega)
theorem rdecode_l0 (ps : List Part) (hp : ps.length ≤ 17179869184) (hc : (catP ps).length ≤ 1099511627776) : ∀ (d i k : Nat) (x : ByteArray), ps.length - i = d → i ≤ ps.length → x.data.toList ++ catP (ps.drop i) = catP ps → d + 1 ≤ k →
  ∃ r : ByteArray, sieveref06_Decode.l0 k x ps (ps.length : Int) (i : Int) = some r ∧ r.data.toList = catP ps
 | 0, i, k, x, hd, hi, hx, hk => by
  obtain ⟨k, rfl⟩ : ∃ j, k = j + 1 := ⟨k - 1, by omega⟩
  obtain rfl : i = ps.length := by omega
  rw [List.drop_length] at hx
  rw [sieveref06_Decode.l0, if_neg (by omega)]
  exact ⟨x, rfl, by rw [← hx]; simp [catP]⟩
 | d + 1, i, k, x, hd, hi, hx, hk => by
  obtain ⟨k, rfl⟩ : ∃ j, k = j + 1 := ⟨k - 1, by omega⟩
  have hlt : i < ps.length := by omega
  have HW := Aside0.mk (show wrap64 ((i : Int) + 1) = ((i + 1 : Nat) : Int) by unfold wrap64; omega)
  have er : rd_T46 ps (i : Int) = ps[i] := by
   unfold rd_T46
   rw [Int.toNat_natCast, List.getD_eq_getElem?_getD, List.getElem?_eq_getElem hlt]
   rfl
  rw [List.drop_eq_getElem_cons hlt] at hx
  have hcc : catP (ps[i] :: ps.drop (i + 1)) = ps[i].f2.data.toList ++ catP (ps.drop (i + 1)) := List.flatMap_cons
  rw [hcc] at hx
  have hlen := congrArg List.length hx
  rw [List.length_append, List.length_append, size_list, size_list] at hlen
  rw [sieveref06_Decode.l0, if_pos (by omega), if_pos (by omega), if_pos (by omega), er, if_pos (by omega), HW.out]
  refine rdecode_l0 ps hp hc d (i + 1) k _ (by omega) (by omega) ?_ (by omega)
  rw [ByteArray.data_append, Array.toList_append, List.append_assoc]
  exact hx
theorem rDecode_f (s : ByteArray) (attr : Bool) (hs : s.size ≤ 268435456) : sieveref06_Decode.f 100000000000 s attr = some ⟨(dgL id attr (mendL s.data.toList)).toArray⟩ := by
 have hl := size_list s
 have hm4 := mendL_len4 s.data.toList
 have hmz : (⟨(mendL s.data.toList).toArray⟩ : ByteArray).size = (mendL s.data.toList).length := rfl
 have hml : (⟨(mendL s.data.toList).toArray⟩ : ByteArray).data.toList = mendL s.data.toList := rfl
 obtain ⟨ps, h1, h2, h3⟩ := parts_l0 (⟨(mendL s.data.toList).toArray⟩ : ByteArray) attr (by omega) (⟨(mendL s.data.toList).toArray⟩ : ByteArray).size 0 100000000000 0 [] (by omega) (by omega) (Nat.le_refl _) (Nat.zero_le _) (by omega)
 have hc : catP ps = dgL id attr (mendL s.data.toList) := by
  rw [h2, Nat.sub_self, List.take_zero, List.nil_append, List.drop_zero, hml]
  rfl
 have h8 := dgL_len attr _ (mendL s.data.toList) (Nat.le_refl _)
 obtain ⟨r, h4, h5⟩ := rdecode_l0 ps (by omega) (by rw [hc]; omega) ps.length 0 100000000000 ⟨#[]⟩ (by omega) (by omega) rfl (by omega)
 unfold sieveref06_Decode.f sieveref01_Mend.f sieveref06_Parts.f
 rw [if_pos (by omega), Option.bind_some]
 rw [show sieveref06_Parts.l0 100000000000 (⟨(mendL s.data.toList).toArray⟩ : ByteArray) attr ([] : List Part) 0 0 = some ps from h1, Option.bind_some]
 refine (show sieveref06_Decode.l0 100000000000 (⟨#[]⟩ : ByteArray) ps (ps.length : Int) 0 = some r from h4).trans ?_
 rw [hc] at h5
 congr 1
 rw [← h5]
end Go.Proofs.Ythmbbkbmlnaghaa.P
end
section
/-
 The document's parts are the program's references; the cleaned text.
-/
namespace Go.Proofs.Ythmbbkbmlnaghaa.P
open Go.RowKit Go.Proofs.YthmbbkbmlnaghaaW.PrintWords Go.Proofs.YthmbbkbmlnaghaaW.PrintLast Go.Proofs.YthmbbkbmlnaghaaW.PrintMore
set_option linter.unusedVariables false
set_option linter.unusedSimpArgs false

abbrev Ref3 := Nat × ByteArray × Nat
def partR (s : ByteArray) (x : Ref3) : Part := ⟨(x.1 : Int), s.extract x.1 (x.1 + 1 + x.2.2), x.2.1, true⟩
def partN (s : ByteArray) (a b : Nat) : List Part := if a < b then [⟨(a : Int), s.extract a b, s.extract a b, false⟩] else []
def partsOf (s : ByteArray) : Nat → List Ref3 → List Part
 | a, [] => partN s a s.size
 | a, x :: t => partN s a x.1 ++ partR s x :: partsOf s (x.1 + 1 + x.2.2) t
def catG (g : ByteArray → ByteArray) (ps : List Part) : List UInt8 := ps.flatMap fun p => if p.f3 = true then (g p.f2).data.toList else p.f2.data.toList

set_option maxHeartbeats 2000000 in
theorem parts_refs (s : ByteArray) (attr : Bool) (hs : s.size ≤ 4294967296) : ∀ (kk i : Nat) (refs : List Ref3), refsGo attr s kk i = some refs → i ≤ s.size → ∀ (a k : Nat) (out : List Part), a ≤ i → out.length ≤ 2 * i → (s.size - i) + 2 * s.size + 630 ≤ k →
  sieveref06_Parts.l0 k s attr out (a : Int) (i : Int) = some (out ++ partsOf s a refs)
 | 0, i, refs, h, _, _, _, _, _, _, _ => by simp [refsGo] at h
 | kk + 1, i, refs, h, hi, a, k, out, ha, ho, hk => by
  obtain ⟨k, rfl⟩ : ∃ j, k = j + 1 := ⟨k - 1, by omega⟩
  have hl := size_list s
  unfold refsGo at h
  by_cases c1 : i < s.size
  ·rw [if_pos c1] at h
   have HW := Aside0.mk (show wrap64 ((i : Int) + 1) = ((i + 1 : Nat) : Int) by unfold wrap64; omega)
   have hb := bt_l s i c1
   have hq : ((s.data.toList.getD i 0).toNat : Int) = 38 ↔ s.data.toList.getD i 0 = 38 := u8_eq _ 38 (by decide)
   have hxe : (s.extract (i + 1) s.size).data.toList = s.data.toList.drop (i + 1) := by
    rw [extract_list]
    refine List.take_of_length_le ?_
    rw [List.length_drop]
    omega
   have hze : (s.extract (i + 1) s.size).size ≤ s.size := by simp
   rw [sieveref06_Parts.l0, if_pos (by omega), if_pos (by omega), hb, HW.out]
   rw [hb] at h
   by_cases c2 : s.data.toList.getD i 0 = 38
   ·rw [if_pos (hq.2 c2)] at h
    obtain ⟨n, hn, h⟩ := Option.bind_eq_some_iff.1 h
    have hn2 : n = nextL (s.data.toList.drop (i + 1)) attr true := by
     have h1 := next_f (kk + s.size + 610) (s.extract (i + 1) s.size) attr true (by omega) (by omega)
     have h2 := at_rounds (charref_next.mono (s.extract (i + 1) s.size) attr true) (show kk ≤ kk + s.size + 610 by omega) hn
     rw [h1] at h2
     rw [← Option.some.inj h2, nextP_eq, hxe]
    have hz := nextL_size (s.data.toList.drop (i + 1)) attr true
    rw [List.length_drop, hl] at hz
    rw [if_pos (hq.2 c2), if_pos (by omega), if_pos (by omega), Int.toNat_natCast, rwhole_f k _ attr (by omega) (by omega), Option.bind_some, hxe]
    rw [← hn2] at hz ⊢
    clear hn hn2
    obtain ⟨q1, q2, q3⟩ := n
    simp only at hz h ⊢
    obtain ⟨m, rfl⟩ : ∃ m : Nat, q2 = m := ⟨q2.toNat, by omega⟩
    rw [if_pos (by omega)] at h
    by_cases hm : m = 0
    ·rw [if_pos (by omega)] at h
     rw [if_neg (by omega)]
     exact parts_refs s attr hs kk (i + 1) refs h (by omega) a k out (by omega) (by omega) (by omega)
    ·rw [if_neg (show ¬ (m : Int) = 0 by omega)] at h
     obtain ⟨t, ht, h⟩ := Option.bind_eq_some_iff.1 h
     have := Option.some.inj h
     subst this
     rw [Int.toNat_natCast] at ht ⊢
     have HW1 := Aside0.mk (show wrap64 (1 + (m : Int)) = 1 + (m : Int) by unfold wrap64; omega)
     have HW2 := Aside0.mk (show wrap64 ((i : Int) + (1 + (m : Int))) = ((i + 1 + m : Nat) : Int) by unfold wrap64; omega)
     have HW3 := Aside0.mk (show wrap64 (((i + 1 : Nat) : Int) + (m : Int)) = ((i + 1 + m : Nat) : Int) by unfold wrap64; omega)
     rw [if_pos (by omega), HW1.out, HW2.out, HW3.out, Int.toNat_natCast, Int.toNat_natCast, Int.toNat_natCast]
     by_cases ca : a < i
     ·rw [if_pos (by omega), if_pos (by omega), if_pos (by omega), if_pos (by omega), if_pos (by omega), Option.bind_some, if_pos (by omega), if_pos (by omega), if_pos (by rw [List.length_append, List.length_singleton]; omega)]
      rw [parts_refs s attr hs kk (i + 1 + m) t ht (by omega) (i + 1 + m) k _ (Nat.le_refl _) (by simp only [List.length_append, List.length_singleton]; omega) (by omega)]
      show _ = some (out ++ (partN s a i ++ partR s (i, q1, m) :: partsOf s (i + 1 + m) t))
      unfold partN partR
      rw [if_pos ca]
      simp
     ·obtain rfl : a = i := by omega
      rw [if_neg (by omega), if_pos (by omega), if_pos (by omega), if_pos (by omega)]
      rw [parts_refs s attr hs kk (a + 1 + m) t ht (by omega) (a + 1 + m) k _ (Nat.le_refl _) (by simp only [List.length_append, List.length_singleton]; omega) (by omega)]
      show _ = some (out ++ (partN s a a ++ partR s (a, q1, m) :: partsOf s (a + 1 + m) t))
      unfold partN partR
      rw [if_neg (by omega)]
      simp
   ·rw [if_neg (fun h => c2 (hq.1 h))] at h
    rw [if_neg (fun h => c2 (hq.1 h))]
    exact parts_refs s attr hs kk (i + 1) refs h (by omega) a k out (by omega) (by omega) (by omega)
  ·rw [if_neg c1] at h
   have := Option.some.inj h
   subst this
   obtain rfl : i = s.size := by omega
   rw [sieveref06_Parts.l0, if_neg (by omega)]
   show _ = some (out ++ partN s a s.size)
   unfold partN
   by_cases c : a < s.size
   ·rw [if_pos (by omega), if_pos (by omega), if_pos (by omega), if_pos (by omega), Int.toNat_natCast, if_pos c]
   ·rw [if_neg (by omega), if_neg c, List.append_nil]

theorem catG_append (g : ByteArray → ByteArray) (a b : List Part) : catG g (a ++ b) = catG g a ++ catG g b := by simp [catG]
theorem catG_partN (g : ByteArray → ByteArray) (s : ByteArray) (a b : Nat) : catG g (partN s a b) = (s.data.toList.drop a).take (b - a) := by
 unfold partN
 by_cases c : a < b
 ·rw [if_pos c]
  simp [catG, extract_list]
 ·rw [if_neg c, show b - a = 0 by omega]
  simp [catG]
theorem catG_parts (g : ByteArray → ByteArray) (s : ByteArray) : ∀ (refs : List Ref3) (a : Nat) (acc : List UInt8),
  acc ++ catG g (partsOf s a refs) = (refs.foldl (repStep g s.data.toList) (a, acc)).2 ++ s.data.toList.drop (refs.foldl (repStep g s.data.toList) (a, acc)).1
 | [], a, acc => by
  show acc ++ catG g (partN s a s.size) = acc ++ s.data.toList.drop a
  rw [catG_partN, List.take_of_length_le (by rw [List.length_drop, size_list]; omega)]
 | x :: t, a, acc => by
  have e : repStep g s.data.toList (a, acc) x = (x.1 + 1 + x.2.2, acc ++ ((s.data.toList.drop a).take (x.1 - a) ++ (g x.2.1).data.toList)) := rfl
  have ec : catG g (partR s x :: partsOf s (x.1 + 1 + x.2.2) t) = (g x.2.1).data.toList ++ catG g (partsOf s (x.1 + 1 + x.2.2) t) := rfl
  rw [List.foldl_cons, e, ← catG_parts g s t, partsOf, catG_append, catG_partN, ec]
  simp only [List.append_assoc]
theorem catG_dg (g : ByteArray → ByteArray) (attr : Bool) (s : ByteArray) (hs : s.size ≤ 35184372088831) (k : Nat) (refs : List Ref3) (h : refsGo attr s k 0 = some refs) : catG g (partsOf s 0 refs) = dgL g attr s.data.toList := by
 have h1 := catG_parts g s refs 0 []
 have h2 := rep_dg g attr s hs k 0 refs h (Nat.zero_le _) 0 [] (Nat.le_refl _)
 rw [h2] at h1
 simpa using h1
theorem filter_parts (s : ByteArray) : ∀ (refs : List Ref3) (a : Nat), (partsOf s a refs).filter (fun p => p.f3) = refs.map (partR s)
 | [], a => by
  show (partN s a s.size).filter _ = []
  unfold partN
  split <;> rfl
 | x :: t, a => by
  have e : (partN s a x.1).filter (fun p : Part => p.f3) = [] := by
   unfold partN
   split <;> rfl
  rw [partsOf, List.filter_append, e, List.nil_append, List.filter_cons_of_pos rfl, filter_parts s t, List.map_cons]
/-- what is said is said by nextL -/
theorem refs_says (attr : Bool) (s : ByteArray) (hs : s.size ≤ 35184372088831) : ∀ (k i : Nat) (refs : List Ref3), refsGo attr s k i = some refs → ∀ x ∈ refs, ∃ l, x.2.1 = (nextL l attr true).1
 | 0, i, refs, h, _, _ => by simp [refsGo] at h
 | k + 1, i, refs, h, x, hx => by
  have hze : (s.extract (i + 1) s.size).size ≤ s.size := by simp
  unfold refsGo at h
  by_cases c1 : i < s.size
  ·rw [if_pos c1] at h
   by_cases c2 : bt s i = 38
   ·rw [if_pos c2] at h
    obtain ⟨n, hn, h⟩ := Option.bind_eq_some_iff.1 h
    have hn2 : n = nextL (s.extract (i + 1) s.size).data.toList attr true := by
     have h1 := next_f (k + s.size + 610) (s.extract (i + 1) s.size) attr true (by omega) (by omega)
     have h2 := at_rounds (charref_next.mono (s.extract (i + 1) s.size) attr true) (show k ≤ k + s.size + 610 by omega) hn
     rw [h1] at h2
     rw [← Option.some.inj h2, nextP_eq]
    by_cases c3 : 0 ≤ n.2.1 ∧ i + 1 + n.2.1.toNat ≤ s.size
    ·rw [if_pos c3] at h
     by_cases c4 : n.2.1 = 0
     ·rw [if_pos c4] at h
      exact refs_says attr s hs k _ refs h x hx
     ·rw [if_neg c4] at h
      obtain ⟨t, ht, h⟩ := Option.bind_eq_some_iff.1 h
      have := Option.some.inj h
      subst this
      rcases List.mem_cons.1 hx with rfl | hx
      ·exact ⟨_, by rw [← hn2]⟩
      ·exact refs_says attr s hs k _ t ht x hx
    ·rw [if_neg c3] at h
     cases h
   ·rw [if_neg c2] at h
    exact refs_says attr s hs k _ refs h x hx
  ·rw [if_neg c1] at h
   have := Option.some.inj h
   subst this
   cases hx
end Go.Proofs.Ythmbbkbmlnaghaa.P
end
section
/-
 charref.Clean: every reference replaced by the plain runes of what it says, and how many there are.
-/
namespace Go.Proofs.Ythmbbkbmlnaghaa.P
open Go.RowKit Go.Shelf Go.Proofs.YthmbbkbmlnaghaaW.PrintWords Go.Proofs.YthmbbkbmlnaghaaW.PrintLast Go.Proofs.YthmbbkbmlnaghaaW.PrintMore
set_option linter.unusedVariables false
set_option linter.unusedSimpArgs false

theorem text_len4 : ∀ xs : List Int, (text xs).length ≤ 4 * xs.length := by
 intro xs
 induction xs with
 | nil => exact Nat.le_refl _
 | cons x t ih =>
  rw [text_cons, List.length_append, List.length_cons]
  have : (Lib.encodeRune x).length ≤ 4 := by
   unfold Lib.encodeRune
   rw [List.length_map]
   exact (Lib.encodeRuneZ_length x).2
  omega
theorem cleanB_len (b : ByteArray) : (cleanB b).data.toList.length ≤ 4 * b.size := by
 show (text ((runes b.data.toList).map plainP)).length ≤ _
 have h1 := text_len4 ((runes b.data.toList).map plainP)
 have h2 := runes_le _ b.data.toList (Nat.le_refl _)
 rw [List.length_map] at h1
 rw [size_list] at h2
 omega
theorem dgL_len32 (attr : Bool) : ∀ (n : Nat) (l : List UInt8), l.length ≤ n → (dgL cleanB attr l).length ≤ 32 * l.length
 | 0, l, h => by
  obtain rfl : l = [] := List.eq_nil_of_length_eq_zero (by omega)
  exact Nat.le_refl _
 | n + 1, [], h => Nat.le_refl _
 | n + 1, b :: t, h => by
  rw [List.length_cons] at h
  rw [dgL_cons, List.length_cons]
  have h1 := dgL_len32 attr n t (by omega)
  split
  ·split
   ·rw [List.length_cons]
    omega
   ·have h2 := dgL_len32 attr n (t.drop (nextL t attr true).2.1.toNat) (by rw [List.length_drop]; omega)
    have h3 := nextL_short t attr true
    rw [List.length_drop] at h2
    rw [List.length_append]
    have h4 := cleanB_len (nextL t attr true).1
    omega
  ·rw [List.length_cons]
   omega

theorem charref_Clean_calls (k : Nat) (s : ByteArray) (attr : Bool) (refs : List Ref3) (w : World) (hs : s.size ≤ 16777216) (hr : refsGo attr (mendS s) k 0 = some refs) :
  Calls Try.prog 15 #[.string s, .bool attr] w fun e w' => e = .returned (.tuple #[.string ⟨(dgL cleanB attr (mendL s.data.toList)).toArray⟩, .int .i64 (refs.length : Nat)]) ∧ Below w.heap.size w w' := by
 have hl : s.data.toList.length = s.size := by simp
 have hml := mendS_list s
 have hmz : (mendS s).size = (mendL s.data.toList).length := by rw [← hml]; simp
 have hm4 := mendL_len4 s.data.toList
 have ht := rep_text cleanB attr (mendS s) (by omega) k refs hr
 have h8 := dgL_len32 attr _ (mendL s.data.toList) (Nat.le_refl _)
 have hlen : (repText cleanB (mendS s).data.toList refs).length ≤ 140737488355328 := by rw [ht, hml]; omega
 have HM := Aside0.mk (utf_Mend.calls s (mendS s) w (by unfold utf_Mend.f; rw [if_pos (by omega)]))
 have HREP := Aside0.mk (fun W => C_replaced_calls k (mendS s) attr cleanB refs W (by omega) hr hlen (fun x hx n b W => Clean1_calls x.2.1 n b W (by
  obtain ⟨l, e⟩ := refs_says attr (mendS s) (by omega) k 0 refs hr x hx
  have := nextL_short l attr true
  rw [e]
  omega)))
 rw [ht, hml] at HREP
 clear hr hlen ht h8
 go_enter Try.func15, Try.ntmps15
 go_wp2_with (first | (go_at_call 33; refine HM.out.mono ?_; rintro e w1 ⟨rfl, hb1⟩) | (go_at_call 40; refine (HREP.out w1).mono ?_; rintro e w2 ⟨rfl, hb2⟩))
 go_ret2
 exact ⟨rfl, hb1.trans (hb2.mono hb1.size)⟩
end Go.Proofs.Ythmbbkbmlnaghaa.P
end
section
/-
 The document's Clean.
-/
namespace Go.Proofs.Ythmbbkbmlnaghaa.P
open Go.RowKit Go.Shelf Go.Proofs.YthmbbkbmlnaghaaW.PrintWords Go.Proofs.YthmbbkbmlnaghaaW.PrintLast Go.Proofs.YthmbbkbmlnaghaaW.PrintMore
set_option linter.unusedVariables false
set_option linter.unusedSimpArgs false

def refsN (ps : List Part) : Nat := (ps.filter fun p => p.f3).length
theorem catG_at (g : ByteArray → ByteArray) (ps : List Part) (i : Nat) (h : i < ps.length) : catG g (ps.take (i + 1)) = catG g (ps.take i) ++ (if ps[i].f3 = true then (g ps[i].f2).data.toList else ps[i].f2.data.toList) := by
 rw [List.take_succ_eq_append_getElem h, catG_append]
 congr 1
 simp [catG]
theorem refsN_at (ps : List Part) (i : Nat) (h : i < ps.length) : refsN (ps.take (i + 1)) = refsN (ps.take i) + (if ps[i].f3 = true then 1 else 0) := by
 unfold refsN
 rw [List.take_succ_eq_append_getElem h, List.filter_append, List.length_append]
 congr 1
 by_cases c : ps[i].f3 = true
 ·rw [if_pos c, List.filter_cons_of_pos c]
  rfl
 ·rw [if_neg c, List.filter_cons_of_neg c]
  rfl
theorem catG_take_le (g : ByteArray → ByteArray) (ps : List Part) (i : Nat) : (catG g (ps.take i)).length ≤ (catG g ps).length := by
 have := congrArg (fun l => (catG g l).length) (List.take_append_drop i ps)
 simp only [catG_append, List.length_append] at this
 omega

set_option maxRecDepth 100000 in
set_option maxHeartbeats 8000000 in
theorem rClean_calls (k : Nat) (s m : ByteArray) (attr : Bool) (ps : List Part) (w : World) (hm : sieveref01_Mend.f s = some m) (hps : sieveref06_Parts.f k m attr = some ps)
  (hval : ∀ p ∈ ps, p.f3 = true → valid p.f2.data.toList = true) (hlen : (catG cleanB ps).length ≤ 1099511627776) (hn : ps.length ≤ 17179869184) :
  Calls Try.prog 16 #[.string s, .bool attr] w fun e w' => e = .returned (.tuple #[.string ⟨(catG cleanB ps).toArray⟩, .int .i64 (refsN ps : Nat)]) ∧ Below w.heap.size w w' := by
 have hu40 := Try.underlying46
 have HB := Aside0.mk (Below.refl w.heap.size w)
 have A3 := Aside0.mk hm
 have A4 := Aside0.mk hps
 have HV := Aside0.mk hval
 clear hm hps hval
 go_enter Try.func16, Try.ntmps16
 go_wp2_with (first | ((with_reducible refine gate_callee (f := 20) rfl ?_); refine goesL_ (some 13) rfl rfl Try.func20 (by kernel_rfl) rfl #[.string s] rfl (by (try simp only [List.map_toArray, List.map_cons, List.map_nil]); first | done | rfl) ?_; (with_reducible refine (sieveref01_Mend.calls s m _ A3.out).mono ?_); rintro e w5 ⟨rfl, hb⟩; refine ⟨_, rfl, ?_⟩; have n0_ := Aside0.mk (below_step (by repeat (first | (with_reducible first | exact HB.out | apply below_alloc | apply pw_below_drewN | apply below_drew1) | exact HB.out)) hb); clear HB; have HB := n0_; clear n0_ hb) | ((with_reducible refine gate_callee (f := 19) rfl ?_); refine goesL_ (some 15) rfl rfl Try.func19 (by kernel_rfl) rfl #[.string m, .bool attr] rfl (by (try simp only [List.map_toArray, List.map_cons, List.map_nil]); first | done | rfl) ?_; (with_reducible refine (sieveref06_Parts.calls k m attr ps _ A4.out).mono ?_); rintro e w6 ⟨v289, rfl, ho0, hb⟩; refine ⟨_, rfl, ?_⟩; have n0_ := Aside0.mk (Kd.R_lower ho0 (below_size (by repeat (first | (with_reducible first | exact HB.out | apply below_alloc | apply pw_below_drewN | apply below_drew1) | exact HB.out)))); have n1_ := Aside0.mk (below_step (by repeat (first | (with_reducible first | exact HB.out | apply below_alloc | apply pw_below_drewN | apply below_drew1) | exact HB.out)) hb); clear HB; have HO0 := n0_; have HB := n1_; clear n0_ n1_ hb ho0; obtain ⟨Ao, co, eo⟩ := Kd.R_slice HO0.out; subst eo))
 go_loopw [6, 7, 17] (fun v6 v7 v17 wr => ∃ (i : Nat) (x : ByteArray), v17 = .int .i64 (i : Nat) ∧ v6 = .string x ∧ v7 = .int .i64 (refsN (ps.take i) : Nat) ∧ i ≤ ps.length ∧ Aside0 (x.data.toList = catG cleanB (ps.take i)) ∧ Aside0 (Kd.R k46 46 wr w.heap.size (fun _ => True) (.slice Ao ps.length co) ps) ∧ Aside0 (Below w.heap.size w wr)) (fun _ _ v17 _ => ps.length - (intOf v17).toNat)
 case atStart => exact ⟨0, ⟨#[]⟩, rfl, rfl, rfl, Nat.zero_le _, ⟨rfl⟩, ⟨by (with_reducible repeat (first | apply Kd.R_alloc | apply Kd.R_drewN | apply Kd.R_drew)); exact HO0.out⟩, ⟨by repeat (first | (with_reducible first | exact HB.out | apply below_alloc | apply pw_below_drewN | apply below_drew1) | exact HB.out)⟩⟩
 case round =>
  obtain ⟨i, x, rfl, rfl, rfl, hi, HX, HO, HBx⟩ := hrel
  by_cases hlt : i < ps.length
  ·have er : rd_T46 ps (i : Int) = ps[i] := by
    unfold rd_T46
    rw [Int.toNat_natCast, List.getD_eq_getElem?_getD, List.getElem?_eq_getElem hlt]
    rfl
   have hl1 : ((i : Int) < (ps.length : Int)) = True := eq_true (by omega)
   have hl2 : ((0 : Int) ≤ (i : Int)) = True := eq_true (by omega)
   have hw1 : IntKind.i64.wrap ((i : Int) + 1) = ((i + 1 : Nat) : Int) := (IntWalk.i64_in _ (by omega)).trans (by omega)
   obtain ⟨ad, e, hx0, hx1, hx2, hx3⟩ := at_T46 (Kd.R_reads' HO.out).2.2 (i : Int) (by omega) (by omega)
   cases e
   have hca := catG_at cleanB ps i hlt
   have hra := refsN_at ps i hlt
   have hta := catG_take_le cleanB ps (i + 1)
   have hmem : ps[i] ∈ ps := List.getElem_mem hlt
   have hvi := HV.out _ hmem
   rw [er, Int.toNat_natCast] at hx0 hx1 hx2 hx3
   clear er hmem
   generalize ps[i] = p at hx0 hx1 hx2 hx3 hca hra hvi
   obtain ⟨f0, f1, f2, f3⟩ := p
   simp only at hx0 hx1 hx2 hx3 hca hra hvi
   cases f3
   ·rw [if_neg (by simp), ← HX.out] at hca
    rw [if_neg (by simp), Nat.add_zero] at hra
    have hsz := congrArg List.length hca
    rw [List.length_append, size_list, size_list] at hsz
    have hbig : (9223372036854775807 < x.size + f2.size) = False := eq_false (by omega)
    have hbig2 : (x.size + f2.size ≤ 9223372036854775807) = True := eq_true (by omega)
    have HCA := Aside0.mk hca
    have HRA := Aside0.mk hra
    clear hca hra hta hvi hsz
    go_wp2_with (first | ((with_reducible refine gate_dst (N := 9) rfl ?_); refine box_event ?hg (N := 9) ?hd (cs := #[.int .i64 0, .string (⟨#[]⟩ : ByteArray), .string (⟨#[]⟩ : ByteArray), .bool false]) (t := 46) ?hr ?_; (case hd => rfl); (case hg => rfl); (case hr => first | (go_simp; done) | (go_simp; rfl)); intro gb hg w12 hbox hb; have HO2 := Aside0.mk (Kd.R_below (Kd.R_elderB (by (with_reducible repeat (first | apply Kd.R_alloc | apply Kd.R_drewN | apply Kd.R_drew)); exact HO.out) gb (Nat.le_of_eq hg.symm)) hb); have HB2 := Aside0.mk (below_step (by repeat (first | (with_reducible first | exact HBx.out | apply below_alloc | apply pw_below_drewN | apply below_drew1) | exact HBx.out)) hb); have BK := Aside0.mk hbox; have GE := Aside0.mk ((by rw [hg]; exact (below_size (by repeat (first | (with_reducible first | exact HBx.out | apply below_alloc | apply pw_below_drewN | apply below_drew1) | exact HBx.out)))) : w.heap.size ≤ gb); clear hb hbox hg; have hcz0 : w12.cell? ⟨gb, 0, none⟩ = some (.int .i64 0) := (blk_cell BK.out 0).trans rfl; have hcz1 : w12.cell? ⟨gb, 1, none⟩ = some (.string (⟨#[]⟩ : ByteArray)) := (blk_cell BK.out 1).trans rfl; have hcz2 : w12.cell? ⟨gb, 2, none⟩ = some (.string (⟨#[]⟩ : ByteArray)) := (blk_cell BK.out 2).trans rfl; have hcz3 : w12.cell? ⟨gb, 3, none⟩ = some (.bool false) := (blk_cell BK.out 3).trans rfl; have hfz0 := blk_frozen BK.out 0; have hfz1 := blk_frozen BK.out 1; have hfz2 := blk_frozen BK.out 2; have hfz3 := blk_frozen BK.out 3))
    refine ⟨⟨i + 1, x ++ f2, ?_, rfl, ?_, by omega, ⟨?_⟩, ⟨?_⟩, ⟨?_⟩⟩, ?_⟩
    ·first | rfl | (simp; done)
    ·rw [HRA.out]; rfl
    ·rw [HCA.out]
     simp
    ·exact (by (with_reducible repeat (first | apply Kd.R_alloc | apply Kd.R_drewN | apply Kd.R_drew)); exact Kd.R_mono (Kd.R_far (p := ⟨gb, 3, none⟩) (Kd.R_far (p := ⟨gb, 2, none⟩) (Kd.R_far (p := ⟨gb, 1, none⟩) (Kd.R_far (p := ⟨gb, 0, none⟩) (Kd.R_mono HO2.out (fun k_ hk => (⟨hk, hk.2⟩ : _ ∧ k_ ≠ gb))) (fun _ hk => hk.2) (.int .i64 f0)) (fun _ hk => hk.2) (.string f1)) (fun _ hk => hk.2) (.string f2)) (fun _ hk => hk.2) (.bool false)) (fun _ hk => trivial))
    ·repeat (first | (with_reducible first | exact HB2.out | apply below_alloc | apply pw_below_drewN | apply below_drew1 | refine below_set ?_ GE.out) | exact HB2.out)
    ·simp only [intOf]
     omega
   ·rw [if_pos rfl, ← HX.out] at hca
    rw [if_pos rfl] at hra
    have HCA := Aside0.mk hca
    have HRA := Aside0.mk hra
    have hv2 := hvi rfl
    have hfl : f2.data.toList.length = f2.size := by simp
    have hw7 : IntKind.i64.wrap (((refsN (ps.take i) : Nat) : Int) + 1) = ((refsN (ps.take i) + 1 : Nat) : Int) := by
     have : refsN (ps.take i) ≤ i := by
      unfold refsN
      have h1 := List.length_filter_le (fun p : Part => p.f3) (ps.take i)
      rw [List.length_take] at h1
      omega
     exact (IntWalk.i64_in _ (by omega)).trans (by omega)
    clear hca hra hvi
    go_wp2_with (first | ((with_reducible refine gate_dst (N := 9) rfl ?_); refine box_event ?hg (N := 9) ?hd (cs := #[.int .i64 0, .string (⟨#[]⟩ : ByteArray), .string (⟨#[]⟩ : ByteArray), .bool false]) (t := 46) ?hr ?_; (case hd => rfl); (case hg => rfl); (case hr => first | (go_simp; done) | (go_simp; rfl)); intro gb hg w12 hbox hb; have HO2 := Aside0.mk (Kd.R_below (Kd.R_elderB (by (with_reducible repeat (first | apply Kd.R_alloc | apply Kd.R_drewN | apply Kd.R_drew)); exact HO.out) gb (Nat.le_of_eq hg.symm)) hb); have HB2 := Aside0.mk (below_step (by repeat (first | (with_reducible first | exact HBx.out | apply below_alloc | apply pw_below_drewN | apply below_drew1) | exact HBx.out)) hb); have BK := Aside0.mk hbox; have GE := Aside0.mk ((by rw [hg]; exact (below_size (by repeat (first | (with_reducible first | exact HBx.out | apply below_alloc | apply pw_below_drewN | apply below_drew1) | exact HBx.out)))) : w.heap.size ≤ gb); clear hb hbox hg; have hcz0 : w12.cell? ⟨gb, 0, none⟩ = some (.int .i64 0) := (blk_cell BK.out 0).trans rfl; have hcz1 : w12.cell? ⟨gb, 1, none⟩ = some (.string (⟨#[]⟩ : ByteArray)) := (blk_cell BK.out 1).trans rfl; have hcz2 : w12.cell? ⟨gb, 2, none⟩ = some (.string (⟨#[]⟩ : ByteArray)) := (blk_cell BK.out 2).trans rfl; have hcz3 : w12.cell? ⟨gb, 3, none⟩ = some (.bool false) := (blk_cell BK.out 3).trans rfl; have hfz0 := blk_frozen BK.out 0; have hfz1 := blk_frozen BK.out 1; have hfz2 := blk_frozen BK.out 2; have hfz3 := blk_frozen BK.out 3))
    have HOW := Aside0.mk (show Kd.R k46 46 ((((w12.setCell ⟨gb, 0, none⟩ (.int .i64 f0)).setCell ⟨gb, 1, none⟩ (.string f1)).setCell ⟨gb, 2, none⟩ (.string f2)).setCell ⟨gb, 3, none⟩ (.bool true)) w.heap.size (fun _ => True) (.slice (some ad) ps.length co) ps from (by (with_reducible repeat (first | apply Kd.R_alloc | apply Kd.R_drewN | apply Kd.R_drew)); exact Kd.R_mono (Kd.R_far (p := ⟨gb, 3, none⟩) (Kd.R_far (p := ⟨gb, 2, none⟩) (Kd.R_far (p := ⟨gb, 1, none⟩) (Kd.R_far (p := ⟨gb, 0, none⟩) (Kd.R_mono HO2.out (fun k_ hk => (⟨hk, hk.2⟩ : _ ∧ k_ ≠ gb))) (fun _ hk => hk.2) (.int .i64 f0)) (fun _ hk => hk.2) (.string f1)) (fun _ hk => hk.2) (.string f2)) (fun _ hk => hk.2) (.bool true)) (fun _ hk => trivial)))
    have HBW := Aside0.mk (show Below w.heap.size w ((((w12.setCell ⟨gb, 0, none⟩ (.int .i64 f0)).setCell ⟨gb, 1, none⟩ (.string f1)).setCell ⟨gb, 2, none⟩ (.string f2)).setCell ⟨gb, 3, none⟩ (.bool true)) by repeat (first | (with_reducible first | exact HB2.out | apply below_alloc | apply pw_below_drewN | apply below_drew1 | refine below_set ?_ GE.out) | exact HB2.out))
    have hzW : ((((w12.setCell ⟨gb, 0, none⟩ (.int .i64 f0)).setCell ⟨gb, 1, none⟩ (.string f1)).setCell ⟨gb, 2, none⟩ (.string f2)).setCell ⟨gb, 3, none⟩ (.bool true)).heap.size = w12.heap.size := by simp
    generalize ((((w12.setCell ⟨gb, 0, none⟩ (.int .i64 f0)).setCell ⟨gb, 1, none⟩ (.string f1)).setCell ⟨gb, 2, none⟩ (.string f2)).setCell ⟨gb, 3, none⟩ (.bool true)) = WA at *
    have hszW := HBW.out.size
    clear hcz0 hcz1 hcz2 hcz3 hfz0 hfz1 hfz2 hfz3 hx0 hx1 hx2 hx3
    go_loopw [6] (fun v6 wi => ∃ (pos : Nat) (y : ByteArray), v6 = .string y ∧ pos ≤ f2.size ∧ Aside0 (y.data.toList ++ text ((runes (f2.data.toList.drop pos)).map plainP) = catG cleanB (ps.take (i + 1))) ∧ Aside0 (valid (f2.data.toList.drop pos) = true) ∧ wi.heap[w12.heap.size]? = some (.stringIter f2 pos) ∧ Aside0 (Below WA.heap.size WA wi)) (fun _ wi => f2.size - wi.iterPos w12.heap.size)
    case atStart =>
     refine ⟨0, x, rfl, Nat.zero_le _, ⟨by rw [List.drop_zero, HCA.out]; rfl⟩, ⟨by rw [List.drop_zero]; exact hv2⟩, ?_, ⟨(Below.refl _ WA).alloc (Nat.le_refl _) _⟩⟩
     have := World.iter_heap WA f2 0
     rw [hzW] at this
     simpa using this
    case round =>
     obtain ⟨pos, y, rfl, hpl, HR, HV2, hit, HBi⟩ := hrel
     by_cases hp : pos < f2.size
     ·have hne : f2.data.toList.drop pos ≠ [] := by rw [ne_eq, List.drop_eq_nil_iff]; omega
      have hd := rdL_decode _ hne
      have hf := rdL_facts _ hne
      have hv := HV2.out
      rw [valid_step _ hne] at hv
      have h0 : (rdL (f2.data.toList.drop pos)).2.2 = 0 := by
       by_cases h0 : (rdL (f2.data.toList.drop pos)).2.2 = 0
       ·exact h0
       ·rw [if_neg h0] at hv
        cases hv
      rw [if_pos h0, List.drop_drop] at hv
      rw [if_pos h0, Lib.decodeL_drop] at hd
      have hrn := runes_step _ hne
      rw [List.drop_drop] at hrn
      have hw1' := hf.1
      have hw2 := hf.2.1
      rw [List.length_drop, hfl] at hw2
      have hg1 : goodR (((rdL (f2.data.toList.drop pos)).1 : Nat) : Int) := runes_good _ (f2.data.toList.drop pos) (Nat.le_refl _) _ (by rw [runes_step _ hne]; exact List.mem_cons_self)
      have hnx : ∀ ty, (Instr.next (.pointer (some ⟨w12.heap.size, 0, none⟩)) true ty).run Try.prog wr = _ := fun ty => Lib.run_next_any_at wr w12.heap.size f2 pos ty hit hp
      rw [hd] at hnx
      simp only at hnx
      generalize rdL (f2.data.toList.drop pos) = q at hd hrn hw1' hw2 hg1 hnx hv
      obtain ⟨q1, q2, q3⟩ := q
      simp only at hd hrn hw1' hw2 hg1 hnx hv
      have HP := Aside0.mk (fun W => sieveref03_Plain.calls 4 _ _ W (rplain_f (q1 : Int) hg1))
      have hR2 := HR.out
      rw [hrn, List.map_cons, text_cons] at hR2
      have hel : (Utf8.encode (plainP (q1 : Int))).data.toList = Lib.encodeRune (plainP (q1 : Int)) := encode_list _
      have hle := congrArg List.length hR2
      have hez := congrArg List.length hel
      simp only [List.length_append, size_list] at hle hez
      have hbig : (9223372036854775807 < y.size + (Utf8.encode (plainP (q1 : Int))).size) = False := eq_false (by omega)
      have hbig2 : (y.size + (Utf8.encode (plainP (q1 : Int))).size ≤ 9223372036854775807) = True := eq_true (by omega)
      have hit2 := Lib.iterAt_heap wr w12.heap.size f2 pos (pos + q2) hit
      have hBy2 := Lib.below_iterAt HBi.out (k := w12.heap.size) (Nat.le_of_eq hzW) f2 (pos + q2)
      generalize hW0 : wr.iterAt w12.heap.size f2 (pos + q2) = W0 at hnx hit2 hBy2
      have HR2 := Aside0.mk hR2
      have HEL := Aside0.mk hel
      have HV3 := Aside0.mk hv
      have HIT2 := Aside0.mk hit2
      have HBY2 := Aside0.mk hBy2
      have HW0 := Aside0.mk hW0
      clear hd hne hf h0 hR2 hel hle hez hv hit2 hBy2 hW0 hrn
      go_wp2_with (first | (go_at_call 43; refine (HP.out _).mono ?_; rintro e w5 ⟨rfl, hd5⟩; obtain ⟨nd, rfl⟩ := hd5.out; clear hd5))
      refine ⟨⟨pos + q2, y ++ Utf8.encode (plainP (q1 : Int)), rfl, by omega, ⟨?_⟩, HV3, HIT2.out, ⟨pw_below_drewN HBY2.out _⟩⟩, ?_⟩
      ·rw [ByteArray.data_append, Array.toList_append, HEL.out, List.append_assoc]
       exact HR2.out
      ·have h3 : (W0.drewN nd).heap[w12.heap.size]? = some (.stringIter f2 (pos + q2)) := HIT2.out
       simp only [World.iterPos, h3, hit]
       omega
     ·obtain rfl : pos = f2.size := by omega
      have hnx : ∀ ty, (Instr.next (.pointer (some ⟨w12.heap.size, 0, none⟩)) true ty).run Try.prog wr = _ := fun ty => Lib.run_next_end_at wr w12.heap.size f2 f2.size ty hit hp
      have hy := HR.out
      rw [List.drop_eq_nil_of_le (Nat.le_of_eq hfl), runes_nil, List.map_nil] at hy
      have HY := Aside0.mk (show y.data.toList = catG cleanB (ps.take (i + 1)) by rw [← hy]; exact (List.append_nil _).symm)
      clear hy
      go_wp2
      refine ⟨⟨i + 1, y, ?_, rfl, ?_, by omega, HY, ⟨Kd.R_below HOW.out HBi.out⟩, ⟨HBW.out.trans (HBi.out.mono hszW)⟩⟩, ?_⟩
      ·first | rfl | (simp; done)
      ·rw [HRA.out]; rfl
      ·simp only [intOf]
       omega
  ·obtain rfl : i = ps.length := by omega
   have hl1 : ((ps.length : Int) < (ps.length : Int)) = False := eq_false (by omega)
   have hxx : x = ⟨(catG cleanB ps).toArray⟩ := by
    have h1 := HX.out
    rw [List.take_length] at h1
    rw [← h1]
   have hrr : refsN (ps.take ps.length) = refsN ps := by rw [List.take_length]
   rw [hrr]
   subst hxx
   go_wp2
   go_ret2
   exact ⟨rfl, HBx.out⟩
end Go.Proofs.Ythmbbkbmlnaghaa.P
end
section
/-
 What a reference says is a valid text.
-/
set_option linter.unusedVariables false
set_option linter.unusedSimpArgs false
namespace Go.Proofs.Ythmbbkbmlnaghaa.P
open Go.RowKit Go.Proofs.YthmbbkbmlnaghaaW.PrintWords Go.Proofs.YthmbbkbmlnaghaaW.PrintLast Go.Proofs.YthmbbkbmlnaghaaW.PrintMore

instance (r : Int) : Decidable (goodR r) := by unfold goodR; infer_instance
theorem ents_good : ∀ x ∈ ents, ∀ r ∈ saysE x, goodR r := by decide +kernel
theorem foldL_good (l : List UInt8) : ∀ (es : List Ent) (acc : Nat × List Int), (∀ x ∈ es, goodsR (saysE x)) → goodsR acc.2 → goodsR (es.foldl (stepL l) acc).2
 | [], acc, _, h => h
 | x :: t, acc, hx, h => by
  rw [List.foldl_cons]
  refine foldL_good l t _ (fun y hy => hx y (List.mem_cons_of_mem _ hy)) ?_
  have h1 := hx x List.mem_cons_self
  unfold stepL
  repeat' split
  all_goals first | exact h | exact h1
theorem longL_good (l : List UInt8) : goodsR (longL l).2 := foldL_good l ents (0, []) (fun x hx => ents_good x hx) (fun r hr => by cases hr)
theorem winL_good : ∀ k : Fin 32, goodR (winL.getD k.val 0) := by decide +kernel
theorem saysF_good (n : Nat) : goodR (saysF (n : Int)).1 := by
 unfold saysF
 by_cases c1 : (n : Int) = 0 ∨ (n : Int) > 1114111 ∨ ((n : Int) ≥ 55296 ∧ (n : Int) ≤ 57343)
 ·rw [if_pos c1]
  decide
 rw [if_neg c1]
 by_cases c2 : (n : Int) ≥ 128 ∧ (n : Int) ≤ 159
 ·rw [if_pos c2]
  exact winL_good ⟨((n : Int) - 128).toNat, by omega⟩
 ·rw [if_neg c2]
  show goodR (n : Int)
  unfold goodR
  omega
theorem numL_good (hex : Bool) (l : List UInt8) : goodR (numL hex l).1 := by
 have h0 : goodR 65533 := by decide
 unfold numL
 repeat' split
 all_goals first | exact h0 | exact saysF_good _
theorem nextL_valid (l : List UInt8) (attr e : Bool) : valid (nextL l attr e).1.data.toList = true := by
 have h0 : valid emp.data.toList = true := by rfl
 have h1 : valid (Hc_text (longL l).2).data.toList = true := by
  have e1 : (Hc_text (longL l).2).data.toList = text (longL l).2 := runesBytes_list _
  rw [e1]
  exact valid_text _ (longL_good l)
 have h2 : ∀ hex ds, valid (Utf8.encode (numL hex ds).1).data.toList = true := by
  intro hex ds
  rw [encode_list]
  have := valid_text [(numL hex ds).1] (fun r hr => by rw [List.mem_singleton.1 hr]; exact numL_good hex ds)
  simpa [text] using this
 unfold nextL numericL namedL
 repeat' split
 all_goals first | exact h0 | exact h1 | exact h2 _ _
end Go.Proofs.Ythmbbkbmlnaghaa.P
end
section
/-
 CharrefDecodes, the plain part: the references of the mended text and the document's parts of it.
-/
namespace Go.Proofs.Ythmbbkbmlnaghaa.P
open Go.RowKit Go.Proofs.YthmbbkbmlnaghaaW.PrintWords Go.Proofs.YthmbbkbmlnaghaaW.PrintLast Go.Proofs.YthmbbkbmlnaghaaW.PrintMore
set_option linter.unusedVariables false
set_option linter.unusedSimpArgs false

theorem bytes_eq {a b : ByteArray} (h : a.data.toList = b.data.toList) : a = b := by
 cases a with
 | mk x =>
  cases b with
  | mk y =>
   congr 1
   exact Array.toList_inj.1 h
theorem mendS_eq (s : ByteArray) : mendS s = ⟨(mendL s.data.toList).toArray⟩ := bytes_eq (mendS_list s)
theorem refsGo_len (attr : Bool) (s : ByteArray) : ∀ (k i : Nat) (refs : List Ref3), refsGo attr s k i = some refs → i ≤ s.size → refs.length ≤ s.size - i
 | 0, i, refs, h, _ => by simp [refsGo] at h
 | k + 1, i, refs, h, hi => by
  unfold refsGo at h
  by_cases c1 : i < s.size
  ·rw [if_pos c1] at h
   by_cases c2 : bt s i = 38
   ·rw [if_pos c2] at h
    obtain ⟨n, hn, h⟩ := Option.bind_eq_some_iff.1 h
    by_cases c3 : 0 ≤ n.2.1 ∧ i + 1 + n.2.1.toNat ≤ s.size
    ·rw [if_pos c3] at h
     by_cases c4 : n.2.1 = 0
     ·rw [if_pos c4] at h
      have := refsGo_len attr s k _ refs h (by omega)
      omega
     ·rw [if_neg c4] at h
      obtain ⟨t, ht, h⟩ := Option.bind_eq_some_iff.1 h
      have := Option.some.inj h
      subst this
      have := refsGo_len attr s k _ t ht c3.2
      rw [List.length_cons]
      omega
    ·rw [if_neg c3] at h
     cases h
   ·rw [if_neg c2] at h
    have := refsGo_len attr s k _ refs h (by omega)
    omega
  ·rw [if_neg c1] at h
   have := Option.some.inj h
   subst this
   exact Nat.zero_le _
theorem partsOf_len (s : ByteArray) : ∀ (refs : List Ref3) (a : Nat), (partsOf s a refs).length ≤ 2 * refs.length + 1
 | [], a => by
  show (partN s a s.size).length ≤ _
  unfold partN
  split <;> simp
 | x :: t, a => by
  have h := partsOf_len s t (x.1 + 1 + x.2.2)
  have h2 : (partN s a x.1).length ≤ 1 := by
   unfold partN
   split <;> simp
  rw [partsOf, List.length_append, List.length_cons, List.length_cons]
  omega
/-- all that the law asks of the references and the parts -/
theorem decodes_plain (s : ByteArray) (attr : Bool) (hs : s.size ≤ 1048576) : ∃ refs : List Ref3, refsGo attr (mendS s) 100000000000 0 = some refs ∧
  sieveref01_Mend.f s = some (mendS s) ∧ sieveref06_Parts.f 100000000000 (mendS s) attr = some (partsOf (mendS s) 0 refs) ∧
  catG cleanB (partsOf (mendS s) 0 refs) = dgL cleanB attr (mendL s.data.toList) ∧ refsN (partsOf (mendS s) 0 refs) = refs.length ∧
  (partsOf (mendS s) 0 refs).filter (fun p => p.f3) = refs.map (partR (mendS s)) ∧
  (∀ p ∈ partsOf (mendS s) 0 refs, p.f3 = true → valid p.f2.data.toList = true) ∧ (catG cleanB (partsOf (mendS s) 0 refs)).length ≤ 1099511627776 ∧ (partsOf (mendS s) 0 refs).length ≤ 17179869184 ∧ refs.length ≤ 4194304 := by
 have hl := size_list s
 have hm4 := mendL_len4 s.data.toList
 have hml := mendS_list s
 have hmz : (mendS s).size = (mendL s.data.toList).length := by rw [← hml]; simp
 obtain ⟨refs, hr⟩ := refs_some attr (mendS s) (by omega) (mendS s).size 0 100000000000 (by omega) (by omega)
 have hrl := refsGo_len attr (mendS s) _ 0 refs hr (Nat.zero_le _)
 have hpl := partsOf_len (mendS s) refs 0
 have hc := catG_dg cleanB attr (mendS s) (by omega) _ refs hr
 rw [hml] at hc
 have h32 := dgL_len32 attr _ (mendL s.data.toList) (Nat.le_refl _)
 have hf := filter_parts (mendS s) refs 0
 refine ⟨refs, hr, ?_, ?_, hc, ?_, hf, ?_, by rw [hc]; omega, by omega, by omega⟩
 ·unfold sieveref01_Mend.f
  rw [if_pos (by omega), mendS_eq]
 ·exact parts_refs (mendS s) attr (by omega) _ 0 refs hr (Nat.zero_le _) 0 100000000000 [] (Nat.le_refl _) (Nat.zero_le _) (by omega)
 ·unfold refsN
  rw [hf, List.length_map]
 ·intro p hp h3
  have hm : p ∈ (partsOf (mendS s) 0 refs).filter (fun p => p.f3) := List.mem_filter.2 ⟨hp, h3⟩
  rw [hf] at hm
  obtain ⟨x, hx, rfl⟩ := List.mem_map.1 hm
  obtain ⟨l, e⟩ := refs_says attr (mendS s) (by omega) _ 0 refs hr x hx
  show valid x.2.1.data.toList = true
  rw [e]
  exact nextL_valid l attr true
end Go.Proofs.Ythmbbkbmlnaghaa.P
end
section
/-
 charref.Refs: what it hands back.
-/
namespace Go.Proofs.Ythmbbkbmlnaghaa.P
open Go.RowKit Go.Shelf Go.Proofs.YthmbbkbmlnaghaaW.PrintWords Go.Proofs.YthmbbkbmlnaghaaW.PrintLast Go.Proofs.YthmbbkbmlnaghaaW.PrintMore
set_option linter.unusedVariables false
set_option linter.unusedSimpArgs false

set_option maxHeartbeats 1000000 in
theorem charref_Refs_calls (s : ByteArray) (attr : Bool) (w : World) :
  Calls Try.prog 21 #[.string s, .bool attr] w fun e w' => e = .returned (.func (.func 46) #[] #[.pointer (some ⟨w.heap.size, 0, none⟩), .pointer (some ⟨w.heap.size + 1, 0, none⟩)]) ∧
   w'.heap[w.heap.size]? = some (.cells #[.string s] 9 (0, 0)) ∧ w'.heap[w.heap.size + 1]? = some (.cells #[.bool attr] 4 (0, 0)) ∧ Below w.heap.size w w' := by
 go_enter Try.func21, Try.ntmps21
 go_wp2
 go_ret
 refine ⟨by first | rfl | simp, ?_, ?_, ?_⟩
 ·first | exact D_alloc_get _ (heap_alloc_new w _) | exact C_alloc_get _ (heap_alloc_new w _)
 ·have := heap_alloc_new (w.alloc (.cells #[.string s] 9)) (.cells #[.bool attr] 4)
  simpa using this
 ·exact ((Below.refl _ w).alloc (Nat.le_refl _) _).alloc (by simp) _
end Go.Proofs.Ythmbbkbmlnaghaa.P
end
section
/-
 charref.each over the literal of Refs' iterator, which may say stop (fenced).
-/
namespace Go.Proofs.Ythmbbkbmlnaghaa.P
open Go.RowKit Go.Shelf Go.Proofs.YthmbbkbmlnaghaaW.PrintWords Go.Proofs.YthmbbkbmlnaghaaW.PrintLast Go.Proofs.YthmbbkbmlnaghaaW.PrintMore
set_option linter.unusedVariables false
set_option linter.unusedSimpArgs false
attribute [local go_sem] Oper.semAt_some

set_option maxRecDepth 100000 in
set_option maxHeartbeats 8000000 in
theorem each_in (n : Nat) (hn1 : 1 ≤ n) (k : Nat) (s : ByteArray) (attr : Bool) (fv : Array Value) (refs : List (Nat × ByteArray × Nat)) (I Ix : List (Nat × ByteArray × Nat) → World → Prop) (w : World)
  (hs : s.size ≤ 35184372088831) (h : refsGo attr s k 0 = some refs)
  (hI : ∀ pre W W', I pre W → Below W.heap.size W W' → I pre W')
  (hdo : ∀ (pre : List (Nat × ByteArray × Nat)) (x : Nat × ByteArray × Nat) (W : World) (b : Bool), I pre W → (∃ post, pre ++ [x] ++ post = refs) → CallsIn Fence.wide (n - 1) Try.prog 48 (#[.int .i64 (x.1 : Nat), .agg #[.string x.2.1, .int .i64 (x.2.2 : Nat), .bool b]] ++ fv) W fun e W' =>
   (e = .returned (.bool true) ∧ I (pre ++ [x]) W' ∧ ∀ (j : Nat) (cs : Array Value), W.heap[j]? = some (Obj.cells cs 88 (0, 0)) → W'.heap[j]? = some (Obj.cells cs 88 (0, 0))) ∨ (e = .returned (.bool false) ∧ Ix (pre ++ [x]) W'))
  (h0 : I [] w) :
  CallsIn Fence.wide n Try.prog 47 #[.string s, .bool attr, .func (.func 48) #[] fv] w fun e w' => e = .returned (.tuple #[]) ∧ (I refs w' ∨ ∃ pre, pre <+: refs ∧ Ix pre w') := by
 have HDO := Aside0.mk hdo
 have HI := Aside0.mk hI
 have HR := Aside0.mk h
 clear hdo
 clear hI
 clear h
 have hu60 := Try.underlying88
 refine callsIn_of_wp Try.func47 rfl trivial ?_ rfl
 simp only [Try.ntmps47, List.size_toArray, List.length_cons, List.length_nil, Nat.reduceAdd, Nat.reduceSub, Array.replicate_succ, Array.replicate_zero, List.push_toArray, List.append_toArray, List.nil_append, List.cons_append]
 gi_wp2
 gi_loopw [6] (fun v wr => ∃ (i kk : Nat) (pre rest : List (Nat × ByteArray × Nat)), v = .int .i64 (i : Nat) ∧ i ≤ s.size ∧ Aside0 (refsGo attr s kk i = some rest) ∧ Aside0 (pre ++ rest = refs) ∧ Aside0 (I pre wr)) (fun v _ => s.size - (intOf v).toNat)
 case atStart => exact ⟨0, k, [], refs, rfl, Nat.zero_le _, HR, ⟨rfl⟩, ⟨h0⟩⟩
 case round =>
  obtain ⟨i, kk, pre, rest, rfl, hi, hrest, hpre, hinv⟩ := hrel
  by_cases hlt : i < s.size
  ·have hl1 : ((i : Int) < (s.size : Int)) = True := eq_true (by omega)
   have hl2 : ((0 : Int) ≤ (i : Int)) = True := eq_true (by omega)
   have hx0 : ∀ h : i < s.size, ((s[i]'h).toNat : Int) = bt s (i : Int) := bt_at s (i : Int)
   have hw1 : IntKind.i64.wrap ((i : Int) + 1) = (i : Int) + 1 := IntWalk.i64_in _ (by omega)
   cases kk with
   | zero => exact absurd hrest.out (by simp [refsGo])
   | succ kk =>
    have hr := hrest.out
    clear hrest
    unfold refsGo at hr
    rw [if_pos hlt] at hr
    by_cases c : bt s (i : Int) = 38
    ·rw [if_pos c] at hr
     obtain ⟨⟨n1, n2, n3⟩, hn, hr⟩ := Option.bind_eq_some_iff.1 hr
     have HN := Aside0.mk hn
     clear hn
     by_cases hb : 0 ≤ n2 ∧ i + 1 + n2.toNat ≤ s.size
     ·rw [if_pos hb] at hr
      obtain ⟨m, rfl⟩ : ∃ m : Nat, n2 = m := ⟨n2.toNat, by omega⟩
      obtain ⟨_, hm⟩ := hb
      simp only [Int.toNat_natCast] at hm hr
      have HRR := Aside0.mk hr
      clear hr
      have kc : (bt s (i : Int) != 38) = false := bne_eq_false_iff_eq.2 c
      have s1 : ((0 : Int) ≤ (i : Int) + 1) = True := eq_true (by omega)
      have s2 : ((i : Int) + 1 ≤ (s.size : Int)) = True := eq_true (by omega)
      have s3 : ((i : Int) + 1).toNat = i + 1 := by omega
      have hw2 : IntKind.i64.wrap (1 + (m : Int)) = 1 + (m : Int) := IntWalk.i64_in _ (by omega)
      have hw3 : IntKind.i64.wrap ((i : Int) + (1 + (m : Int))) = ((i + 1 + m : Nat) : Int) := by rw [IntWalk.i64_in _ (by omega)]; omega
      by_cases hm0 : m = 0
      ·have HM0 := Aside0.mk hm0
       have hrr := HRR.out
       rw [if_pos (by omega)] at hrr
       have HREST := Aside0.mk hrr
       clear hrr
       have g1 : decide ((m : Int) > 0) = false := decide_eq_false (by omega)
       have g2 : decide ((0 : Int) < (m : Int)) = false := decide_eq_false (by omega)
       have g3 : (0 < m) = False := eq_false (by omega)
       have g4 : ((0 : Int) < (m : Int)) = False := eq_false (by omega)
       have hw4 : ((i + 1 + m : Nat) : Int) = ((i + 1 : Nat) : Int) := by omega
       have HW4 := Aside0.mk hw4
       clear hw4 hm0
       gi_wp2_with (first | (refine ⟨trivial, ?_⟩; gi_at_call 66; refine (callsIn_wide.2 (charref_next.calls kk (s.extract (i + 1) s.size) attr true n1 (m : Int) n3 _ HN.out)).mono ?_; rintro e w1 ⟨rfl, hb1⟩; have HB1 := Aside0.mk hb1; clear hb1) | (with_reducible refine ⟨fun f hf => (by cases hf), ?_⟩))
       go_roundw
       case rel => exact ⟨i + 1, kk, pre, rest, by rw [← HW4.out]; rfl, by omega, HREST, hpre, ⟨HI.out pre wr _ hinv.out (HB1.out.alloc HB1.out.size _)⟩⟩
       case measure => simp [intOf]; omega
      ·have hrr := HRR.out
       rw [if_neg (by omega)] at hrr
       obtain ⟨t2, ht2, heq⟩ := Option.bind_eq_some_iff.1 hrr
       have heq := Option.some.inj heq
       have HREST := Aside0.mk ht2
       clear hrr ht2
       have hpre2 : pre ++ [(i, n1, m)] ++ t2 = refs := by rw [← hpre.out, ← heq, List.append_assoc]; rfl
       have HPRE2 := Aside0.mk hpre2
       clear hpre2 heq
       have g1 : decide ((m : Int) > 0) = true := decide_eq_true (by omega)
       have g2 : decide ((0 : Int) < (m : Int)) = true := decide_eq_true (by omega)
       gi_wp2_with (first | (refine ⟨trivial, ?_⟩; gi_at_call 66; refine (callsIn_wide.2 (charref_next.calls kk (s.extract (i + 1) s.size) attr true n1 (m : Int) n3 _ HN.out)).mono ?_; rintro e w1 ⟨rfl, hb1⟩; have HB1 := Aside0.mk hb1; clear hb1) | (refine ⟨trivial, ?_⟩; gi_at_call 48; refine (HDO.out pre (i, n1, m) _ n3 (HI.out pre wr _ hinv.out (HB1.out.alloc HB1.out.size _)) ⟨t2, HPRE2.out⟩).mono ?_))
       rintro e w7 (⟨rfl, hinv7, hk7⟩ | ⟨rfl, hx7⟩)
       case inr =>
        have HX7 := Aside0.mk hx7
        clear hx7
        gi_wp2
        refine bodyPost_ret (results_none rfl _ _ _) rfl ?_
        exact ⟨rfl, .inr ⟨pre ++ [(i, n1, m)], ⟨_, HPRE2.out⟩, HX7.out⟩⟩
       have HINV7 := Aside0.mk hinv7
       have BK7 := Aside0.mk (hk7 w1.heap.size #[.string n1, .int .i64 (m : Nat), .bool n3] (heap_alloc_new w1 _))
       clear hinv7 hk7
       have hcy1 : w7.cell? ⟨w1.heap.size, 1, none⟩ = some (.int .i64 (m : Nat)) := (blk_cell BK7.out 1).trans rfl
       gi_wp2
       go_roundw
       case rel => exact ⟨i + 1 + m, kk, pre ++ [(i, n1, m)], t2, rfl, hm, HREST, HPRE2, HINV7⟩
       case measure => simp [intOf]; omega
     ·rw [if_neg hb] at hr
      cases hr
    ·rw [if_neg c] at hr
     have HREST := Aside0.mk hr
     clear hr
     have kc : (bt s (i : Int) != 38) = true := bne_iff_ne.2 c
     clear c
     gi_wp2
     go_roundw
     case rel => exact ⟨i + 1, kk, pre, rest, rfl, by omega, HREST, hpre, hinv⟩
     case measure => simp [intOf]; omega
  ·have hl1 : ((i : Int) < (s.size : Int)) = False := eq_false (by omega)
   have hrr : rest = [] := by
    have := hrest.out
    cases kk with
    | zero => simp [refsGo] at this
    | succ kk =>
     unfold refsGo at this
     rw [if_neg hlt] at this
     exact (Option.some.inj this).symm
   subst hrr
   have hp := hpre.out
   rw [List.append_nil] at hp
   subst hp
   gi_wp2
   go_end0
   exact ⟨rfl, .inl hinv.out⟩
end Go.Proofs.Ythmbbkbmlnaghaa.P
end
section
/-
 The fenced twin of Hord for a region that draws its order and ends in one call and what is done with its answer: all else only reads.
-/
set_option linter.unusedVariables false
set_option linter.unusedSimpArgs false
namespace Go.Proofs.Ythmbbkbmlnaghaa.P
section
variable {F : Fence} {n : Nat} {P : Program} {ops : Array Oper} {Q : Exit → Act → World → Prop} {md : Region.Mode}

/-- what one operation that only reads does: it yields v into its own slot -/
def Yq (pre us post : List Value) (ds : List Deferred) (OK : Nat → Value → Prop) (i : Nat) (w : World) (a' : Act) (w' : World) : Prop :=
 ∃ v, a' = (Fr pre us post ds).put (some (pre.length + i)) v ∧ OK i v ∧ w' = w
def StepQ (F : Fence) (n : Nat) (P : Program) (md : Region.Mode) (ops : Array Oper) (Q : Exit → Act → World → Prop) (pre post : List Value) (ds : List Deferred) (OK : Nat → Value → Prop) (w : World) (c : Nat) (i : Nat) (o : Oper) : Prop :=
 ∀ (us : List Value), us.length = c + 1 → (∀ d, (o.after.toList.any fun e => decide (e.on = d) && Region.binds md e) = true → OK d (us.getD d undef)) →
  o.guard = none ∧ o.wpIn F n P (Fr pre us post ds) w (Yq pre us post ds OK i w) Q
def chainB (md : Region.Mode) (ops : Array Oper) (n0 c : Nat) : Bool :=
 (List.range (c + 2)).all (fun i => (ops[i]?).any fun o => (decide (c ≤ i) || decide (o.dst = some (n0 + i))) && o.after.all fun e => decide (e.on < i)) &&
 (List.range c).all (fun i => (List.range (c + 1)).any fun j => decide (i < j) && (ops[j]?).any fun o => o.after.any fun e => decide (e.on = i) && Region.binds md e) &&
 ((ops[c + 1]?).any fun o => o.after.any fun e => decide (e.on = c) && Region.binds md e)

theorem getD_any (l : Array Bool) (i : Nat) (h : i < l.size) (b b' : Bool) : l.getD i b = l.getD i b' := by simp [Array.getD, h]
theorem none_ready {listed : Array Bool} (h : ∀ i, i < ops.size → listed.getD i true = true) : Region.ready md ops listed = [] := by
 refine List.eq_nil_iff_forall_not_mem.2 fun i hi => ?_
 obtain ⟨o, ho, hlt, h2, _⟩ := ready_spec hi
 rw [h i hlt] at h2
 cases h2
theorem set_getD (l : Array Bool) (i j : Nat) (h : i < l.size) (b : Bool) : (l.setIfInBounds i true).getD j b = if j = i then true else l.getD j b := by
 rw [Array.getD_eq_getD_getElem?, Array.getD_eq_getD_getElem?]
 by_cases e : j = i
 ·subst e
  rw [if_pos rfl, Array.getElem?_setIfInBounds_self_of_lt h]
  rfl
 ·rw [if_neg e, Array.getElem?_setIfInBounds_ne (Ne.symm e)]
theorem count_set_lt {listed : Array Bool} {i fuel : Nat} (hi : i < listed.size) (h : listed.getD i true = false) (hc : listed.toList.count false ≤ fuel + 1) : (listed.setIfInBounds i true).toList.count false ≤ fuel := by
 have hl : i < listed.toList.length := by simpa using hi
 have e2 : listed.getD i true = listed[i] := by simp [Array.getD, hi]
 have h3 : listed.toList[i] = false := by rw [e2] at h; simpa using h
 have hcs := List.count_set (a := true) (b := false) (l := listed.toList) (i := i) hl
 have hpos : 0 < listed.toList.count false := List.count_pos_iff.2 (by rw [← h3]; exact List.getElem_mem hl)
 rw [Array.toList_setIfInBounds, hcs, h3, if_pos (show (false == false) = true from rfl), if_neg (show ¬ (true == false) = true by decide)]
 omega
theorem count_pos {listed : Array Bool} {i : Nat} (hi : i < listed.size) (h : listed.getD i true = false) : 0 < listed.toList.count false := by
 have e1 : listed.getD i true = listed[i] := by simp [Array.getD, hi]
 rw [e1] at h
 exact List.count_pos_iff.2 (by rw [← h]; simp)

theorem wpAnyIn_call (pre post : List Value) (ds : List Deferred) (OK : Nat → Value → Prop) (w : World) (n0 c : Nat) (hn0 : pre.length = n0) (oc ol : Oper)
  (hsz : ops.size = c + 2) (hoc : ops[c]? = some oc) (hol : ops[c + 1]? = some ol) (hgc : oc.guard = none) (hgl : ol.guard = none)
  (hch : chainB md ops n0 c = true)
  (step : AllSteps (StepQ F n P md ops Q pre post ds OK w c) 0 (ops.toList.take c))
  (fin : ∀ us : List Value, us.length = c + 1 → (∀ j, j < c → OK j (us.getD j undef)) → oc.wpIn F n P (Fr pre us post ds) w (fun a' w' => ol.wpIn F n P a' w' (fun a w => Q .normal a w) Q) Q)
  (us : List Value) (hus : us.length = c + 1) : wpAnyIn F n P md ops Q ops.size (Array.replicate ops.size false) (Fr pre us post ds) w := by
 unfold chainB at hch
 rw [Bool.and_eq_true, Bool.and_eq_true] at hch
 obtain ⟨⟨h1, h2⟩, h3⟩ := hch
 have hA : ∀ (i : Nat) (o : Oper), ops[i]? = some o → (i < c → o.dst = some (pre.length + i)) ∧ ∀ e ∈ o.after, e.on < i := by
  intro i o ho
  have hi : i < ops.size := (Array.getElem?_eq_some_iff.1 ho).1
  have := List.all_eq_true.1 h1 i (List.mem_range.2 (by omega))
  rw [ho] at this
  simp only [Option.any_some, Bool.and_eq_true, Bool.or_eq_true, decide_eq_true_eq, Array.all_eq_true'] at this
  rw [hn0]
  exact ⟨fun hi => this.1.resolve_left (by omega), this.2⟩
 have hB : ∀ i, i < c → ∃ j o, i < j ∧ j ≤ c ∧ ops[j]? = some o ∧ ∃ e ∈ o.after, e.on = i ∧ Region.binds md e = true := by
  intro i hi
  have := List.all_eq_true.1 h2 i (List.mem_range.2 hi)
  obtain ⟨j, hj, h⟩ := List.any_eq_true.1 this
  rw [Bool.and_eq_true, decide_eq_true_eq] at h
  cases ho : ops[j]? with
  | none => rw [ho] at h; simp at h
  | some o =>
   rw [ho] at h
   simp only [Option.any_some, Array.any_eq_true', Bool.and_eq_true, decide_eq_true_eq] at h
   obtain ⟨h4, e, he, h5, h6⟩ := h
   exact ⟨j, o, h4, by have := List.mem_range.1 hj; omega, ho, e, he, h5, h6⟩
 have hC : ∃ e ∈ ol.after, e.on = c ∧ Region.binds md e = true := by
  rw [hol] at h3
  simp only [Option.any_some, Array.any_eq_true', Bool.and_eq_true, decide_eq_true_eq] at h3
  exact h3
 clear h1 h2 h3
 have wc : ∀ x, Region.wanted oc x = true := fun x => by unfold Region.wanted; rw [hgc]
 have wl : ∀ x, Region.wanted ol x = true := fun x => by unfold Region.wanted; rw [hgl]
 -- the invariant: neither of the last two is listed
 have key : ∀ (fuel : Nat) (listed : Array Bool) (us : List Value), us.length = c + 1 → listed.size = c + 2 → listed.toList.count false ≤ fuel →
   listed.getD c true = false → listed.getD (c + 1) true = false →
   (∀ (i : Nat) (o : Oper), ops[i]? = some o → listed.getD i false = true → ∀ e ∈ o.after, Region.binds md e = true → listed.getD e.on false = true) →
   (∀ j, j < c → listed.getD j false = true → OK j (us.getD j undef)) → wpAnyIn F n P md ops Q fuel listed (Fr pre us post ds) w := by
  intro fuel
  induction fuel with
  | zero =>
   intro listed us hus hs hc hl1 _ _ _
   have := count_pos (by omega) hl1
   omega
  | succ fuel ih =>
   intro listed us hus hs hc hl1 hl2 hcl hok
   refine ⟨fun hr => ?_, fun i hi => ?_⟩
   ·have := all_listed (by omega) (fun i o ho => (hA i o ho).2) hr c (by omega)
    rw [getD_any listed c (by omega) false true, hl1] at this
    cases this
   ·obtain ⟨o, ho, hlt, hli, hdep⟩ := ready_spec hi
    have hic : i ≠ c + 1 := by
     rintro rfl
     obtain ⟨e, he, h4, h5⟩ := hC
     have := hdep e (by rw [hol] at ho; cases ho; exact he) h5
     rw [h4, getD_any listed c (by omega) false true, hl1] at this
     cases this
    unfold wpOpIn
    rw [ho]
    simp only
    by_cases hc2 : i = c
    ·subst hc2
     rw [hoc] at ho
     cases ho
     rw [if_pos (wc _)]
     have hall : ∀ k j, j + k = i → 0 < k → listed.getD j false = true := by
      intro k
      induction k using Nat.strongRecOn with
      | _ k ihk =>
       intro j hj hk
       obtain ⟨j2, o2, h4, h5, ho2, e, he, h6, h7⟩ := hB j (by omega)
       by_cases e2 : j2 = i
       ·subst e2
        rw [hoc] at ho2
        cases ho2
        have := hdep e he h7
        rwa [h6] at this
       ·have h8 := ihk (i - j2) (by omega) j2 (by omega) (by omega)
        have := hcl j2 o2 ho2 h8 e he h7
        rwa [h6] at this
     refine Oper.wpIn_mono ?_ (fin us hus fun j hj => hok j hj (hall (i - j) j (by omega) (by omega)))
     intro a' w' h
     -- one is left
     have hcn := count_set_lt (by omega) hl1 hc
     have hs2 : (listed.setIfInBounds i true).size = i + 2 := by simpa using hs
     have hl3 : (listed.setIfInBounds i true).getD (i + 1) true = false := by rw [set_getD _ _ _ (by omega), if_neg (by omega)]; exact hl2
     have hpos := count_pos (by omega) hl3
     obtain ⟨f2, rfl⟩ : ∃ f2, fuel = f2 + 1 := ⟨fuel - 1, by omega⟩
     refine ⟨fun hr => ?_, fun k hk => ?_⟩
     ·have := all_listed (by omega) (fun i o ho => (hA i o ho).2) hr (i + 1) (by omega)
      rw [getD_any _ (i + 1) (by omega) false true, hl3] at this
      cases this
     ·obtain ⟨o3, ho3, hlt3, hli3, hdep3⟩ := ready_spec hk
      have hk1 : k = i + 1 := by
       rcases Nat.lt_or_ge k i with h9 | h9
       ·rw [set_getD _ _ _ (by omega), if_neg (by omega)] at hli3
        have := hall (i - k) k (by omega) (by omega)
        rw [getD_any listed k (by omega) false true, hli3] at this
        cases this
       ·by_cases e5 : k = i
        ·rw [set_getD _ _ _ (by omega), if_pos e5] at hli3
         cases hli3
        ·omega
      subst hk1
      rw [hol] at ho3
      cases ho3
      unfold wpOpIn
      rw [hol]
      simp only
      rw [if_pos (wl _)]
      refine Oper.wpIn_mono ?_ h
      intro a2 w2 h2
      refine wpAnyIn_done (none_ready fun j hj => ?_) h2 _
      rw [set_getD _ _ _ (by omega), set_getD _ _ _ (by omega)]
      by_cases e6 : j = i + 1
      ·rw [if_pos e6]
      ·rw [if_neg e6]
       by_cases e7 : j = i
       ·rw [if_pos e7]
       ·rw [if_neg e7, ← getD_any listed j (by omega) false true]
        exact hall (i - j) j (by omega) (by omega)
    ·have hilt : i < c := by omega
     have hd := (hA i o ho).1 hilt
     have st := AllSteps.at _ 0 i o step (by rw [List.getElem?_take, if_pos hilt, Array.getElem?_toList]; exact ho)
     rw [Nat.zero_add] at st
     obtain ⟨hg, st⟩ := st us hus (fun d hd => by
      obtain ⟨e, he, h4⟩ := List.any_eq_true.1 hd
      have he : e ∈ o.after := Array.mem_toList_iff.1 he
      rw [Bool.and_eq_true, decide_eq_true_eq] at h4
      obtain ⟨rfl, hb⟩ := h4
      exact hok e.on (by have := (hA i o ho).2 e he; omega) (hdep e he hb))
     have hw : Region.wanted o (yielded ops (Fr pre us post ds).tmps) = true := by unfold Region.wanted; rw [hg]
     rw [if_pos hw]
     refine Oper.wpIn_mono ?_ st
     rintro a' w' ⟨v, rfl, hv, rfl⟩
     rw [Fr_put pre us post ds i (by omega) v]
     refine ih _ _ (by simpa using hus) (by simpa using hs) (count_set_lt (by omega) hli hc) ?_ ?_ ?_ ?_
     ·rw [set_getD _ _ _ (by omega), if_neg (by omega)]; exact hl1
     ·rw [set_getD _ _ _ (by omega), if_neg (by omega)]; exact hl2
     ·intro j oj hoj hlj e he hb
      rw [set_getD _ _ _ (by omega)] at hlj ⊢
      by_cases e8 : e.on = i
      ·rw [if_pos e8]
      ·rw [if_neg e8]
       by_cases e9 : j = i
       ·subst e9
        rw [ho] at hoj
        cases hoj
        exact hdep e he hb
       ·rw [if_neg e9] at hlj
        exact hcl j oj hoj hlj e he hb
     ·intro j hj hlj
      by_cases hji : j = i
      ·subst hji
       rw [List.getD_eq_getElem?_getD, List.getElem?_set_self (by omega)]
       exact hv
      ·have e1 : (us.set i v).getD j undef = us.getD j undef := by
        rw [List.getD_eq_getElem?_getD, List.getD_eq_getElem?_getD, List.getElem?_set_ne (Ne.symm hji)]
       rw [e1]
       refine hok j hj ?_
       rwa [set_getD _ _ _ (by omega), if_neg hji] at hlj
 have hz : ∀ i b, i < c + 2 → (Array.replicate ops.size false).getD i b = false := by
  intro i b hi
  rw [Array.getD_eq_getD_getElem?, Array.getElem?_replicate, if_pos (by omega)]
  rfl
 refine key _ _ us hus (by simp [hsz]) (by simp) (hz c _ (by omega)) (hz (c + 1) _ (by omega)) ?_ ?_
 ·intro i o ho hl
  rw [hz i _ (by have := (Array.getElem?_eq_some_iff.1 ho).1; omega)] at hl
  cases hl
 ·intro j hj hl
  rw [hz j _ (by omega)] at hl
  cases hl
end
end Go.Proofs.Ythmbbkbmlnaghaa.P
end
section
/-
 The literal in charref.Refs' iterator: it hands a reference on to the loop that ranges over the iterator.
-/
namespace Go.Proofs.Ythmbbkbmlnaghaa.P
open Go.RowKit Go.Shelf Go.Proofs.YthmbbkbmlnaghaaW.PrintWords Go.Proofs.YthmbbkbmlnaghaaW.PrintLast Go.Proofs.YthmbbkbmlnaghaaW.PrintMore
set_option linter.unusedVariables false
set_option linter.unusedSimpArgs false
attribute [local go_sem] Oper.semAt_some

/-- what each operation has yielded -/
def rfOK (l : Nat) (s : ByteArray) (g at_ m : Nat) : Nat → Value → Prop
 | 0, u => u = .func (.yield l) #[] #[]
 | 1, u => u = .int .i64 (at_ : Nat)
 | 2, u => u = .string s
 | 3, u => u = .int .i64 (at_ : Nat)
 | 4, u => u = .int .i64 (at_ : Nat)
 | 5, u => u = .int .i64 ((at_ + 1 : Nat) : Int)
 | 6, u => u = .pointer (some ⟨g, 1, none⟩)
 | 7, u => u = .int .i64 (m : Nat)
 | 8, u => u = .int .i64 ((at_ + 1 + m : Nat) : Int)
 | 9, u => u = .string (s.extract at_ (at_ + 1 + m))
 | _ + 10, _ => True
theorem list11 (us : List Value) (h : us.length = 10 + 1) : ∃ x0 x1 x2 x3 x4 x5 x6 x7 x8 x9 x10, us = [x0, x1, x2, x3, x4, x5, x6, x7, x8, x9, x10] := by
 match us, h with
 | [x0, x1, x2, x3, x4, x5, x6, x7, x8, x9, x10], _ => exact ⟨_, _, _, _, _, _, _, _, _, _, _, rfl⟩

theorem vq {o : Oper} {a : Act} {w w' : World} {n : Nat} {P : Program} {next : Act → World → Prop} {Q : Exit → Act → World → Prop} (v : Value) (h : (execOp a.eval o).run P w = .ok (.value v) w') (K : next (a.put o.dst v) w') :
  o.wpIn Fence.wide n P a w next Q := ⟨fun _ _ => trivial, by
 rw [show o.semAt Fence.wide.round a.eval = execOp a.eval o from rfl, h]
 exact K⟩

theorem vq_rnd {o : Oper} {a : Act} {w : World} {n : Nat} {P : Program} {next : Act → World → Prop} {Q : Exit → Act → World → Prop} {l : Nat} {fn : FuncId} {tmps : Array Value} {assign body : Code}
  (h : (execOp a.eval o).run P w = .ok (.round l fn tmps assign body) w) (hn : 1 ≤ n)
  (K : RoundIn Fence.wide (n - 1) P l fn tmps assign body w fun e w'' => ∃ v, e = .returned v ∧ next (a.put o.dst v) w'') : o.wpIn Fence.wide n P a w next Q := ⟨fun _ _ => trivial, by
 rw [show o.semAt Fence.wide.round a.eval = execOp a.eval o from rfl, h, Oper.uponIn_round]
 refine ⟨fun _ => hn, K.mono ?_⟩
 rintro e w2 ⟨v, rfl, hv⟩
 exact hv⟩
section
variable {N : Option Tmp} {ty : TypeId} {pos : String} {af : Array Edge} {g : Option (Nat × Bool)} {a : Act} {w : World}
theorem vq_load {p : Addr} {v : Value} {t : TypeId} {x : Operand} (hx : a.eval x = .pointer (some p)) (hc : w.cell? p = some v) (h1 : ∀ w, (isAgg t).run Try.prog w = .ok false w) :
  (execOp a.eval { dst := N, op := .load t x, type := ty, pos := pos, after := af, guard := g }).run Try.prog w = .ok (.value v) w := by
 unfold execOp
 simp only [hx]
 go_simp
theorem vq_add {m n k : Int} {x y : Operand} {rt : TypeId} (hx : a.eval x = .int .i64 m) (hy : a.eval y = .int .i64 n) (hk : IntKind.i64.wrap (m + n) = k) :
  (execOp a.eval { dst := N, op := .binOp .add 3 x y rt, type := ty, pos := pos, after := af, guard := g }).run Try.prog w = .ok (.value (.int .i64 k)) w := by
 have hu := Try.underlying3
 unfold execOp
 simp only [hx, hy]
 go_simp
theorem vq_field {b : Nat} {x : Operand} (hx : a.eval x = .pointer (some ⟨b, 0, none⟩)) :
  (execOp a.eval { dst := N, op := .fieldAddr 88 x 1, type := ty, pos := pos, after := af, guard := g }).run Try.prog w = .ok (.value (.pointer (some ⟨b, 1, none⟩))) w := by
 have hu := Try.underlying88
 unfold execOp
 simp only [hx]
 go_simp
theorem vq_slice {s : ByteArray} {i j : Nat} {x y z : Operand} (hx : a.eval x = .string s) (hy : a.eval y = .int .i64 (i : Nat)) (hz : a.eval z = .int .i64 (j : Nat)) (hij : i ≤ j) (hj : j ≤ s.size) :
  (execOp a.eval { dst := N, op := .slice 9 x (some y) (some z) none, type := ty, pos := pos, after := af, guard := g }).run Try.prog w = .ok (.value (.string (s.extract i j))) w := by
 have hu := Try.underlying9
 have k1 : ((0 : Int) ≤ (i : Int)) = True := eq_true (by omega)
 have k2 : ((i : Int) ≤ (j : Int)) = True := eq_true (by omega)
 have k3 : ((j : Int) ≤ (s.size : Int)) = True := eq_true (by omega)
 unfold execOp
 simp only [Option.map_some, Option.map_none, hx, hy, hz]
 go_simp
theorem vq_yield {ρ : Operand → Value} {l : Nat} {fn : FuncId} {tmps : Array Value} {assign body : Code} {v1 v2 : Value} {f x y : Operand} {at_ : Array TypeId} (hf : ρ f = .func (.yield l) #[] #[]) (hx : ρ x = v1) (hy : ρ y = v2)
  (hr : (Instr.yield l #[v1, v2]).run Try.prog w = .ok (.round l fn tmps assign body) w) :
  (execOp ρ { dst := N, op := .call { callee := .value f, args := #[x, y], argTypes := at_ }, type := ty, pos := pos, after := af, guard := g }).run Try.prog w = .ok (.round l fn tmps assign body) w := by
 unfold execOp
 simp only [resolve, hf, hx, hy, List.map_toArray, List.map_cons, List.map_nil]
 simp [go_sem, invoke, hr]
end

set_option maxRecDepth 100000 in
set_option maxHeartbeats 4000000 in
theorem refs11_in (n : Nat) (hn : 1 ≤ n) (l By Bs : Nat) (s : ByteArray) (at_ m : Nat) (f1 : ByteArray) (b : Bool) (W : World) (R : Ending → World → Prop) (hs : s.size ≤ 35184372088831) (hm : at_ + 1 + m ≤ s.size)
  (hby : W.cell? ⟨By, 0, none⟩ = some (.func (.yield l) #[] #[])) (hbs : W.cell? ⟨Bs, 0, none⟩ = some (.string s))
  (hY : ∀ W', Below W.heap.size W W' → YieldAt Fence.wide (n - 1) Try.prog l #[.int .i64 (at_ : Nat), .string (s.extract at_ (at_ + 1 + m))] W' fun e W2 => ∃ t, e = .returned (.bool t) ∧ R e W2) :
  CallsIn Fence.wide n Try.prog 48 (#[.int .i64 (at_ : Nat), .agg #[.string f1, .int .i64 (m : Nat), .bool b]] ++ #[.pointer (some ⟨By, 0, none⟩), .pointer (some ⟨Bs, 0, none⟩)]) W R := by
 have HY := Aside0.mk hY
 clear hY
 refine callsIn_of_wp Try.func48 rfl trivial ?_ rfl
 simp only [Try.ntmps48, List.size_toArray, List.length_cons, List.length_nil, Nat.reduceAdd, Nat.reduceSub, Array.replicate_succ, Array.replicate_zero, List.push_toArray, List.append_toArray, List.nil_append, List.cons_append]
 gi_wp2
 refine wpIn_region_any rfl ?_
 have hB1 : Below W.heap.size W { (W.alloc (.cells #[.string f1, .int .i64 (m : Nat), .bool b] 88)) with drawn := (W.alloc (.cells #[.string f1, .int .i64 (m : Nat), .bool b] 88)).drawn + 1 } := below_drew ((Below.refl _ W).alloc (Nat.le_refl _) _)
 have c1 := (hB1.cell (p := ⟨By, 0, none⟩) (World.block_lt_of_cell? _ _ hby)).trans hby
 have c2 := (hB1.cell (p := ⟨Bs, 0, none⟩) (World.block_lt_of_cell? _ _ hbs)).trans hbs
 have hgb := heap_alloc_new W (.cells #[.string f1, .int .i64 (m : Nat), .bool b] 88)
 have c3 : World.cell? { (W.alloc (.cells #[.string f1, .int .i64 (m : Nat), .bool b] 88)) with drawn := (W.alloc (.cells #[.string f1, .int .i64 (m : Nat), .bool b] 88)).drawn + 1 } ⟨W.heap.size, 1, none⟩ = some (.int .i64 (m : Nat)) := (blk_cell (w := { (W.alloc (.cells #[.string f1, .int .i64 (m : Nat), .bool b] 88)) with drawn := (W.alloc (.cells #[.string f1, .int .i64 (m : Nat), .bool b] 88)).drawn + 1 }) hgb 1).trans rfl
 generalize { (W.alloc (.cells #[.string f1, .int .i64 (m : Nat), .bool b] 88)) with drawn := (W.alloc (.cells #[.string f1, .int .i64 (m : Nat), .bool b] 88)).drawn + 1 } = W1 at hB1 c1 c2 c3 ⊢
 clear hgb
 rename_i K hK
 refine wpAnyIn_call (pre := [.int .i64 (at_ : Nat), .agg #[.string f1, .int .i64 (m : Nat), .bool b], .pointer (some ⟨By, 0, none⟩), .pointer (some ⟨Bs, 0, none⟩), undef, .pointer (some ⟨W.heap.size, 0, none⟩), .bool false]) (post := []) (ds := []) (OK := rfOK l s W.heap.size at_ m) _ 7 10 rfl _ _ rfl rfl rfl rfl rfl (by decide +kernel) ?step ?fin [_, _, _, _, _, _, _, _, _, _, _] rfl
 case step =>
  refine ⟨?_, ?_, ?_, ?_, ?_, ?_, ?_, ?_, ?_, ?_, trivial⟩
  ·intro us hus hdep
   obtain ⟨x0, x1, x2, x3, x4, x5, x6, x7, x8, x9, x10, rfl⟩ := list11 us hus
   refine ⟨rfl, ?_⟩
   exact vq (.func (.yield l) #[] #[]) (vq_load rfl c1 Try.isAgg91) ⟨_, rfl, rfl, rfl⟩
  ·intro us hus hdep
   obtain ⟨x0, x1, x2, x3, x4, x5, x6, x7, x8, x9, x10, rfl⟩ := list11 us hus
   refine ⟨rfl, ?_⟩
   exact vq (.int .i64 (at_ : Nat)) rfl ⟨_, rfl, rfl, rfl⟩
  ·intro us hus hdep
   obtain ⟨x0, x1, x2, x3, x4, x5, x6, x7, x8, x9, x10, rfl⟩ := list11 us hus
   refine ⟨rfl, ?_⟩
   exact vq (.string s) (vq_load rfl c2 Try.isAgg9) ⟨_, rfl, rfl, rfl⟩
  ·intro us hus hdep
   obtain ⟨x0, x1, x2, x3, x4, x5, x6, x7, x8, x9, x10, rfl⟩ := list11 us hus
   refine ⟨rfl, ?_⟩
   exact vq (.int .i64 (at_ : Nat)) rfl ⟨_, rfl, rfl, rfl⟩
  ·intro us hus hdep
   obtain ⟨x0, x1, x2, x3, x4, x5, x6, x7, x8, x9, x10, rfl⟩ := list11 us hus
   refine ⟨rfl, ?_⟩
   exact vq (.int .i64 (at_ : Nat)) rfl ⟨_, rfl, rfl, rfl⟩
  ·intro us hus hdep
   obtain ⟨x0, x1, x2, x3, x4, x5, x6, x7, x8, x9, x10, rfl⟩ := list11 us hus
   obtain rfl : x4 = _ := hdep 4 rfl
   refine ⟨rfl, ?_⟩
   exact vq (.int .i64 ((at_ + 1 : Nat) : Int)) (vq_add (m := (at_ : Int)) (n := 1) rfl rfl (by rw [IntWalk.i64_in _ (by omega)]; omega)) ⟨_, rfl, rfl, rfl⟩
  ·intro us hus hdep
   obtain ⟨x0, x1, x2, x3, x4, x5, x6, x7, x8, x9, x10, rfl⟩ := list11 us hus
   refine ⟨rfl, ?_⟩
   exact vq (.pointer (some ⟨W.heap.size, 1, none⟩)) (vq_field rfl) ⟨_, rfl, rfl, rfl⟩
  ·intro us hus hdep
   obtain ⟨x0, x1, x2, x3, x4, x5, x6, x7, x8, x9, x10, rfl⟩ := list11 us hus
   obtain rfl : x6 = _ := hdep 6 rfl
   refine ⟨rfl, ?_⟩
   exact vq (.int .i64 (m : Nat)) (vq_load rfl c3 Try.isAgg3) ⟨_, rfl, rfl, rfl⟩
  ·intro us hus hdep
   obtain ⟨x0, x1, x2, x3, x4, x5, x6, x7, x8, x9, x10, rfl⟩ := list11 us hus
   obtain rfl : x5 = _ := hdep 5 rfl
   obtain rfl : x7 = _ := hdep 7 rfl
   refine ⟨rfl, ?_⟩
   exact vq (.int .i64 ((at_ + 1 + m : Nat) : Int)) (vq_add (m := ((at_ + 1 : Nat) : Int)) (n := (m : Int)) rfl rfl (by rw [IntWalk.i64_in _ (by omega)]; omega)) ⟨_, rfl, rfl, rfl⟩
  ·intro us hus hdep
   obtain ⟨x0, x1, x2, x3, x4, x5, x6, x7, x8, x9, x10, rfl⟩ := list11 us hus
   obtain rfl : x2 = _ := hdep 2 rfl
   obtain rfl : x3 = _ := hdep 3 rfl
   obtain rfl : x8 = _ := hdep 8 rfl
   refine ⟨rfl, ?_⟩
   exact vq (.string (s.extract at_ (at_ + 1 + m))) (vq_slice rfl rfl rfl (by omega) hm) ⟨_, rfl, rfl, rfl⟩
 case fin =>
  intro us hus hok
  obtain ⟨x0, x1, x2, x3, x4, x5, x6, x7, x8, x9, x10, rfl⟩ := list11 us hus
  obtain rfl : x0 = _ := hok 0 (by decide)
  obtain rfl : x1 = _ := hok 1 (by decide)
  obtain rfl : x9 = _ := hok 9 (by decide)
  obtain ⟨fn, tmps, assign, body, hy, hR⟩ := HY.out W1 hB1
  refine vq_rnd (vq_yield rfl rfl rfl hy) hn (hR.mono ?_)
  rintro e W2 ⟨t, rfl, hR2⟩
  refine ⟨_, rfl, vq (.bool t) rfl ?_⟩
  show K { tmps := #[.int .i64 (at_ : Nat), .agg #[.string f1, .int .i64 (m : Nat), .bool b], .pointer (some ⟨By, 0, none⟩), .pointer (some ⟨Bs, 0, none⟩), undef, .pointer (some ⟨W.heap.size, 0, none⟩), .bool t, .func (.yield l) #[] #[], .int .i64 (at_ : Nat), x2, x3, x4, x5, x6, x7, x8, .string (s.extract at_ (at_ + 1 + m)), .bool t], defers := [] } W2
  refine hK _ _ ?_
  gi_wp2
  exact hR2
end Go.Proofs.Ythmbbkbmlnaghaa.P
end
section
/-
 charref.Refs' iterator: the references of the mended text, one by one, for every loop that keeps the iterator's own cells.
-/
namespace Go.Proofs.Ythmbbkbmlnaghaa.P
open Go.RowKit Go.Shelf Go.Proofs.YthmbbkbmlnaghaaW.PrintWords Go.Proofs.YthmbbkbmlnaghaaW.PrintLast Go.Proofs.YthmbbkbmlnaghaaW.PrintMore
set_option linter.unusedVariables false
set_option linter.unusedSimpArgs false
attribute [local go_sem] Oper.semAt_some

theorem roundIn_any {F : Fence} (hd : F.depth = none) {m m' : Nat} {P : Program} {l : Nat} {f : FuncId} {tmps : Array Value} {assign body : Code} {w : World} {R : Ending → World → Prop}
  (h : RoundIn F m P l f tmps assign body w R) : RoundIn F m' P l f tmps assign body w R := ⟨h.1, fun c cs _ => h.2 c cs (fun d h => by rw [hd] at h; cases h)⟩
theorem yieldAt_any {F : Fence} (hd : F.depth = none) {m : Nat} (m' : Nat) {P : Program} {l : Nat} {args : Array Value} {W : World} {R : Ending → World → Prop} (h : YieldAt F m P l args W R) : YieldAt F m' P l args W R := by
 obtain ⟨fn, tmps, assign, body, hy, hR⟩ := h
 exact ⟨fn, tmps, assign, body, hy, roundIn_any hd hR⟩
theorem yieldAt_mono {F : Fence} {m : Nat} {P : Program} {l : Nat} {args : Array Value} {W : World} {R R' : Ending → World → Prop} (h : YieldAt F m P l args W R) (hR' : ∀ e w, R e w → R' e w) : YieldAt F m P l args W R' := by
 obtain ⟨fn, tmps, assign, body, hy, hR⟩ := h
 exact ⟨fn, tmps, assign, body, hy, hR.mono hR'⟩

/-- a reference as the loop has it: its place, its text -/
def prR (m : ByteArray) (x : Ref3) : Nat × ByteArray := (x.1, m.extract x.1 (x.1 + 1 + x.2.2))
/-- what a round keeps: the iterator's own cells, by their types -/
def KpR (W W' : World) : Prop := ∀ (k : Nat) (cs : Array Value) (T : TypeId), T = 88 ∨ T = 91 ∨ T = 9 → W.heap[k]? = some (.cells cs T (0, 0)) → W'.heap[k]? = some (.cells cs T (0, 0))
theorem KpR.trans {A B C : World} (h : KpR A B) (k : KpR B C) : KpR A C := fun i cs T hT hi => k i cs T hT (h i cs T hT hi)
theorem KpR.below {A B : World} (h : Below A.heap.size A B) : KpR A B := fun i cs T _ hi => (h.block i (Array.getElem?_eq_some_iff.1 hi).1).trans hi
theorem refsGo_in (attr : Bool) (s : ByteArray) : ∀ (k i : Nat) (refs : List Ref3), refsGo attr s k i = some refs → ∀ x ∈ refs, x.1 + 1 + x.2.2 ≤ s.size
 | 0, i, refs, h => by simp [refsGo] at h
 | k + 1, i, refs, h => by
  unfold refsGo at h
  by_cases c1 : i < s.size
  ·rw [if_pos c1] at h
   by_cases c2 : bt s i = 38
   ·rw [if_pos c2] at h
    obtain ⟨n, hn, h⟩ := Option.bind_eq_some_iff.1 h
    by_cases c3 : 0 ≤ n.2.1 ∧ i + 1 + n.2.1.toNat ≤ s.size
    ·rw [if_pos c3] at h
     by_cases c4 : n.2.1 = 0
     ·rw [if_pos c4] at h
      exact refsGo_in attr s k _ refs h
     ·rw [if_neg c4] at h
      obtain ⟨t, ht, h⟩ := Option.bind_eq_some_iff.1 h
      have := Option.some.inj h
      subst this
      intro x hx
      rcases List.mem_cons.1 hx with rfl | hx
      ·exact c3.2
      ·exact refsGo_in attr s k _ t ht x hx
    ·rw [if_neg c3] at h
     cases h
   ·rw [if_neg c2] at h
    exact refsGo_in attr s k _ refs h
  ·rw [if_neg c1] at h
   have := Option.some.inj h
   subst this
   intro x hx
   cases hx

set_option maxRecDepth 100000 in
set_option maxHeartbeats 4000000 in
theorem refs1_in (n : Nat) (hn : 3 ≤ n) (k l Bs Ba : Nat) (s : ByteArray) (attr : Bool) (refs : List Ref3) (hs : s.size ≤ 1099511627776) (hr : refsGo attr (mendS s) k 0 = some refs) (J Jx : List (Nat × ByteArray) → World → Prop)
  (hJd : ∀ p W W', J p W → Below W.heap.size W W' → J p W')
  (hY : ∀ pre (x : Nat × ByteArray) W, J pre W → pre.length < refs.length → YieldAt Fence.wide (n - 1) Try.prog l #[.int .i64 (x.1 : Nat), .string x.2] W fun e W' =>
   (e = .returned (.bool true) ∧ J (pre ++ [x]) W' ∧ KpR W W') ∨ (e = .returned (.bool false) ∧ Jx (pre ++ [x]) W'))
  (W : World) (hbs : W.heap[Bs]? = some (.cells #[.string s] 9 (0, 0))) (hba : W.heap[Ba]? = some (.cells #[.bool attr] 4 (0, 0))) (h0 : J [] W) :
  CallsIn Fence.wide n Try.prog 46 #[.func (.yield l) #[] #[], .pointer (some ⟨Bs, 0, none⟩), .pointer (some ⟨Ba, 0, none⟩)] W fun e W' => (∃ v, e = .returned v) ∧
   ((∃ ys, ys = refs.map (prR (mendS s)) ∧ J ys W') ∨ (∃ pre, pre <+: refs.map (prR (mendS s)) ∧ Jx pre W')) := by
 have hn1 : 1 ≤ n := by omega
 have HY := Aside0.mk hY
 have HJd := Aside0.mk hJd
 have HR := Aside0.mk hr
 have hml := mendS_list s
 have hmz : (mendS s).size = (mendL s.data.toList).length := by rw [← hml]; simp
 have hm4 := mendL_len4 s.data.toList
 have hsl : s.data.toList.length = s.size := by simp
 have HIN := Aside0.mk (refsGo_in attr (mendS s) k 0 refs hr)
 have HM := Aside0.mk (fun w => utf_Mend.calls s (mendS s) w (by unfold utf_Mend.f; rw [if_pos (by omega)]))
 have hmb : (mendS s).size ≤ 35184372088831 := by omega
 clear hY hJd hr hml hmz hm4 hsl
 generalize mendS s = m at *
 have hA : Below W.heap.size W (W.alloc (.cells #[.func (.yield l) #[] #[]] 91)) := (Below.refl _ W).alloc (Nat.le_refl _) _
 have HBS := Aside0.mk hbs
 have HBA := Aside0.mk hba
 have hc1 : (W.alloc (.cells #[.func (.yield l) #[] #[]] 91)).cell? ⟨Bs, 0, none⟩ = some (.string s) := (blk_cell ((hA.block Bs (Array.getElem?_eq_some_iff.1 hbs).1).trans hbs) 0).trans rfl
 have HA := Aside0.mk hA
 clear hbs hba hA
 refine callsIn_of_wp Try.func46 rfl trivial ?_ rfl
 simp only [Try.ntmps46, List.size_toArray, List.length_cons, List.length_nil, Nat.reduceAdd, Nat.reduceSub, Array.replicate_succ, Array.replicate_zero, List.push_toArray, List.append_toArray, List.nil_append, List.cons_append]
 gi_wp2_with (refine ⟨trivial, ?_⟩; gi_at_call 33; refine (callsIn_wide.2 (HM.out _)).mono ?_; rintro e w1 ⟨rfl, hb1⟩; have HB1 := Aside0.mk (below_step HA.out hb1); have hYB := Aside0.mk ((((Below.refl _ w1).alloc (Nat.le_refl _) (.cells #[.string m] 9)).block W.heap.size (by have := hb1.size; simp at this; omega)).trans ((hb1.block W.heap.size (by simp)).trans (heap_alloc_new W _))); clear hb1; have hc2 : (w1.alloc (.cells #[.string m] 9)).cell? ⟨Ba, 0, none⟩ = some (.bool attr) := (blk_cell (((HB1.out.alloc HB1.out.size _).block Ba (Array.getElem?_eq_some_iff.1 HBA.out).1).trans HBA.out) 0).trans rfl)
 have hW2b : Below W.heap.size W (w1.alloc (.cells #[.string m] 9)) := HB1.out.alloc HB1.out.size _
 have hy0 : (w1.alloc (.cells #[.string m] 9)).heap[W.heap.size]? = some (.cells #[.func (.yield l) #[] #[]] 91 (0, 0)) := hYB.out
 have hs0 : (w1.alloc (.cells #[.string m] 9)).heap[w1.heap.size]? = some (.cells #[.string m] 9 (0, 0)) := heap_alloc_new w1 _
 have hj0 : J [] (w1.alloc (.cells #[.string m] 9)) := HJd.out [] W _ h0 hW2b
 refine ⟨trivial, ?_⟩
 gi_at_call 47
 refine (each_in (n - 1) (by omega) k m attr #[.pointer (some ⟨W.heap.size, 0, none⟩), .pointer (some ⟨w1.heap.size, 0, none⟩)] refs
  (fun pre V => J (pre.map (prR m)) V ∧ V.heap[W.heap.size]? = some (.cells #[.func (.yield l) #[] #[]] 91 (0, 0)) ∧ V.heap[w1.heap.size]? = some (.cells #[.string m] 9 (0, 0)))
  (fun pre V => Jx (pre.map (prR m)) V) _ hmb HR.out ?_ ?_ ⟨hj0, hy0, hs0⟩).mono ?_
 ·rintro pre V V' ⟨h1, h2, h3⟩ hb
  exact ⟨HJd.out _ _ _ h1 hb, (hb.block _ (Array.getElem?_eq_some_iff.1 h2).1).trans h2, (hb.block _ (Array.getElem?_eq_some_iff.1 h3).1).trans h3⟩
 ·rintro pre ⟨x1, x2, x3⟩ V b ⟨h1, h2, h3⟩ ⟨post, hpost⟩
  have hmem := HIN.out (x1, x2, x3) (by rw [← hpost]; simp)
  refine refs11_in (n - 1 - 1) (by omega) l W.heap.size w1.heap.size m x1 x3 x2 b V _ hmb hmem ((blk_cell h2 0).trans rfl) ((blk_cell h3 0).trans rfl) ?_
  intro V' hV'
  have hlen : (pre.map (prR m)).length < refs.length := by rw [← hpost]; simp
  refine yieldAt_mono (yieldAt_any rfl _ (HY.out (pre.map (prR m)) (x1, m.extract x1 (x1 + 1 + x3)) V' (HJd.out _ _ _ h1 hV') hlen)) ?_
  rintro e V2 (⟨rfl, hj, hk⟩ | ⟨rfl, hx⟩)
  ·have hkk : KpR V V2 := (KpR.below hV').trans hk
   exact ⟨true, rfl, .inl ⟨rfl, ⟨by rw [List.map_append]; exact hj, hkk _ _ _ (.inr (.inl rfl)) h2, hkk _ _ _ (.inr (.inr rfl)) h3⟩, fun j cs hj => hkk j cs _ (.inl rfl) hj⟩⟩
  ·exact ⟨false, rfl, .inr ⟨rfl, by rw [List.map_append]; exact hx⟩⟩
 ·rintro e V ⟨rfl, h⟩
  gi_wp2
  go_end0
  rcases h with ⟨hj, _, _⟩ | ⟨pre, hp, hx⟩
  ·exact ⟨⟨_, rfl⟩, .inl ⟨_, rfl, hj⟩⟩
  ·exact ⟨⟨_, rfl⟩, .inr ⟨_, hp.map _, hx⟩⟩

theorem refs_stops (n : Nat) (hn : 3 ≤ n) (k Bs Ba : Nat) (s : ByteArray) (attr : Bool) (refs : List Ref3) (hs : s.size ≤ 1099511627776) (hr : refsGo attr (mendS s) k 0 = some refs) (w : World)
  (hbs : w.heap[Bs]? = some (.cells #[.string s] 9 (0, 0))) (hba : w.heap[Ba]? = some (.cells #[.bool attr] 4 (0, 0))) :
  SeqStopsK Fence.wide n Try.prog 46 #[.pointer (some ⟨Bs, 0, none⟩), .pointer (some ⟨Ba, 0, none⟩)] (fun x : Nat × ByteArray => #[Value.int .i64 (x.1 : Nat), Value.string x.2]) KpR (fun ys => ys = refs.map (prR (mendS s))) (fun pre => pre <+: refs.map (prR (mendS s))) refs.length w :=
 fun l J Jx W hW hJ _ hY h0 => refs1_in n hn k l Bs Ba s attr refs hs hr J Jx (fun p W1 W2 hp hb => hJ p W1 W2 none hp (grown_of_below hb none) (fun r e => by cases e)) hY W
  ((hW.block Bs (Array.getElem?_eq_some_iff.1 hbs).1).trans hbs) ((hW.block Ba (Array.getElem?_eq_some_iff.1 hba).1).trans hba) h0
end Go.Proofs.Ythmbbkbmlnaghaa.P
end
section
namespace Go.Proofs.Ythmbbkbmlnaghaa.P
open Go.RowKit Go.Proofs.YthmbbkbmlnaghaaW.PrintWords Go.Proofs.YthmbbkbmlnaghaaW.PrintLast Go.Proofs.YthmbbkbmlnaghaaW.PrintMore
attribute [local go_sem] max2_int min2_int max_two min_two max_three min_three max_four min_four   -- for this text's walks alone
set_option linter.unusedVariables false
set_option linter.unusedSimpArgs false

/-! ### sievelaw06_awake: function 22 -/
def sievelaw06_awake.f (k : Nat)  : Option (Bool) := (charref_Decode.f k (⟨#[97, 38, 99, 111, 112, 121, 61, 49, 38, 35, 120, 52, 49, 59]⟩ : ByteArray) true).bind fun t279 => (if t279.toList = ([97, 38, 99, 111, 112, 121, 61, 49, 65] : List UInt8) then ((charref_Decode.f k (⟨#[38, 97, 109, 112, 59, 38, 108, 116, 59]⟩ : ByteArray) false).bind fun t280 => (some (t280.toList == ([38, 60] : List UInt8)))) else (some false))
set_option maxHeartbeats 8000000 in
set_option maxRecDepth 100000 in
theorem sievelaw06_awake.calls (k : Nat)  (r : Bool) (w : World) (h : sievelaw06_awake.f k  = some r) :
  Calls Try.prog 22 #[] w fun e w' => e = .returned (.bool r) ∧ Below w.heap.size w w' := by
 have HB := Aside0.mk (Below.refl w.heap.size w)
 have H : ((charref_Decode.f k (⟨#[97, 38, 99, 111, 112, 121, 61, 49, 38, 35, 120, 52, 49, 59]⟩ : ByteArray) true).bind fun t279 => (if t279.toList = ([97, 38, 99, 111, 112, 121, 61, 49, 65] : List UInt8) then ((charref_Decode.f k (⟨#[38, 97, 109, 112, 59, 38, 108, 116, 59]⟩ : ByteArray) false).bind fun t280 => (some (t280.toList == ([38, 60] : List UInt8)))) else (some false))) = some r := h
 clear h
 replace H := Option.bind_eq_some_iff.mp H
 obtain ⟨t279, A10, H⟩ := H
 replace H : (if t279.toList = ([97, 38, 99, 111, 112, 121, 61, 49, 65] : List UInt8) then ((charref_Decode.f k (⟨#[38, 97, 109, 112, 59, 38, 108, 116, 59]⟩ : ByteArray) false).bind fun t280 => (some (t280.toList == ([38, 60] : List UInt8)))) else (some false)) = some r := H
 have A1 := Aside0.mk A10
 clear A10
 by_cases c2 : t279.toList = ([97, 38, 99, 111, 112, 121, 61, 49, 65] : List UInt8)
 ·rw [if_pos c2] at H
  have c2b0 : (t279.toList == ([97, 38, 99, 111, 112, 121, 61, 49, 65] : List UInt8)) = true := beq_iff_eq.mpr c2
  have c2b1 : (t279.toList != ([97, 38, 99, 111, 112, 121, 61, 49, 65] : List UInt8)) = false := bne_eq_false_iff_eq.mpr c2
  clear c2
  replace H := Option.bind_eq_some_iff.mp H
  obtain ⟨t280, A30, H⟩ := H
  replace H : (some (t280.toList == ([38, 60] : List UInt8))) = some r := H
  have A3 := Aside0.mk A30
  clear A30
  obtain rfl := Option.some.inj H
  go_enter Try.func22, Try.ntmps22
  go_wp2_with (first | ((with_reducible refine gate_callee (f := 17) rfl ?_); refine goesL_ (some 1) rfl rfl Try.func17 (by kernel_rfl) rfl #[.string (⟨#[97, 38, 99, 111, 112, 121, 61, 49, 38, 35, 120, 52, 49, 59]⟩ : ByteArray), .bool true] rfl (by (try simp only [List.map_toArray, List.map_cons, List.map_nil]); first | done | rfl | (simp only [List.length_drop, List.length_take]; rfl) | (simp [*] <;> rfl)) ?_; (with_reducible refine (charref_Decode.calls k (⟨#[97, 38, 99, 111, 112, 121, 61, 49, 38, 35, 120, 52, 49, 59]⟩ : ByteArray) true t279 _ A1.out).mono ?_); rintro e w4 ⟨rfl, hb⟩; refine ⟨_, rfl, ?_⟩; have n0_ := Aside0.mk (below_step (by repeat (first | (with_reducible first | exact HB.out | apply below_alloc | apply pw_below_drewN | apply below_drew1) | exact HB.out)) hb); clear HB; have HB := n0_; clear n0_; (try clear hb); (try clear hb2); (try clear hk); (try clear hi)) | (go_at_call 17; (with_reducible refine (charref_Decode.calls k (⟨#[38, 97, 109, 112, 59, 38, 108, 116, 59]⟩ : ByteArray) false t280 _ A3.out).mono ?_); rintro e w5 ⟨rfl, hb⟩; have n0_ := Aside0.mk (below_step (by repeat (first | (with_reducible first | exact HB.out | apply below_alloc | apply pw_below_drewN | apply below_drew1) | exact HB.out)) hb); clear HB; have HB := n0_; clear n0_; (try clear hb); (try clear hb2); (try clear hk); (try clear hi)))
  go_ret
  exact ⟨by first | rfl | (simp [errW_none, errW_some] <;> rfl) | (simp [*, errW_none, errW_some] <;> rfl), by repeat (first | (with_reducible first | exact HB.out | apply below_alloc | apply pw_below_drewN | apply below_drew1) | exact HB.out)⟩
 ·rw [if_neg c2] at H
  have c2b0 : (t279.toList == ([97, 38, 99, 111, 112, 121, 61, 49, 65] : List UInt8)) = false := beq_eq_false_iff_ne.mpr c2
  have c2b1 : (t279.toList != ([97, 38, 99, 111, 112, 121, 61, 49, 65] : List UInt8)) = true := bne_iff_ne.mpr c2
  obtain rfl := Option.some.inj H
  go_enter Try.func22, Try.ntmps22
  go_wp2_with (first | ((with_reducible refine gate_callee (f := 17) rfl ?_); refine goesL_ (some 1) rfl rfl Try.func17 (by kernel_rfl) rfl #[.string (⟨#[97, 38, 99, 111, 112, 121, 61, 49, 38, 35, 120, 52, 49, 59]⟩ : ByteArray), .bool true] rfl (by (try simp only [List.map_toArray, List.map_cons, List.map_nil]); first | done | rfl | (simp only [List.length_drop, List.length_take]; rfl) | (simp [*] <;> rfl)) ?_; (with_reducible refine (charref_Decode.calls k (⟨#[97, 38, 99, 111, 112, 121, 61, 49, 38, 35, 120, 52, 49, 59]⟩ : ByteArray) true t279 _ A1.out).mono ?_); rintro e w6 ⟨rfl, hb⟩; refine ⟨_, rfl, ?_⟩; have n0_ := Aside0.mk (below_step (by repeat (first | (with_reducible first | exact HB.out | apply below_alloc | apply pw_below_drewN | apply below_drew1) | exact HB.out)) hb); clear HB; have HB := n0_; clear n0_; (try clear hb); (try clear hb2); (try clear hk); (try clear hi)))
  go_ret
  exact ⟨by first | rfl | (simp [errW_none, errW_some] <;> rfl) | (simp [*, errW_none, errW_some] <;> rfl), by repeat (first | (with_reducible first | exact HB.out | apply below_alloc | apply pw_below_drewN | apply below_drew1) | exact HB.out)⟩

end Go.Proofs.Ythmbbkbmlnaghaa.P
end
section
/-
 The example that every law asks first.
-/
namespace Go.Proofs.Ythmbbkbmlnaghaa.P
open Go.RowKit Go.Shelf Go.Proofs.YthmbbkbmlnaghaaW.PrintWords Go.Proofs.YthmbbkbmlnaghaaW.PrintLast Go.Proofs.YthmbbkbmlnaghaaW.PrintMore
set_option linter.unusedVariables false
set_option linter.unusedSimpArgs false

theorem cuts_awake : sievelaw06_awake.f 400 = some true := by decide +kernel
end Go.Proofs.Ythmbbkbmlnaghaa.P
end
section
/-
 sievelaw06.CharrefDecodes: the walk of the statement's own function.
-/
namespace Go.Proofs.Ythmbbkbmlnaghaa.P
open Go.RowKit Go.Shelf Go.Proofs.YthmbbkbmlnaghaaW.PrintWords Go.Proofs.YthmbbkbmlnaghaaW.PrintLast Go.Proofs.YthmbbkbmlnaghaaW.PrintMore
set_option linter.unusedVariables false
set_option linter.unusedSimpArgs false
attribute [local go_sem] Oper.semAt_some

def partCells (p : Part) : List Value := [.int .i64 p.f0, .string p.f1, .string p.f2, .bool p.f3]
theorem flat4_at {α : Type} (f : α → List Value) (hf : ∀ x, (f x).length = 4) : ∀ (xs : List α) (i j : Nat) (x : α), xs[i]? = some x → j < 4 → (xs.flatMap f)[i * 4 + j]? = (f x)[j]?
 | [], i, j, x, h, _ => by simp at h
 | y :: xs, 0, j, x, h, hj => by
  obtain rfl : y = x := by simpa using h
  rw [List.flatMap_cons, Nat.zero_mul, Nat.zero_add, List.getElem?_append_left (by rw [hf]; exact hj)]
 | y :: xs, i + 1, j, x, h, hj => by
  rw [List.flatMap_cons, List.getElem?_append_right (by rw [hf]; omega), hf, show (i + 1) * 4 + j - 4 = i * 4 + j by omega]
  exact flat4_at f hf xs i j x (by simpa using h) hj
theorem reps_parts {w : World} {base : Nat} {ok : Nat → Prop} : ∀ (ps : List Part) (inner : List Value), Reps (k46.M w base ok) 4 ps inner → inner = ps.flatMap partCells
 | [], inner, h => List.eq_nil_of_length_eq_zero (by rw [h.1]; rfl)
 | p :: ps, inner, h => by
  have h0 := k46_openM (h.2 0 p rfl)
  rw [Nat.zero_mul, List.drop_zero] at h0
  have ht := reps_parts ps (inner.drop 4) ⟨by rw [List.length_drop, h.1, List.length_cons]; omega, fun j q hq => by
   have := h.2 (j + 1) q (by simpa using hq)
   rw [List.drop_drop, show 4 + j * 4 = (j + 1) * 4 by omega]
   exact this⟩
  rw [List.flatMap_cons, ← ht]
  have := (List.take_append_drop 4 inner).symm
  rw [h0] at this
  exact this

/-- the law's own cells between two steps: the list of references so far, the given stop, the answer -/
def DecI (B0 B11 n1 : Nat) (stop : Int) (w : World) (rs : List Part) (v : Value) (W : World) : Prop :=
 (Boxed W B11 43 v ∧ W.ownsRow n1 46 4 v rs.length (rs.flatMap partCells)) ∧ (Boxed W B0 3 (.int .i64 stop) ∧ Boxed W (B0 + 1) 4 (.bool false)) ∧ Below B0 w W ∧ n1 ≤ W.heap.size
theorem decI_alloc {B0 B11 n1 : Nat} {stop : Int} {w W : World} {rs : List Part} {v : Value} (h : DecI B0 B11 n1 stop w rs v W) (hn : B0 ≤ n1) (o : Obj) : DecI B0 B11 n1 stop w rs v (W.alloc o) := by
 obtain ⟨⟨h1, h2⟩, ⟨h3, h4⟩, h5, h6⟩ := h
 exact ⟨⟨h1.alloc o, h2.alloc o⟩, ⟨h3.alloc o, h4.alloc o⟩, h5.alloc (by omega) o, by simp; omega⟩
theorem boxPut {W : World} {B C : Nat} {t : TypeId} {v : Value} (h : Boxed W B t v) (hne : B ≠ C) (u : Value) : Boxed (W.setCell ⟨C, 0, none⟩ u) B t v := h.kept (grownBy_setCell' W C u) (by simpa using hne)
/-- the marks that the ranges over the iterator leave: each names a block of its own -/
def DsI (lo : Nat) : Nat → List Deferred → World → Prop
 | _, [], _ => True
 | hi, d :: ds, W => ∃ D, d = { target := .collected D, args := #[] } ∧ lo ≤ D ∧ D < hi ∧ W.heap[D]? = some (.deferred (some [])) ∧ DsI lo D ds W
theorem DsI.keep {lo : Nat} {W W' : World} : ∀ {ds : List Deferred} {hi hi' : Nat}, DsI lo hi ds W → hi ≤ hi' → (∀ k, lo ≤ k → k < hi → W.heap[k]? = some (.deferred (some [])) → W'.heap[k]? = some (.deferred (some []))) → DsI lo hi' ds W'
 | [], hi, hi', _, _, _ => trivial
 | d :: ds, hi, hi', ⟨D, h1, h2, h3, h4, h5⟩, hle, hk => ⟨D, h1, h2, by omega, hk D h2 h3 h4, DsI.keep h5 (Nat.le_refl _) fun k k1 k2 k3 => hk k k1 (by omega) k3⟩
theorem DsI.leave {lo : Nat} {F : Fence} {n : Nat} {P : Program} {fn : Func} {tmps : Array Value} {R : Ending → World → Prop} (G : World → Prop) (hG : ∀ W D, G W → lo ≤ D → W.heap[D]? = some (.deferred (some [])) → G (W.putObj D (.deferred none)))
  (hend : ∀ W, G W → LeavesInM F n P fn tmps R [] .returning W) : ∀ (ds : List Deferred) (hi : Nat) (W : World), DsI lo hi ds W → G W → LeavesInM F n P fn tmps R ds .returning W
 | [], hi, W, _, g => hend W g
 | d :: ds, hi, W, ⟨D, h1, h2, h3, h4, h5⟩, g => by
  subst h1
  refine ⟨by simp, .inl ⟨D, _, rfl, run_takeDeferred h4, DsI.leave G hG hend ds D _ (h5.keep (Nat.le_refl _) fun k k1 k2 k3 => ?_) (hG W D g h2 h4)⟩⟩
  exact (World.putObj_heap_other (by omega)).trans k3
theorem boxKept {W W' : World} {row : Option Nat} {B C : Nat} {t : TypeId} {v : Value} (h : Boxed W C t v) (hg : W.grownBy W' row) (hr : ∀ r, row = some r → B ≤ r ∧ ∃ o : Obj, W.heap[r]? = some o ∧ o.isCells = false) : Boxed W' C t v :=
 h.kept hg fun e => by
  obtain ⟨_, o, ho, hc⟩ := hr C e.symm
  rw [show W.heap[C]? = _ from h] at ho
  cases ho
  cases hc
theorem ownKept {W W' : World} {row : Option Nat} {B base : Nat} {e : TypeId} {size n : Nat} {v : Value} {xs : List Value} (h : W.ownsRow base e size v n xs) (hg : W.grownBy W' row) (hr : ∀ r, row = some r → B ≤ r ∧ ∃ o : Obj, W.heap[r]? = some o ∧ o.isCells = false) : W'.ownsRow base e size v n xs := by
 refine h.kept hg ?_
 rcases h.2 with ⟨rfl, _⟩ | ⟨g, cap, cur, rfl, _, hgb, _⟩
 ·exact .inl rfl
 ·refine .inr fun e => ?_
  obtain ⟨_, o, ho, hc⟩ := hr g e.symm
  rw [hgb] at ho
  cases ho
  cases hc
theorem decI_own {B0 B11 n1 B : Nat} {stop : Int} {w : World} {rs : List Part} {v : Value} (h0 : B0 ≤ w.heap.size) (hB0 : B0 ≤ B) {W W' : World} {row : Option Nat}
  (h : DecI B0 B11 n1 stop w rs v W) (hg : W.grownBy W' row) (hr : ∀ r, row = some r → B ≤ r ∧ ∃ o : Obj, W.heap[r]? = some o ∧ o.isCells = false) : DecI B0 B11 n1 stop w rs v W' := by
 obtain ⟨⟨h1, h2⟩, ⟨h3, h4⟩, h5, h6⟩ := h
 exact ⟨⟨boxKept h1 hg hr, ownKept h2 hg hr⟩, ⟨boxKept h3 hg hr, boxKept h4 hg hr⟩, ownFrom_below (β := Unit) h0 hB0 () W W' row h5 hg hr, Nat.le_trans h6 hg.size⟩
/-- the law's cells in a round -/
def RndK (B0 B11 n1 Rs Br r : Nat) (stop : Int) (w : World) (rs : List Part) (v : Value) (s : ByteArray) (attr : Bool) (hi : Nat) (ds : List Deferred) (W : World) : Prop :=
 DecI B0 B11 n1 stop w rs v W ∧ (Boxed W Rs 9 (.string s) ∧ Boxed W (Rs + 1) 4 (.bool attr)) ∧ Boxed W Br 3 (.int .i64 (r : Nat)) ∧ DsI n1 hi ds W ∧ hi ≤ W.heap.size
theorem rndK_own {B0 B11 n1 Rs Br r hi B : Nat} {stop : Int} {w : World} {rs : List Part} {v : Value} {s : ByteArray} {attr : Bool} {ds : List Deferred} (h0 : B0 ≤ w.heap.size) (hB0 : B0 ≤ B) (hn : B0 ≤ n1) (hhi : hi ≤ B) {W W' : World} {row : Option Nat}
  (h : RndK B0 B11 n1 Rs Br r stop w rs v s attr hi ds W) (hg : W.grownBy W' row) (hr : ∀ r, row = some r → B ≤ r ∧ ∃ o : Obj, W.heap[r]? = some o ∧ o.isCells = false) : RndK B0 B11 n1 Rs Br r stop w rs v s attr hi ds W' := by
 obtain ⟨⟨⟨h1, h2⟩, ⟨h3, h4⟩, h5, h6⟩, ⟨h7, h8⟩, h9, h10, h11⟩ := h
 refine ⟨⟨⟨boxKept h1 hg hr, ownKept h2 hg hr⟩, ⟨boxKept h3 hg hr, boxKept h4 hg hr⟩, ownFrom_below (β := Unit) h0 hB0 () W W' row h5 hg hr, Nat.le_trans h6 hg.size⟩, ⟨boxKept h7 hg hr, boxKept h8 hg hr⟩, boxKept h9 hg hr, h10.keep (Nat.le_refl _) fun k k1 k2 k3 => ?_, Nat.le_trans h11 hg.size⟩
 exact (hg.block k (Array.getElem?_eq_some_iff.1 k3).1 (fun e => by obtain ⟨a, _⟩ := hr k e.symm; omega)).trans k3
theorem rndK_alloc {B0 B11 n1 Rs Br r hi : Nat} {stop : Int} {w : World} {rs : List Part} {v : Value} {s : ByteArray} {attr : Bool} {ds : List Deferred} (h0 : B0 ≤ w.heap.size) (hn : B0 ≤ n1) {W : World}
  (h : RndK B0 B11 n1 Rs Br r stop w rs v s attr hi ds W) (o : Obj) : RndK B0 B11 n1 Rs Br r stop w rs v s attr hi ds (W.alloc o) :=
 rndK_own (B := B0 + hi) h0 (by omega) hn (by omega) h (World.grownBy_alloc W o none) (fun r e => by cases e)
/-- a store into a box of an int that is none of these -/
theorem rndK_put {B0 B11 n1 Rs Br r hi C : Nat} {stop : Int} {w : World} {rs : List Part} {v u x : Value} {s : ByteArray} {attr : Bool} {ds : List Deferred} (hC : B0 ≤ C) (hCr : C ≠ Br) (hC1 : C ≠ B0) {W : World}
  (h : RndK B0 B11 n1 Rs Br r stop w rs v s attr hi ds W) (hc : Boxed W C 3 x) : RndK B0 B11 n1 Rs Br r stop w rs v s attr hi ds (W.setCell ⟨C, 0, none⟩ u) := by
 have nb : ∀ {k : Nat} {t : TypeId} {y : Value}, Boxed W k t y → t ≠ 3 → k ≠ C := fun hk ht e => by
  subst e
  have e1 : W.heap[_]? = some _ := hk
  have e2 : W.heap[_]? = some _ := hc
  rw [e1] at e2
  injection e2 with e2
  injection e2 with _ e2
  exact ht e2
 obtain ⟨⟨⟨h1, h2⟩, ⟨h3, h4⟩, h5, h6⟩, ⟨h7, h8⟩, h9, h10, h11⟩ := h
 refine ⟨⟨⟨boxPut h1 (nb h1 (by decide)) u, h2.kept (grownBy_setCell' W C u) (.inr (hc.not_row (by decide) h2).symm)⟩, ⟨boxPut h3 (Ne.symm hC1) u, boxPut h4 (nb h4 (by decide)) u⟩, h5.setCell (p := ⟨C, 0, none⟩) hC u, by simpa using h6⟩, ⟨boxPut h7 (nb h7 (by decide)) u, boxPut h8 (nb h8 (by decide)) u⟩, boxPut h9 (Ne.symm hCr) u, h10.keep (Nat.le_refl _) fun k k1 k2 k3 => ?_, by simpa using h11⟩
 refine ((grownBy_setCell' W C u).block k (Array.getElem?_eq_some_iff.1 k3).1 (fun e => ?_)).trans k3
 obtain rfl : k = C := by simpa using e
 have e2 : W.heap[k]? = some _ := hc
 rw [e2] at k3
 cases k3
theorem kpR_put {W : World} {C : Nat} {x : Value} (hc : Boxed W C 3 x) (u : Value) : KpR W (W.setCell ⟨C, 0, none⟩ u) := fun k cs T hT hk => by
 refine ((grownBy_setCell' W C u).block k (Array.getElem?_eq_some_iff.1 hk).1 (fun e => ?_)).trans hk
 obtain rfl : k = C := by simpa using e
 have e2 : W.heap[k]? = some _ := hc
 rw [e2] at hk
 injection hk with hk
 injection hk with _ hk
 subst hk
 rcases hT with h | h | h <;> revert h <;> decide
def decF (s : ByteArray) (attr : Bool) (stop : Int) (B0 B11 Rs Br : Nat) (u : Nat → Value) (ds : List Deferred) : Act := { tmps := List.toArray (.string s :: .bool attr :: .int .i64 stop :: u 3 :: u 4 :: .pointer (some ⟨B0, 0, none⟩) :: .pointer (some ⟨B0 + 1, 0, none⟩) :: u 7 :: u 8 :: u 9 :: u 10 :: .pointer (some ⟨B11, 0, none⟩) :: u 12 :: u 13 :: .func (.func 46) #[] #[.pointer (some ⟨Rs, 0, none⟩), .pointer (some ⟨Rs + 1, 0, none⟩)] :: .pointer (some ⟨Br, 0, none⟩) :: u 16 :: u 17 :: u 18 :: u 19 :: u 20 :: u 21 :: u 22 :: u 23 :: u 24 :: u 25 :: u 26 :: u 27 :: u 28 :: u 29 :: u 30 :: u 31 :: u 32 :: u 33 :: u 34 :: u 35 :: u 36 :: u 37 :: u 38 :: u 39 :: u 40 :: u 41 :: u 42 :: u 43 :: u 44 :: u 45 :: u 46 :: u 47 :: u 48 :: u 49 :: u 50 :: u 51 :: u 52 :: u 53 :: u 54 :: u 55 :: u 56 :: u 57 :: u 58 :: u 59 :: u 60 :: u 61 :: u 62 :: u 63 :: u 64 :: u 65 :: u 66 :: u 67 :: u 68 :: u 69 :: u 70 :: u 71 :: u 72 :: u 73 :: u 74 :: u 75 :: u 76 :: u 77 :: u 78 :: u 79 :: u 80 :: u 81 :: u 82 :: u 83 :: u 84 :: u 85 :: u 86 :: u 87 :: u 88 :: u 89 :: u 90 :: u 91 :: u 92 :: u 93 :: u 94 :: u 95 :: u 96 :: u 97 :: u 98 :: u 99 :: u 100 :: u 101 :: u 102 :: u 103 :: u 104 :: u 105 :: u 106 :: u 107 :: u 108 :: u 109 :: u 110 :: u 111 :: u 112 :: u 113 :: u 114 :: u 115 :: u 116 :: u 117 :: u 118 :: u 119 :: []), defers := ds }
/-- the state at the head of the law's second loop -/
def DecJ (B0 B11 n1 Rs : Nat) (stop : Int) (w : World) (rs : List Part) (v : Value) (s : ByteArray) (attr : Bool) (a : Act) (W : World) : Prop :=
 ∃ (Br r : Nat) (u : Nat → Value) (ds : List Deferred), a = decF s attr stop B0 B11 Rs Br u ds ∧ (r ≤ 2 ∧ Rs + 2 ≤ Br ∧ Br < W.heap.size) ∧ Aside0 (RndK B0 B11 n1 Rs Br r stop w rs v s attr W.heap.size ds W)
theorem decJ_of {B0 B11 n1 Rs : Nat} {stop : Int} {w : World} {rs : List Part} {v : Value} {s : ByteArray} {attr : Bool} {a : Act} {W : World} (Br r : Nat) (ds : List Deferred) (ha : a = decF s attr stop B0 B11 Rs Br (fun i => a.tmps.getD i undef) ds) (h1 : r ≤ 2 ∧ Rs + 2 ≤ Br ∧ Br < W.heap.size)
  (h2 : RndK B0 B11 n1 Rs Br r stop w rs v s attr W.heap.size ds W) : DecJ B0 B11 n1 Rs stop w rs v s attr a W := ⟨Br, r, _, ds, ha, h1, ⟨h2⟩⟩
theorem prefix_snoc {α : Type} (pre l : List α) (x : α) (h : pre <+: l) (hl : pre.length < l.length) : pre ++ [x] <+: l ↔ l[pre.length] = x := by
 obtain ⟨t, rfl⟩ := h
 cases t with
 | nil => simp at hl
 | cons y t =>
  rw [List.getElem_append_right (Nat.le_refl _)]
  simp only [Nat.sub_self, List.getElem_cons_zero]
  constructor
  ·rintro ⟨q, hq⟩
   rw [List.append_assoc] at hq
   have := List.append_cancel_left hq
   injection this with e _
   exact e.symm
  ·rintro rfl
   exact ⟨t, by rw [List.append_assoc]; rfl⟩
theorem own_slice {w : World} {base : Nat} {e : TypeId} {size : Nat} {v : Value} {n : Nat} {xs : List Value} (h : w.ownsRow base e size v n xs) : ∃ A c, v = .slice A n c := by
 rcases h.2 with ⟨rfl, rfl⟩ | ⟨g, cap, cur, rfl, _⟩
 ·exact ⟨_, _, rfl⟩
 ·exact ⟨_, _, rfl⟩
def cellN (v : Value) (w : World) : Nat := match v with | .pointer (some a) => (match w.cell? a with | some u => (intOf u).toNat | none => 0) | _ => 0
theorem cellN_box {W : World} {B : Nat} {t : TypeId} {r : Nat} (h : Boxed W B t (.int .i64 (r : Nat))) : cellN (.pointer (some ⟨B, 0, none⟩)) W = r := by
 unfold cellN
 simp only [h.cell]
 simp [intOf]
theorem rndK_next {B0 B11 n1 Rs Br r hi D : Nat} {stop : Int} {w : World} {rs : List Part} {v : Value} {s : ByteArray} {attr : Bool} {ds : List Deferred} (h0 : B0 ≤ w.heap.size) (hn : B0 ≤ n1) {V : World}
  (h : RndK B0 B11 n1 Rs Br r stop w rs v s attr hi ds V) (h1 : n1 ≤ hi) (hD : hi ≤ D) (hk : V.heap[D]? = some (.deferred (some []))) :
  RndK B0 B11 n1 Rs V.heap.size (r + 1) stop w rs v s attr (V.alloc (.cells #[.int .i64 ((r : Int) + 1)] 3)).heap.size ({ target := .collected D, args := #[] } :: ds) (V.alloc (.cells #[.int .i64 ((r : Int) + 1)] 3)) := by
 obtain ⟨a1, a2, a3, a4, a5⟩ := rndK_alloc h0 hn h (.cells #[.int .i64 ((r : Int) + 1)] 3)
 have hlt := (Array.getElem?_eq_some_iff.1 hk).1
 exact ⟨a1, a2, Boxed.new V _ _, ⟨D, rfl, by omega, by rw [World.size_alloc]; omega, (Below.heap_alloc V _ D hlt).trans hk, a4.keep hD fun k _ _ k3 => k3⟩, Nat.le_refl _⟩
theorem infoPart : (Try.prog.info? 46).map (fun i => (i.zero, i.size, i.bytes)) = some (some (.agg #[.int .i64 0, .string ⟨#[]⟩, .string ⟨#[]⟩, .bool false]), 4, 48) := by kernel_rfl
theorem partCells_len (p : Part) : (partCells p).length = 4 := rfl

set_option maxRecDepth 100000 in
set_option maxHeartbeats 8000000 in
theorem CharrefDecodes_walk (s : ByteArray) (attr : Bool) (stop : Int) (hs : s.size ≤ 1048576) (w : World) :
  Calls Try.prog 5 #[.string s, .bool attr, .int .i64 stop] w fun e w' => e = .returned (.bool true) ∧ Below w.heap.size w w' := by
 obtain ⟨refs, hr, hmd, hps, hcat, hrn, hfil, hval, hlen, hpn, hrl⟩ := decodes_plain s attr hs
 have HR := Aside0.mk hr
 have h1 := fun W => charref_Clean_calls 100000000000 s attr refs W (by omega) hr
 have h2 := fun W => rClean_calls 100000000000 s (mendS s) attr (partsOf (mendS s) 0 refs) W hmd hps hval hlen hpn
 have h3 := fun W => charref_Decode.calls 100000000 s attr _ W (Decode_f s attr (by omega) 100000000 (by omega))
 have h4 := fun W => sieveref06_Decode.calls 100000000000 s attr _ W (rDecode_f s attr (by omega))
 have h5 := fun W => sieveref01_Mend.calls s _ W hmd
 have h6 := fun W => sieveref06_Parts.calls 100000000000 (mendS s) attr _ W hps
 have hst := fun n hn Bs Ba => refs_stops n hn 100000000000 Bs Ba s attr refs (by omega) hr
 rw [hcat, hrn] at h2
 have H1 := Aside0.mk h1
 have H2 := Aside0.mk h2
 have H3 := Aside0.mk h3
 have H4 := Aside0.mk h4
 have H5 := Aside0.mk h5
 have H6 := Aside0.mk h6
 have HST := Aside0.mk hst
 have HF := Aside0.mk hfil
 clear hr hmd hps hcat hrn hval hlen h1 h2 h3 h4 h5 h6 hst hfil
 generalize (⟨(dgL cleanB attr (mendL s.data.toList)).toArray⟩ : ByteArray) = C at H1 H2
 generalize (⟨(dgL id attr (mendL s.data.toList)).toArray⟩ : ByteArray) = D at H3 H4
 generalize mendS s = m at *
 generalize partsOf m 0 refs = ps at *
 have hDD : (D.toList == D.toList) = true := beq_self_eq_true _
 have hCC : (C.toList == C.toList) = true := beq_self_eq_true _
 refine (callsIn_wide (n := 9)).1 ?_
 refine callsIn_of_wp_marks Try.func5 rfl trivial ?_ rfl
 simp only [Try.ntmps5, List.size_toArray, List.length_cons, List.length_nil, Nat.reduceAdd, Nat.reduceSub, Array.replicate_succ, Array.replicate_zero, List.push_toArray, List.append_toArray, List.nil_append, List.cons_append]
 gi_wp2_with (first | (refine ⟨trivial, ?_⟩; gi_at_call 15; refine (callsIn_wide.2 (H1.out _)).mono ?_; rintro e w1 ⟨rfl, hb1⟩; have HB1 := Aside0.mk hb1; clear hb1) | (refine ⟨trivial, ?_⟩; gi_at_call 16; refine (callsIn_wide.2 (H2.out _)).mono ?_; rintro e w2 ⟨rfl, hb2⟩; have HB2 := Aside0.mk (below_step HB1.out (hb2.mono (Nat.le_refl _))); clear hb2) | (refine ⟨trivial, ?_⟩; gi_at_call 17; refine (callsIn_wide.2 (H3.out _)).mono ?_; rintro e w3 ⟨rfl, hb3⟩; have HB3 := Aside0.mk (below_step HB2.out hb3); clear hb3) | (refine ⟨trivial, ?_⟩; gi_at_call 18; refine (callsIn_wide.2 (H4.out _)).mono ?_; rintro e w4 ⟨rfl, hb4⟩; have HB4 := Aside0.mk (below_step HB3.out hb4); clear hb4) | (refine ⟨trivial, ?_⟩; gi_at_call 20; refine (callsIn_wide.2 (H5.out _)).mono ?_; rintro e w5 ⟨rfl, hb5⟩; have HB5 := Aside0.mk hb5; clear hb5) | (refine ⟨trivial, ?_⟩; gi_at_call 19; refine (callsIn_wide.2 (H6.out _)).mono ?_; rintro e w6 ⟨vp, rfl, hR6, hb6⟩; have HR6 := Aside0.mk hR6; have HB6 := Aside0.mk hb6; clear hb6 hR6))
 obtain ⟨A, c, rfl⟩ := Kd.R_slice HR6.out
 have hrow6 := HR6.out
 obtain ⟨_, inner, hown6, hreps6⟩ := hrow6
 obtain rfl := reps_parts ps inner hreps6
 clear hreps6
 have hz0 : ((w.alloc (.cells #[.int .i64 stop] 3)).alloc (.cells #[.bool false] 4)).heap.size = w.heap.size + 2 := by simp
 have hA0 : Below w.heap.size w ((w.alloc (.cells #[.int .i64 stop] 3)).alloc (.cells #[.bool false] 4)) := ((Below.refl _ w).alloc (Nat.le_refl _) _).alloc (by simp) _
 have hb05 : Boxed ((w.alloc (.cells #[.int .i64 stop] 3)).alloc (.cells #[.bool false] 4)) w.heap.size 3 (.int .i64 stop) := (Boxed.new w _ _).alloc _
 have hb06 : Boxed ((w.alloc (.cells #[.int .i64 stop] 3)).alloc (.cells #[.bool false] 4)) (w.heap.size + 1) 4 (.bool false) := by
  have := Boxed.new (w.alloc (.cells #[.int .i64 stop] 3)) 4 (.bool false)
  rwa [World.size_alloc] at this
 have hB4 := HB4.out
 rw [hz0] at hB4
 have e4 := hB4.size
 rw [hz0] at e4
 have hB5 := HB5.out
 have e5 := hB5.size
 rw [World.size_alloc] at e5
 have hB6 := HB6.out
 have e6 := hB6.size
 have hbk : ∀ k, k < w.heap.size + 2 → w6.heap[k]? = ((w.alloc (.cells #[.int .i64 stop] 3)).alloc (.cells #[.bool false] 4)).heap[k]? := fun k hk =>
  ((hB6.block k (by omega)).trans ((hB5.block k (by rw [World.size_alloc]; omega)).trans (Below.heap_alloc w4 _ k (by omega)))).trans (hB4.block k hk)
 have hI0 : DecI w.heap.size w4.heap.size w6.heap.size stop w [] (.slice none 0 0) w6 := by
  refine ⟨⟨?_, World.ownsRow_nil _ _ _ _⟩, ⟨(hbk _ (by omega)).trans hb05, (hbk _ (by omega)).trans hb06⟩, ?_, Nat.le_refl _⟩
  ·exact (hB6.block _ (by omega)).trans ((hB5.block _ (by simp)).trans (heap_alloc_new w4 _))
  ·exact hA0.trans ((hB4.mono (by omega)).trans (((Below.refl w.heap.size w4).alloc (by omega) _).trans ((hB5.mono (by rw [World.size_alloc]; omega)).trans (hB6.mono (by omega)))))
 have hP0 : w6.ownsRow w.heap.size 46 4 (.slice A ps.length c) ps.length (ps.flatMap partCells) := own_less hown6 (by omega)
 have hPA : ∀ g cp n, Value.slice A ps.length c = .slice (some ⟨g, 0, none⟩) n cp → g < w6.heap.size ∧ w5.heap.size ≤ g := fun g cp n e => by
  have hb : Value.ownBlock (.slice A ps.length c) = some g := by rw [e]; rfl
  exact ⟨own_lt hown6 g hb, own_base hown6 g hb⟩
 have hI0' := Aside0.mk hI0
 have hP0' := Aside0.mk hP0
 have HPA := Aside0.mk hPA
 have hB411 : w.heap.size + 2 ≤ w4.heap.size := e4
 have h45 : w4.heap.size < w5.heap.size := by omega
 have h56 : w5.heap.size ≤ w6.heap.size := e6
 clear hz0 hA0 hb05 hb06 hB4 e4 hB5 e5 hB6 e6 hbk hI0 hP0 hPA hown6 HB1 HB2 HB3 HB4 HB5 HB6 HR6
 generalize w4.heap.size = B11 at *
 generalize hn1 : w6.heap.size = n1 at *
 have HN1 := Aside0.mk hn1
 clear hn1
 gi_wp2
 gi_loopw [53] (fun v53 wr => ∃ (i : Nat) (v : Value), v53 = .int .i64 (i : Nat) ∧ i ≤ ps.length ∧ Aside0 (DecI w.heap.size B11 n1 stop w ((ps.take i).filter fun p => p.f3) v wr) ∧ Aside0 (wr.ownsRow w.heap.size 46 4 (.slice A ps.length c) ps.length (ps.flatMap partCells))) (fun v53 _ => ps.length - (intOf v53).toNat)
 case atStart => exact ⟨0, _, rfl, Nat.zero_le _, hI0', hP0'⟩
 case round =>
  obtain ⟨i, v, rfl, hi, HI, HP⟩ := hrel
  by_cases hlt : i < ps.length
  ·obtain ⟨⟨hv, hown⟩, ⟨hx5, hx6⟩, hbw, hnw⟩ := HI.out
   obtain ⟨gp, cp, eA, hgp1, hgp2⟩ := HP.out.form (by omega)
   obtain ⟨hgp3, hgp4⟩ := HPA.out gp cp _ eA
   have ec : c = cp := by injection eA
   have eA2 : A = some ⟨gp, 0, none⟩ := by injection eA
   subst ec eA2
   have hpi : ps[i]? = some ps[i] := List.getElem?_eq_getElem hlt
   have hcl : ∀ j, j < 4 → wr.cell? ⟨gp, i * 4 + j, none⟩ = (partCells ps[i])[j]? := fun j hj => by
    have hlen : i * 4 + j < ps.length * 4 := by omega
    rw [HP.out.cellAt (i * 4 + j) hlen, flat4_at partCells partCells_len ps i j _ hpi hj]
   have hx0 := hcl 0 (by omega)
   have hx1 := hcl 1 (by omega)
   have hx2 := hcl 2 (by omega)
   have hx3 := hcl 3 (by omega)
   have hfil : (ps.take (i + 1)).filter (fun p => p.f3) = (ps.take i).filter (fun p => p.f3) ++ (if ps[i].f3 = true then [ps[i]] else []) := by
    rw [List.take_succ_eq_append_getElem hlt, List.filter_append]
    congr 1
    cases hb : ps[i].f3 <;> simp [hb]
   have hfl : ((ps.take i).filter fun p => p.f3).length ≤ i := by
    have h1 := List.length_filter_le (fun p : Part => p.f3) (ps.take i)
    rw [List.length_take] at h1
    omega
   generalize ps[i] = p at hx0 hx1 hx2 hx3 hfil
   obtain ⟨f0, f1, f2, f3⟩ := p
   replace hx0 : wr.cell? ⟨gp, i * 4, none⟩ = some (.int .i64 f0) := hx0
   replace hx1 : wr.cell? ⟨gp, i * 4 + 1, none⟩ = some (.string f1) := hx1
   replace hx2 : wr.cell? ⟨gp, i * 4 + 2, none⟩ = some (.string f2) := hx2
   replace hx3 : wr.cell? ⟨gp, i * 4 + 3, none⟩ = some (.bool f3) := hx3
   have HFIL := Aside0.mk hfil
   have hl1 : ((i : Int) < (ps.length : Int)) = True := eq_true (by omega)
   have hl2 : ((0 : Int) ≤ (i : Int)) = True := eq_true (by omega)
   have hw1 : IntKind.i64.wrap ((i : Int) + 1) = ((i + 1 : Nat) : Int) := (IntWalk.i64_in _ (by omega)).trans (by omega)
   clear hcl hpi hfil eA
   cases f3
   ·have hff := HFIL.out
    rw [if_neg (by simp), List.append_nil] at hff
    have HFF := Aside0.mk hff
    clear hff
    gi_wp2
    refine ⟨⟨i + 1, v, by go_num, by omega, ⟨by rw [HFF.out]; exact decI_alloc HI.out (by omega) _⟩, ⟨HP.out.alloc _⟩⟩, by simp [intOf]; omega⟩
   ·have hff := HFIL.out
    rw [if_pos rfl] at hff
    have HFF := Aside0.mk hff
    clear hff
    have hvc := (hv.alloc (.cells #[.int .i64 f0, .string f1, .string f2, .bool true] 46)).cell
    obtain ⟨i0, hi0, hz0, hz1, hz2⟩ := info_parts infoPart
    have hrow := hown.alloc (.cells #[.int .i64 f0, .string f1, .string f2, .bool true] 46)
    have hrow' := own_less hrow (show w.heap.size ≤ n1 by omega)
    have hnew : ∀ j u, (partCells ⟨f0, f1, f2, true⟩)[j]? = some u → ((wr.alloc (.cells #[.int .i64 f0, .string f1, .string f2, .bool true] 46)).alloc (.cells #[.int .i64 f0, .string f1, .string f2, .bool true] 46)).cell? ((⟨wr.heap.size + 1, 0, none⟩ : Addr).add j) = some u := fun j u hu => by
     have hh := heap_alloc_new (wr.alloc (.cells #[.int .i64 f0, .string f1, .string f2, .bool true] 46)) (.cells #[.int .i64 f0, .string f1, .string f2, .bool true] 46)
     rw [World.size_alloc] at hh
     rw [add_plain]
     exact (blk_cell hh j).trans (by simpa [partCells] using hu)
    gi_wp2_with (gi_at_builtin; refine wpListIn_append_own _ rfl _ _ 43 rfl n1 46 i0 (.agg #[.int .i64 0, .string ⟨#[]⟩, .string ⟨#[]⟩, .bool false]) 4 48 Try.underlying43 hi0 hz0 hz1 hz2 rfl (by decide) _ _ _ rfl (hrow.alloc _) ⟨wr.heap.size + 1, 0, none⟩ 1 1 (partCells ⟨f0, f1, f2, true⟩) rfl rfl ?cells (by simp [partCells, Value.oneCell']) (by simp only [maxLen]; omega) (by omega) (by simp; omega) ?_; (case cells => exact hnew); intro v' w2 hown' hgrow _; obtain ⟨g', cap2, rfl⟩ := ownsRow_succ hown'; obtain ⟨hv1, hv2, hr2, hk2, hb2⟩ := (hv.alloc (.cells #[.int .i64 f0, .string f1, .string f2, .bool true] 46)).appended (by decide) hrow' (by simp; omega) (by omega) (own_less hown' (show w.heap.size ≤ n1 by omega)) hgrow; have hc1 := hv1.cell; have hf1 := hv1.frozen)
    have hr3 := hown'.kept (grownBy_setCell' w2 B11 (.slice (some ⟨g', 0, none⟩) (((ps.take i).filter fun p => p.f3).length + 1) cap2)) (.inr (hv1.not_row (by decide) hown').symm)
    have hnv : some gp ≠ v.ownBlock := fun e => by
     have := own_base hown gp e.symm
     omega
    have h5' := boxPut (((hx5.alloc (.cells #[.int .i64 f0, .string f1, .string f2, .bool true] 46)).alloc (.cells #[.int .i64 f0, .string f1, .string f2, .bool true] 46)).kept hgrow ((hx5.alloc (.cells #[.int .i64 f0, .string f1, .string f2, .bool true] 46)).not_row (by decide) hrow)) (C := B11) (by omega) (.slice (some ⟨g', 0, none⟩) (((ps.take i).filter fun p => p.f3).length + 1) cap2)
    have h6' := boxPut (((hx6.alloc (.cells #[.int .i64 f0, .string f1, .string f2, .bool true] 46)).alloc (.cells #[.int .i64 f0, .string f1, .string f2, .bool true] 46)).kept hgrow ((hx6.alloc (.cells #[.int .i64 f0, .string f1, .string f2, .bool true] 46)).not_row (by decide) hrow)) (C := B11) (by omega) (.slice (some ⟨g', 0, none⟩) (((ps.take i).filter fun p => p.f3).length + 1) cap2)
    have hp' := (((HP.out.alloc (.cells #[.int .i64 f0, .string f1, .string f2, .bool true] 46)).alloc (.cells #[.int .i64 f0, .string f1, .string f2, .bool true] 46)).kept hgrow (.inr hnv)).kept (grownBy_setCell' w2 B11 (.slice (some ⟨g', 0, none⟩) (((ps.take i).filter fun p => p.f3).length + 1) cap2)) (.inr (by simp [Value.ownBlock]; omega))
    refine ⟨⟨i + 1, (.slice (some ⟨g', 0, none⟩) (((ps.take i).filter fun p => p.f3).length + 1) cap2), by go_num, by omega, ⟨?_⟩, ⟨hp'⟩⟩, by simp [intOf]; omega⟩
    rw [HFF.out]
    exact ⟨⟨hv2, by rw [List.length_append, List.length_singleton, List.flatMap_append]; simpa using hr3⟩, ⟨h5', h6'⟩, (hbw.alloc (by omega) _).trans hb2, Nat.le_trans (by simp; omega) hb2.size⟩
  ·obtain rfl : i = ps.length := by omega
   have hl1 : ((ps.length : Int) < (ps.length : Int)) = False := eq_false (by omega)
   have hff := HF.out
   rw [← List.take_length (l := ps)] at hff
   have HFF := Aside0.mk hff
   have hI := HI.out
   rw [hff] at hI
   have HI2 := Aside0.mk hI
   clear hff hI HP HI
   have hnw := HI2.out.2.2.2
   gi_wp2_with (refine ⟨trivial, ?_⟩; gi_at_call 21; refine (callsIn_wide.2 (charref_Refs_calls s attr _)).mono ?_; rintro e w7 ⟨rfl, hs7, ha7, hb7⟩)
   have hI7 := decI_own (B := w.heap.size) (Nat.le_refl _) (Nat.le_refl _) HI2.out (grown_of_below hb7 none) (fun r e => by cases e)
   have e7 : wr.heap.size + 2 ≤ w7.heap.size := by have := (Array.getElem?_eq_some_iff.1 ha7).1; omega
   have hn17 : n1 ≤ w7.heap.size := hI7.2.2.2
   have hK0 : RndK w.heap.size B11 n1 wr.heap.size w7.heap.size 0 stop w (refs.map (partR m)) v s attr (w7.heap.size + 1) [] (w7.alloc (.cells #[.int .i64 0] 3)) := by
    refine ⟨decI_alloc hI7 (by omega) _, ⟨Boxed.alloc (show Boxed w7 wr.heap.size 9 (.string s) from hs7) _, Boxed.alloc (show Boxed w7 (wr.heap.size + 1) 4 (.bool attr) from ha7) _⟩, Boxed.new w7 _ _, trivial, by simp⟩
   have hnwr := HI2.out.2.2.2
   have hRs : n1 ≤ wr.heap.size := hnwr
   have HST2 := Aside0.mk (fun W hs ha => HST.out 8 (by omega) wr.heap.size (wr.heap.size + 1) W hs ha)
   generalize wr.heap.size = Rs at *
   have hdec : ∀ x y : Nat, x < y → (decide ((x : Int) ≥ (y : Int))) = false := fun x y h => decide_eq_false (by omega)
   refine wpIn_loop (DecJ w.heap.size B11 n1 Rs stop w (refs.map (partR m)) v s attr) (fun a W => 2 - cellN (a.tmps.getD 15 undef) W) (decJ_of w7.heap.size 0 [] rfl ⟨by omega, by omega, by simp⟩ (by rw [World.size_alloc]; exact hK0)) ?_
   clear hK0 hI7 hs7 ha7 hb7 HI2 hnw hnwr HFF HF H1 H2 H3 H4 H5 H6 hDD hCC HN1 HPA HST
   rintro a W ⟨Br, r, u, ds, rfl, ⟨hr2, hBr, hBrW⟩, HK⟩
   unfold decF
   have hcBr := HK.out.2.2.1.cell
   by_cases hlt : r < 2
   ·have hl2 : ((r : Int) < 2) = True := eq_true (by omega)
    have HK9 : RndK w.heap.size B11 n1 Rs Br r stop w (refs.map (partR m)) v s attr W.heap.size ds (W.alloc (.cells #[.int .i64 0] 3)) := rndK_alloc (Nat.le_refl _) (by omega) HK.out _
    have hbi : Boxed (W.alloc (.cells #[.int .i64 0] 3)) W.heap.size 3 (.int .i64 0) := Boxed.new W _ _
    have hz9 : (W.alloc (.cells #[.int .i64 0] 3)).heap.size = W.heap.size + 1 := by simp
    gi_wp2
    generalize hW9 : W.alloc (.cells #[.int .i64 0] 3) = W9 at *
    have HW9 := Aside0.mk hW9
    have HZ9 := Aside0.mk hz9
    clear hW9 hz9
    refine wpIn_rangeFunc_ownG rfl (by omega) (gf := 46) (lb := #[.pointer (some ⟨Rs, 0, none⟩), .pointer (some ⟨Rs + 1, 0, none⟩)]) rfl trivial (enters_of Try.func46 (by kernel_rfl) rfl)
     (HST2.out W9 HK9.2.1.1 HK9.2.1.2) KpR.trans ?kb (Below.refl _ _) (fun _ => rfl)
     (fun pre V => pre <+: refs.map (prR m) ∧ Boxed V W.heap.size 3 (.int .i64 (pre.length : Nat)) ∧ RndK w.heap.size B11 n1 Rs Br r stop w (refs.map (partR m)) v s attr W.heap.size ds V ∧ W.heap.size + 1 ≤ V.heap.size)
     (fun c pre V => (¬ pre <+: refs.map (prR m)) ∨ (c = .exit 4 ∧ r = 0 ∧ ((pre.length : Nat) : Int) = stop ∧ pre <+: refs.map (prR m) ∧ Boxed V W.heap.size 3 (.int .i64 (pre.length : Nat)) ∧ RndK w.heap.size B11 n1 Rs Br r stop w (refs.map (partR m)) v s attr W.heap.size ds V ∧ W.heap.size + 1 ≤ V.heap.size))
     ?hI ?hIx ⟨List.nil_prefix, hbi, HK9, by rw [HZ9.out]; exact Nat.le_refl _⟩ ?a1 ?assign ?body ?done ?stop
    case kb =>
     intro V l o o' _ ho hc _ k cs T _ hk
     refine (World.putObj_heap_other (fun e => ?_)).trans hk
     subst e
     rw [hk] at ho
     cases ho
     cases hc
    case hI =>
     rintro pre V V' row ⟨i1, i2, i3, i4⟩ hg hrr
     rw [HZ9.out] at hrr
     exact ⟨i1, boxKept i2 hg hrr, rndK_own (Nat.le_refl _) (by omega) (by omega) (by omega) i3 hg hrr, Nat.le_trans i4 hg.size⟩
    case hIx =>
     rintro c pre V V' row (h | ⟨h1, h2, h3, i1, i2, i3, i4⟩) hg hrr
     ·exact .inl h
     ·rw [HZ9.out] at hrr
      exact .inr ⟨h1, h2, h3, i1, boxKept i2 hg hrr, rndK_own (Nat.le_refl _) (by omega) (by omega) (by omega) i3 hg hrr, Nat.le_trans i4 hg.size⟩
    case assign =>
     intro l x V K hK
     gi_wp2
     exact hK
    case body =>
     rintro l pre x V ⟨i1, i2, i3, i4⟩ hlen
     have hown := i3.1.1.2
     rw [List.length_map] at hown
     obtain ⟨g, cap, rfl, _, _⟩ := hown.form (by omega)
     have hps := prefix_snoc pre (refs.map (prR m)) x i1 (by rw [List.length_map]; exact hlen)
     rw [List.getElem_map] at hps
     have hcl : ∀ j, j < 4 → V.cell? ⟨g, pre.length * 4 + j, none⟩ = (partCells (partR m refs[pre.length]))[j]? := fun j hj => by
      rw [hown.cellAt (pre.length * 4 + j) (by omega), flat4_at partCells partCells_len (refs.map (partR m)) pre.length j (partR m refs[pre.length]) (by rw [List.getElem?_map, List.getElem?_eq_getElem hlen]; rfl) hj]
     have hx0 := hcl 0 (by omega)
     have hx1 := hcl 1 (by omega)
     generalize refs[pre.length] = y at hx0 hx1 hps
     obtain ⟨x1, x2⟩ := x
     obtain ⟨y1, y2, y3⟩ := y
     replace hx0 : V.cell? ⟨g, pre.length * 4, none⟩ = some (.int .i64 (y1 : Nat)) := hx0
     replace hx1 : V.cell? ⟨g, pre.length * 4 + 1, none⟩ = some (.string (m.extract y1 (y1 + 1 + y3))) := hx1
     replace hps : pre ++ [(x1, x2)] <+: refs.map (prR m) ↔ (y1, m.extract y1 (y1 + 1 + y3)) = (x1, x2) := hps
     generalize m.extract y1 (y1 + 1 + y3) = ty at hx1 hps
     have hc16 := i2.cell
     have hf16 := i2.frozen
     have hc11 := i3.1.1.1.cell
     have hc6 := i3.1.2.1.2.cell
     have hf6 := i3.1.2.1.2.frozen
     have hgl : decide ((pre.length : Int) ≥ (refs.length : Int)) = false := decide_eq_false (by omega)
     have hgl2 : ((refs.length : Int) ≤ (pre.length : Int)) = False := eq_false (by omega)
     have hgl3 : ((pre.length : Int) < (refs.length : Int)) = True := eq_true (by omega)
     have hgl4 : ((0 : Int) ≤ (pre.length : Int)) = True := eq_true (by omega)
     have HPS := Aside0.mk hps
     have HI1 := Aside0.mk i1
     have HI2 := Aside0.mk i2
     have HI3 := Aside0.mk i3
     have HI4 := Aside0.mk i4
     clear hcl hps i1 i2 i3 i4 hown
     by_cases c1 : x1 = y1
     ·subst c1
      by_cases c2 : x2 = ty
      ·subst c2
       have hb2 : (x2.toList == x2.toList) = true := beq_self_eq_true _
       have hw1 : IntKind.i64.wrap ((pre.length : Int) + 1) = (pre.length : Int) + 1 := IntWalk.i64_in _ (by omega)
       have hlen2 : (((pre ++ [(x1, x2)]).length : Nat) : Int) = (pre.length : Int) + 1 := by simp
       have HPRE := Aside0.mk (HPS.out.2 rfl)
       have HKP := Aside0.mk (kpR_put HI2.out (.int .i64 ((pre.length : Int) + 1)))
       have HB2 := Aside0.mk (HI2.out.set (.int .i64 ((pre.length : Int) + 1)))
       have HK2 := Aside0.mk (rndK_put (u := .int .i64 ((pre.length : Int) + 1)) (by omega) (by omega) (by omega) HI3.out HI2.out)
       have hz2 : (V.setCell ⟨W.heap.size, 0, none⟩ (.int .i64 ((pre.length : Int) + 1))).heap.size = V.heap.size := by simp
       have HZ2 := Aside0.mk hz2
       have HL2 := Aside0.mk hlen2
       have hd15 := HK2.out.2.2.1.cell
       have hd5 := HK2.out.1.2.1.1.cell
       have hd16 := HB2.out.cell
       clear hz2 hlen2
       by_cases hr0 : r = 0
       ·have hb0 : ((r : Int) == 0) = true := beq_iff_eq.2 (by omega)
        have HR0 := Aside0.mk hr0
        clear hr0
        by_cases hst : (pre.length : Int) + 1 = stop
        ·have hbs : ((pre.length : Int) + 1 == stop) = true := beq_iff_eq.2 hst
         have HST0 := Aside0.mk hst
         clear hst
         gi_wp2
         exact ⟨(KeepsOthers.setCell _ _ _).from _, .inr ⟨rfl, HR0.out, by rw [HL2.out]; exact HST0.out, HPRE.out, by rw [HL2.out]; exact HB2.out, HK2.out, by rw [HZ2.out]; exact HI4.out⟩⟩
        ·have hbs : ((pre.length : Int) + 1 == stop) = false := beq_eq_false_iff_ne.2 hst
         clear hst
         gi_wp2
         exact ⟨(KeepsOthers.setCell _ _ _).from _, HKP.out, HPRE.out, by rw [HL2.out]; exact HB2.out, HK2.out, by rw [HZ2.out]; exact HI4.out⟩
       ·have hb0 : ((r : Int) == 0) = false := beq_eq_false_iff_ne.2 (by omega)
        gi_wp2
        exact ⟨(KeepsOthers.setCell _ _ _).from _, HKP.out, HPRE.out, by rw [HL2.out]; exact HB2.out, HK2.out, by rw [HZ2.out]; exact HI4.out⟩
      ·have hb2 : (x2.toList == ty.toList) = false := beq_eq_false_iff_ne.2 (fun e => c2 (bytes_eq (by rw [ByteArray.toList_eq, ByteArray.toList_eq] at e; exact e)))
       have HC2 := Aside0.mk c2
       clear c2
       gi_wp2
       exact ⟨(KeepsOthers.setCell _ _ _).from _, .inl fun h => by have := HPS.out.1 h; injection this with _ e; exact HC2.out e.symm⟩
     ·have hb1 : ((x1 : Int) != (y1 : Int)) = true := bne_iff_ne.2 (by omega)
      have HC1 := Aside0.mk c1
      clear c1
      gi_wp2
      exact ⟨(KeepsOthers.setCell _ _ _).from _, .inl fun h => by have := HPS.out.1 h; injection this with e _; exact HC1.out e.symm⟩
    case done =>
     rintro D ys V hD rfl ⟨i1, i2, i3, i4⟩ hKD
     rw [List.length_map] at i2
     have hown := i3.1.1.2
     rw [List.length_map] at hown
     obtain ⟨A2, c2, rfl⟩ := own_slice hown
     have hc16 := i2.cell
     have hc11 := i3.1.1.1.cell
     have hc15 := i3.2.2.1.cell
     have hw1 : IntKind.i64.wrap ((r : Int) + 1) = (r : Int) + 1 := IntWalk.i64_in _ (by omega)
     have HI2 := Aside0.mk i2
     have HI3 := Aside0.mk i3
     have HKD := Aside0.mk hKD
     clear i1 i2 i3 hown hKD
     have hR := rndK_next (Nat.le_refl _) (by omega) HI3.out (show n1 ≤ W.heap.size by omega) (by rw [HZ9.out] at hD; omega) HKD.out
     have HRN := Aside0.mk hR
     have hm1 := cellN_box (r := r + 1) hR.2.2.1
     have hm2 := cellN_box HK.out.2.2.1
     have HM1 := Aside0.mk hm1
     have HM2 := Aside0.mk hm2
     clear hR hm1 hm2
     gi_wp2
     refine ⟨decJ_of V.heap.size (r + 1) ({ target := .collected D, args := #[] } :: ds) rfl ⟨by omega, by omega, by simp⟩ HRN.out, ?_⟩
     show 2 - cellN (.pointer (some ⟨V.heap.size, 0, none⟩)) _ < 2 - cellN (.pointer (some ⟨Br, 0, none⟩)) W
     rw [HM1.out, HM2.out]
     omega
    case stop =>
     rintro D c pre V hD hpre (h | ⟨rfl, hr0, hst, i1, i2, i3, i4⟩) hKD
     ·exact absurd hpre h
     have hlen : pre.length ≤ refs.length := by have := i1.length_le; rwa [List.length_map] at this
     have hown := i3.1.1.2
     rw [List.length_map] at hown
     obtain ⟨A2, c2, rfl⟩ := own_slice hown
     have hc16 := i2.cell
     have hc11 := i3.1.1.1.cell
     have hc15 := i3.2.2.1.cell
     have hc5 := i3.1.2.1.1.cell
     have hw1 : IntKind.i64.wrap ((r : Int) + 1) = (r : Int) + 1 := IntWalk.i64_in _ (by omega)
     have hb1 : ((r : Int) == 1) = false := beq_eq_false_iff_ne.2 (by omega)
     have hbs : ((pre.length : Int) != stop) = false := bne_eq_false_iff_eq.2 hst
     have HI3 := Aside0.mk i3
     have HKD := Aside0.mk hKD
     have hR := rndK_next (Nat.le_refl _) (by omega) HI3.out (show n1 ≤ W.heap.size by omega) (by rw [HZ9.out] at hD; omega) HKD.out
     have HRN := Aside0.mk hR
     have hm1 := cellN_box (r := r + 1) hR.2.2.1
     have hm2 := cellN_box HK.out.2.2.1
     have HM1 := Aside0.mk hm1
     have HM2 := Aside0.mk hm2
     have HST0 := Aside0.mk hst
     have HR0 := Aside0.mk hr0
     clear hR hm1 hm2 i1 i2 i3 hown hKD hst hr0
     by_cases hle : (pre.length : Int) = (refs.length : Int)
     ·have hbl : ((pre.length : Int) != (refs.length : Int)) = false := bne_eq_false_iff_eq.2 hle
      clear hle
      gi_wp2
      refine ⟨decJ_of V.heap.size (r + 1) ({ target := .collected D, args := #[] } :: ds) rfl ⟨by omega, by omega, by simp⟩ HRN.out, ?_⟩
      show 2 - cellN (.pointer (some ⟨V.heap.size, 0, none⟩)) _ < 2 - cellN (.pointer (some ⟨Br, 0, none⟩)) W
      rw [HM1.out, HM2.out]
      omega
     ·have hbl : ((pre.length : Int) != (refs.length : Int)) = true := bne_iff_ne.2 hle
      clear hle
      gi_wp2
      refine ⟨decJ_of V.heap.size (r + 1) ({ target := .collected D, args := #[] } :: ds) rfl ⟨by omega, by omega, by simp⟩ HRN.out, ?_⟩
      show 2 - cellN (.pointer (some ⟨V.heap.size, 0, none⟩)) _ < 2 - cellN (.pointer (some ⟨Br, 0, none⟩)) W
      rw [HM1.out, HM2.out]
      omega
   ·obtain rfl : r = 2 := by omega
    have hl2 : ((2 : Int) < 2) = False := eq_false (by omega)
    have hI := HK.out.1
    have hc6 := hI.1
    have HKD := Aside0.mk HK.out.2.2.2.1
    have HB6 := Aside0.mk hI.2.1.2
    have HBW := Aside0.mk hI.2.2.1
    clear hI hc6
    gi_wp2_with (refine ⟨trivial, ?_⟩; gi_at_call 22; refine (callsIn_wide.2 (sievelaw06_awake.calls 400 true _ cuts_awake)).mono ?_; rintro e W2 ⟨rfl, hb2⟩; have hb6 : Boxed W2 (w.heap.size + 1) 4 (.bool false) := (hb2.block _ HB6.out.lt).trans HB6.out; have hc6 := hb6.cell; have hf6 := hb6.frozen)
    have hb3 : Below w.heap.size w (W2.setCell ⟨w.heap.size + 1, 0, none⟩ (.bool true)) := (HBW.out.trans (hb2.mono (by have := HBW.out.size; omega))).setCell (p := ⟨w.heap.size + 1, 0, none⟩) (by show w.heap.size ≤ w.heap.size + 1; omega) _
    have hds : DsI n1 W.heap.size ds (W2.setCell ⟨w.heap.size + 1, 0, none⟩ (.bool true)) := HKD.out.keep (Nat.le_refl _) fun k k1 k2 k3 => by
     refine ((grownBy_setCell' W2 (w.heap.size + 1) (.bool true)).block k ?_ (fun e => ?_)).trans ((hb2.block k k2).trans k3)
     ·have := hb2.size; omega
     ·have : k = w.heap.size + 1 := by simpa using e
      omega
    refine DsI.leave (lo := n1) (fun V => Boxed V (w.heap.size + 1) 4 (.bool true) ∧ Below w.heap.size w V) ?_ ?_ ds _ _ hds ⟨hb6.set _, hb3⟩
    ·rintro V D ⟨g1, g2⟩ hD hk
     have hr : ∀ r, some D = some r → w.heap.size ≤ r ∧ ∃ o : Obj, V.heap[r]? = some o ∧ o.isCells = false := fun r e => by
      cases e
      exact ⟨by omega, _, hk, rfl⟩
     exact ⟨boxKept g1 (grownBy_putObj' V D _) hr, ownFrom_below (β := Unit) (Nat.le_refl _) (Nat.le_refl _) () V _ (some D) g2 (grownBy_putObj' V D _) hr⟩
    ·rintro V ⟨g1, g2⟩
     have hcv := g1.cell
     refine ⟨.bool true, ?_, rfl, g2⟩
     simp [results, Try.results5, go_sem, hcv]
end Go.Proofs.Ythmbbkbmlnaghaa.P
end
section
namespace Go.Proofs.Ythmbbkbmlnaghaa.charrefDecodes
open Go.ChangeShapes Go.WideShapes Go.ChangeAt Go.RowKit Go.Proofs.YthmbbkbmlnaghaaW.PrintWords
open Go.ChangeMaps (open_string shut_string)
set_option linter.unusedVariables false
set_option linter.unusedSimpArgs false
theorem own : ownKnob Try.prog.godebug = none := by kernel_rfl
theorem short {H : Type} (s0 : ByteArray) (d1 : DataW H) (d2 : DataW H) (hk : Rows.uptoSmall H [DataW.lit (H := H) (.string s0.data.toList), d1, d2] = true) : s0.size ≤ 1048576 := by
 have h : Rows.uptoBulkAll [DataW.lit (H := H) (.string s0.data.toList), d1, d2] ≤ 1048576 := of_decide_eq_true hk
 simp only [Rows.uptoBulkAll, Rows.uptoBulk] at h
 have e0 : s0.data.toList.length = s0.size := by simp
 omega
set_option maxRecDepth 100000 in
theorem contract (H : Type) (enc : TypeId × Value → H) (W : World) (base : Nat) (args : Array Value) (ds gs : List (DataW H)) (before : List MemPlace)
  (hval : ∀ (j : Nat) t v, Try.f5.params[j]? = some t → args[j]? = some v → Value.okWide Try.prog W .any base t v)
  (hW : DataW.Whole enc Try.prog Try.f5.params.toList Rows.charrefDecodesSpec.vars false W args.toList ds gs before) (hk : Rows.uptoSmall H (ds ++ gs) = true) :
  Calls Try.prog 5 args W fun e W' => ∃ v, e = .returned v ∧ Rows.charrefDecodesSpec.post enc Try.prog Try.f5 false true false false W args v W' := by
 have hW' := hW
 obtain ⟨p, q, hA0, hV, rfl, hfz, hnd⟩ := hW
 have hA : DataW.TrodAll enc Try.prog W 0 (fun _ => true) true Try.f5.params.toList args.toList ds p := hA0
 rw [Try.params5] at hA hval
 obtain ⟨v0, vs0, d0, ds0, p0, q0, hargs, rfl, rfl, h0, r0⟩ := trodAll_cons hA
 obtain ⟨v1, vs1, d1, ds1, p1, q1, rfl, rfl, rfl, h1, r1⟩ := trodAll_cons r0
 obtain ⟨v2, vs2, d2, ds2, p2, q2, rfl, rfl, rfl, h2, r2⟩ := trodAll_cons r1
 obtain ⟨rfl, rfl, rfl⟩ := trodAll_nil r2
 obtain rfl : args = #[v0, v1, v2] := by cases args; simp_all
 obtain ⟨rfl, rfl⟩ := trodVars_none hV
 obtain ⟨a0, rfl, rfl, rfl, y0⟩ := open_string Try.underlying9 (hval 0 9 v0 rfl rfl) h0
 obtain ⟨a1, rfl, rfl, rfl⟩ := open_bool Try.underlying4 (hval 1 4 v1 rfl rfl) h1
 obtain ⟨a2, rfl, rfl, rfl, y2⟩ := open_int Try.underlying3 (hval 2 3 v2 rfl rfl) h2
 clear hA0
 simp only [List.append_nil] at hk
 have hs := short a0 _ _ hk
 refine (P.CharrefDecodes_walk a0 a1 a2 hs W).mono fun e W' ⟨he, bel⟩ => ?_
 subst he
 exact ⟨_, rfl, _, _, _, [], _, [], hW', trodAll_mk1 (shut_bool Try.underlying4 _), (trodAll_cons_mk (shut_string Try.underlying9 y0) (trodAll_cons_mk (shut_bool Try.underlying4 _) (trodAll_cons_mk (shut_int Try.underlying3 y2) trodAll_mk0))), rfl, bel.frame _, fun h => by cases h⟩
set_option maxRecDepth 100000 in
theorem lifted (os : Os) (started : os.Started) (H : Type) (enc : TypeId × Value → H) (F : Stop.Interp) :
  ReturnsInHanded {} Try.checked os 5 .any ((Rows.OpenSpec.upto Rows.charrefDecodesSpec).pre6 enc Try.prog Try.f5 Rows.charrefDecodesUptoRow.domain false) (((Rows.OpenSpec.upto Rows.charrefDecodesSpec).at F).post enc Try.prog Try.f5 false true false false) := by
 refine returnsInHanded_of_cond (C := Try.checked) (s := Rows.OpenSpec.upto Rows.charrefDecodesSpec) (k := Rows.uptoSmall) rfl own started (by kernel_rfl) Try.func5
  (OpenSpec.witness (enc := enc) (C := Try.checked) (s := Rows.OpenSpec.upto Rows.charrefDecodesSpec) (k := Rows.uptoSmall) rfl false ⟨#[], #[.string ByteArray.empty, .bool false, .int .i64 0], []⟩ 8 (by kernel_rfl) (by kernel_rfl) (by kernel_rfl)
   (x := ([.lit (.string []), .lit (.bool false), .lit (.int .i64 0)], [], [])) (by kernel_rfl) rfl (by kernel_rfl)) ?_
 intro W base args ds gs before hval hW _ hk _
 exact contract H enc W base args ds gs before hval hW hk
theorem proved : Rows.CharrefDecodesUptoSaid :=
 OpenClaim.holds_of_cond 5 Try.f5 rfl rfl rfl rfl rfl rfl rfl ⟨rfl, rfl, rfl, rfl, rfl⟩ rfl rfl rfl rfl rfl (by kernel_rfl) Try.func5 (by kernel_rfl)
  (of_decide_eq_true (by kernel_rfl)) (by unfold Func.isWrapper; first | (rw [if_pos (by decide +kernel)]; kernel_rfl) | (rw [if_neg (by decide +kernel)]; exact ⟨rfl, rfl⟩))
  (fun os started H enc _ F => lifted os started H enc F)
#print axioms proved
end Go.Proofs.Ythmbbkbmlnaghaa.charrefDecodes
namespace Go.Proofs.Ythmbbkbmlnaghaa
/-- The row, under a short name, for the claim. -/
theorem charrefDecodes_holds : Rows.CharrefDecodesUptoSaid := charrefDecodes.proved
end Go.Proofs.Ythmbbkbmlnaghaa
end
