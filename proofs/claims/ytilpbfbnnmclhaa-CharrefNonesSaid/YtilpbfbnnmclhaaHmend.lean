/-
  utf.Mend: a text of valid bytes alone.
-/
import Derived.Test.YtilpbfbnnmclhaaHread
import Derived.Test.YtilpbfbnnmclhaaHrunes
import Derived.Test.YtilpbfbnnmclhaaHconv
import Derived.Lib.TrimUEq
import Derived.Lib.OthersKept
import Derived.Lib.AtoiErrMem
namespace Go.Proofs.Ytilpbfbnnmclhaa.P
open Go.RowKit Go.Proofs.YtilpbfbnnmclhaaW.PrintWords Go.Proofs.YtilpbfbnnmclhaaW.PrintLast Go.Proofs.YtilpbfbnnmclhaaW.PrintMore
set_option linter.unusedVariables false
set_option linter.unusedSimpArgs false

/-! ### plain -/
/-- what the loop of utf.Mend asks at the head of bytes, by the model's own decode -/
def badL (l : List UInt8) : Bool := decide ((Lib.decodeL l).1 = 65533) && (decide (l.length < 3) || decide (l.take 3 ≠ [239, 191, 189]))
theorem enc_fffd : Lib.encodeRune ((65533 : Nat) : Int) = [239, 191, 189] := by decide +kernel
theorem badL_of (l : List UInt8) (hne : l ≠ []) : badL l = decide ((rdL l).2.2 ≠ 0) := by
  have hd := rdL_decode l hne
  have hf := rdL_facts l hne
  unfold badL
  by_cases h : (rdL l).2.2 = 0
  · rw [if_pos h] at hd
    rw [hd]
    have hw := rdL_whole l h hne
    by_cases h1 : (rdL l).1 = 65533
    · rw [h1, enc_fffd] at hw
      have e3 : l.take 3 = [239, 191, 189] := by rw [hw]; simp
      have el : ¬ l.length < 3 := by rw [hw]; simp
      simp [h, h1, e3, el]
    · simp [h, h1]
  · rw [if_neg h] at hd
    rw [hd]
    have : ¬ (3 ≤ l.length ∧ l.take 3 = [239, 191, 189]) := by
      rintro ⟨h3, ht⟩
      apply h
      have e : l = [239, 191, 189] ++ l.drop 3 := by rw [← ht, List.take_append_drop]
      rw [e]
      unfold rdL
      simp only [List.cons_append, List.nil_append, List.getD_cons_zero, List.getD_cons_succ]
      unfold rdN
      rw [List.length_cons, List.length_cons, List.length_cons]
      simp
    by_cases h3 : l.length < 3
    · simp [h, h3]
    · have : l.take 3 ≠ [239, 191, 189] := fun e => this ⟨by omega, e⟩
      simp [h, this]
theorem valid_dec (l : List UInt8) (hne : l ≠ []) : valid l = if badL l = true then false else valid (l.drop (Lib.decodeL l).2) := by
  rw [valid_step l hne, badL_of l hne, rdL_decode l hne]
  by_cases h : (rdL l).2.2 = 0
  · simp [h]
  · simp [h]

def mendS (s : ByteArray) : ByteArray := if valid s.data.toList = true then s else Hc_text (runes s.data.toList)

def utf_Mend.f (s : ByteArray) : Option ByteArray := if s.size ≤ 35184372088831 then some (mendS s) else none

theorem take3_extract (s : ByteArray) (pos : Nat) : (s.extract pos (pos + 3)).toList = (s.data.toList.drop pos).take 3 := by
  rw [Lib.extract_toList]
  congr 1
  omega

set_option maxRecDepth 100000 in
set_option maxHeartbeats 4000000 in
theorem utf_Mend.calls (s : ByteArray) (r : ByteArray) (w : World) (h : utf_Mend.f s = some r) :
    Calls Try.prog 33 #[.string s] w fun e w' => e = .returned (.string r) ∧ Below w.heap.size w w' := by
  unfold utf_Mend.f at h
  by_cases hsz : s.size ≤ 35184372088831
  case neg => rw [if_neg hsz] at h; cases h
  rw [if_pos hsz] at h
  have hr := Option.some.inj h
  clear h
  have HR := Aside0.mk hr
  clear hr
  go_enter Try.func33, Try.ntmps33
  go_wp2
  go_loopw [3] (fun v wr => ∃ (pos : Nat) (b : Bool), v = .bool b ∧ pos ≤ s.size ∧ Aside0 ((b && valid (s.data.toList.drop pos)) = valid s.data.toList) ∧ wr.heap[w.heap.size]? = some (.stringIter s pos) ∧ Below w.heap.size w wr) (fun _ wr => s.size - wr.iterPos w.heap.size)
  case atStart =>
    refine ⟨0, true, rfl, Nat.zero_le _, ⟨by simp⟩, ?_, ?_⟩
    · have := World.iter_heap w s 0
      simpa using this
    · exact (Below.refl _ w).alloc (Nat.le_refl _) _
  case round =>
    obtain ⟨pos, b, rfl, hpl, hv, hit, hbw⟩ := hrel
    have hlt0 : w.heap.size < wr.heap.size := (Array.getElem?_eq_some_iff.1 hit).1
    by_cases hp : pos < s.size
    · have hnx : ∀ ty, (Instr.next (.pointer (some ⟨w.heap.size, 0, none⟩)) true ty).run Try.prog wr = _ := fun ty => Lib.run_next_any_at wr w.heap.size s pos ty hit hp
      have hd1 := decode_le s pos
      have hwd : 1 ≤ (Utf8.decode s pos).2 := by
        by_cases ha : (s[pos]'hp).toNat < 128
        · rw [decode_ascii s pos hp ha]
          exact Nat.le_refl _
        · exact (decode_high s pos hp (by omega)).2
      have hne : s.data.toList.drop pos ≠ [] := by
        intro e
        have := congrArg List.length e
        simp at this
        have h2 : s.data.size = s.size := rfl
        omega
      have hlen : (s.data.toList.drop pos).length = s.size - pos := by simp
      have hvd := valid_dec _ hne
      rw [Lib.decodeL_drop, List.drop_drop] at hvd
      have hbd : badL (s.data.toList.drop pos) = (decide ((Utf8.decode s pos).1 = 65533) && (decide (s.size - pos < 3) || decide ((s.extract pos (pos + 3)).toList ≠ [239, 191, 189]))) := by
        unfold badL
        rw [Lib.decodeL_drop, hlen, take3_extract]
      have hit2 := Lib.iterAt_heap wr w.heap.size s pos (pos + (Utf8.decode s pos).2) hit
      have hbw2 := Lib.below_iterAt hbw (k := w.heap.size) (by omega) s (pos + (Utf8.decode s pos).2)
      have hps : pos + (Utf8.decode s pos).2 ≤ s.size := by
        have h1 := rdL_decode _ hne
        rw [Lib.decodeL_drop] at h1
        have h2 := rdL_facts _ hne
        have h3 := h2.2.1
        rw [hlen] at h3
        rw [h1]
        split <;> simp only <;> omega
      rw [hbd] at hvd
      have HVD := Aside0.mk hvd
      clear hvd hbd hlen hne
      have hme : s.size - (wr.iterAt w.heap.size s (pos + (Utf8.decode s pos).2)).iterPos w.heap.size < s.size - wr.iterPos w.heap.size := by
        simp only [World.iterPos, hit2, hit]
        omega
      have HME := Aside0.mk hme
      clear hme hwd
      by_cases h1 : (Utf8.decode s pos).1 = 65533
      · by_cases h2 : s.size - pos < 3
        · have hw : IntKind.i64.wrap ((s.size : Int) - (pos : Int)) = (s.size : Int) - (pos : Int) := IntWalk.i64_in _ (by omega)
          have hlt3 : decide ((s.size : Int) - (pos : Int) < 3) = true := decide_eq_true (by omega)
          have hvf : valid (s.data.toList.drop pos) = false := by rw [HVD.out]; simp [h1, h2]
          have HVF := Aside0.mk hvf
          clear hvf
          go_wp2
          refine ⟨⟨_, false, rfl, hps, ⟨?_⟩, hit2, hbw2⟩, HME.out⟩
          rw [← hv.out, HVF.out]
          simp
        · have hw : IntKind.i64.wrap ((s.size : Int) - (pos : Int)) = (s.size : Int) - (pos : Int) := IntWalk.i64_in _ (by omega)
          have hlt3 : decide ((s.size : Int) - (pos : Int) < 3) = false := decide_eq_false (by omega)
          have hw3 : IntKind.i64.wrap ((pos : Int) + 3) = (pos : Int) + 3 := IntWalk.i64_in _ (by omega)
          have k1 : ((0 : Int) ≤ (pos : Int)) = True := eq_true (by omega)
          have k2 : ((pos : Int) ≤ (pos : Int) + 3) = True := eq_true (by omega)
          have k3 : ((pos : Int) + 3 ≤ (s.size : Int)) = True := eq_true (by omega)
          have k4 : ((pos : Int) + 3).toNat = pos + 3 := by omega
          by_cases h3 : (s.extract pos (pos + 3)).toList = [239, 191, 189]
          · have hvf : valid (s.data.toList.drop pos) = valid (s.data.toList.drop (pos + (Utf8.decode s pos).2)) := by rw [HVD.out]; simp [h1, h2, h3]
            have HVF := Aside0.mk hvf
            clear hvf
            go_wp2
            refine ⟨⟨_, b, rfl, hps, ⟨?_⟩, hit2, hbw2⟩, HME.out⟩
            rw [← hv.out, HVF.out]
          · have hvf : valid (s.data.toList.drop pos) = false := by rw [HVD.out]; simp [h1, h2, h3]
            have HVF := Aside0.mk hvf
            clear hvf
            have h3b : ((s.extract pos (pos + 3)).toList == [239, 191, 189]) = false := beq_eq_false_iff_ne.2 h3
            go_wp2
            refine ⟨⟨_, false, rfl, hps, ⟨?_⟩, hit2, hbw2⟩, HME.out⟩
            rw [← hv.out, HVF.out]
            simp
      · have hvf : valid (s.data.toList.drop pos) = valid (s.data.toList.drop (pos + (Utf8.decode s pos).2)) := by rw [HVD.out]; simp [h1]
        have HVF := Aside0.mk hvf
        clear hvf
        go_wp2
        refine ⟨⟨_, b, rfl, hps, ⟨?_⟩, hit2, hbw2⟩, HME.out⟩
        rw [← hv.out, HVF.out]
    · obtain rfl : pos = s.size := by omega
      have hnx : ∀ ty, (Instr.next (.pointer (some ⟨w.heap.size, 0, none⟩)) true ty).run Try.prog wr = _ := fun ty => Lib.run_next_end_at wr w.heap.size s s.size ty hit hp
      have hvb : b = valid s.data.toList := by
        have := hv.out
        rw [List.drop_eq_nil_of_le (by simp), valid_nil, Bool.and_true] at this
        exact this
      have HVB := Aside0.mk hvb
      clear hvb hv
      cases b with
      | true =>
        have hm := HR.out
        unfold mendS at hm
        rw [if_pos HVB.out.symm] at hm
        subst hm
        go_wp2
        go_ret
        exact ⟨rfl, hbw⟩
      | false =>
        have hnv : ¬ valid s.data.toList = true := by rw [← HVB.out]; simp
        have HM := HR.out
        unfold mendS at HM
        rw [if_neg hnv] at HM
        have HMR := Aside0.mk HM
        clear HM hnv
        have hcv := Lib.run_convert_string_bytes (P := Try.prog) wr 9 31 5 s Try.underlying9 Try.underlying31 Try.underlying5
        have hbb := Lib.bytesWorld_below wr 5 s
        have hbs := Lib.bytesWorld_size wr 5 s
        have hrd : Kd.C (Kd.int .u8) (Lib.bytesWorld wr 5 s) (some ⟨wr.heap.size, 0, none⟩) s.size (zs s.data.toList) :=
          Kd.C_of_reads (enc := Value.int .u8) (d := (0 : Int)) (h1 := fun _ => rfl) ⟨by simp [zs], by omega, fun _ => ⟨_, rfl, fun j hj => by
            rw [add_plain, Lib.bytesWorld_cell wr 5 s j hj]
            have := rd_zs s.data.toList j
            unfold rd at this
            rw [Int.toNat_natCast] at this
            rw [this]⟩⟩
        have hz : (zs s.data.toList).length = s.size := by simp [zs]
        rw [← hz] at hrd
        have hcall := utf_Runes_calls read_tells (some ⟨wr.heap.size, 0, none⟩) (Go.grownCap wr s.size 0 5) s.data.toList _ hrd (by simp; omega)
        rw [hz] at hcall
        have HC := Aside0.mk hcall
        have HBB := Aside0.mk hbb
        clear hcall hrd hz hbb
        go_wp2_with (go_at_call 56; refine HC.out.mono ?_; rintro e w2 ⟨v, rfl, hown, hb2⟩; have hcv2 := Hc_own_runes (P := Try.prog) (src := 29) (dst := 9) (e := 21) Try.underlying29 Try.underlying21 Try.underlying9 hown)
        go_ret
        have hm := HMR.out
        subst hm
        exact ⟨rfl, hbw.trans ((HBB.out.trans (hb2.mono (by omega))).mono (by omega))⟩
end Go.Proofs.Ytilpbfbnnmclhaa.P
