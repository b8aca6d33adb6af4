/-
  charref.Decode: every reference replaced.
-/
import Derived.Test.YtilpbfbnnmclhaaHwholeD
import Derived.Test.YtilpbfbnnmclhaaHmend
namespace Go.Proofs.Ytilpbfbnnmclhaa.P
open Go.RowKit Go.Shelf Go.Proofs.YtilpbfbnnmclhaaW.PrintWords Go.Proofs.YtilpbfbnnmclhaaW.PrintLast Go.Proofs.YtilpbfbnnmclhaaW.PrintMore
set_option linter.unusedVariables false
set_option linter.unusedSimpArgs false

theorem refsGo_mono (attr : Bool) (s : ByteArray) : ∀ (k i : Nat), LeO (refsGo attr s k i) (refsGo attr s (k + 1) i)
  | 0, i => fun r h => by simp [refsGo] at h
  | k + 1, i => by
    have ih := refsGo_mono attr s k
    show LeO (refsGo attr s (k + 1) i) (refsGo attr s (k + 1 + 1) i)
    rw [refsGo, refsGo]
    refine LeO.ite ?_ (LeO.refl _)
    refine LeO.ite ?_ (ih _)
    refine LeO.bind (charref_next.mono _ _ _ _) (fun n => ?_)
    refine LeO.ite ?_ (LeO.refl _)
    refine LeO.ite (ih _) ?_
    exact LeO.bind (ih _) (fun _ => LeO.refl _)

def charref_Decode.f (k : Nat) (s : ByteArray) (attr : Bool) : Option ByteArray :=
  (utf_Mend.f s).bind fun m => (refsGo attr m k 0).bind fun refs =>
    if m.size ≤ 35184372088831 ∧ (repText id m.data.toList refs).length ≤ 140737488355328 then some ⟨(repText id m.data.toList refs).toArray⟩ else none
theorem charref_Decode.mono : ∀ s attr k, LeO (charref_Decode.f k s attr) (charref_Decode.f (k + 1) s attr) := by
  intro s attr k
  unfold charref_Decode.f
  refine LeO.bind (LeO.refl _) (fun m => ?_)
  exact LeO.bind (refsGo_mono attr m k 0) (fun _ => LeO.refl _)

theorem Decode1_calls (a : ByteArray) (n : Int) (b : Bool) (w : World) :
    Calls Try.prog 37 #[.agg #[.string a, .int .i64 n, .bool b]] w fun e w' => e = .returned (.string (id a)) ∧ Below w.heap.size w w' := by
  have hu60 := Try.underlying60
  have HB0 := Aside0.mk (Below.refl w.heap.size w)
  go_enter Try.func37, Try.ntmps37
  go_wp2_with (first | ((with_reducible refine gate_dst (N := 1) rfl ?_); refine box_event ?hg (N := 1) ?hd (cs := #[.string a, .int .i64 n, .bool b]) (t := 60) ?hr ?_; (case hd => rfl); (case hg => rfl); (case hr => first | (go_simp; done) | (go_simp; rfl)); intro gb hg w5 hbox hb; have HB5 := Aside0.mk (below_step HB0.out hb); have BK5 := Aside0.mk hbox; clear hb hbox hg; have hcg5 : w5.cell? ⟨gb, 0, none⟩ = some (.string a) := (blk_cell BK5.out 0).trans rfl))
  go_ret
  exact ⟨rfl, HB5.out⟩

theorem mendS_size (s : ByteArray) (m : ByteArray) (h : utf_Mend.f s = some m) : m = mendS s ∧ s.size ≤ 35184372088831 := by
  unfold utf_Mend.f at h
  by_cases c : s.size ≤ 35184372088831
  · rw [if_pos c] at h
    exact ⟨(Option.some.inj h).symm, c⟩
  · rw [if_neg c] at h
    cases h

set_option maxRecDepth 100000 in
set_option maxHeartbeats 2000000 in
theorem charref_Decode.calls (k : Nat) (s : ByteArray) (attr : Bool) (r : ByteArray) (w : World) (h : charref_Decode.f k s attr = some r) :
    Calls Try.prog 18 #[.string s, .bool attr] w fun e w' => e = .returned (.string r) ∧ Below w.heap.size w w' := by
  obtain ⟨m, hm, h⟩ := Option.bind_eq_some_iff.1 h
  obtain ⟨refs, hrefs, h⟩ := Option.bind_eq_some_iff.1 h
  by_cases hlen : m.size ≤ 35184372088831 ∧ (repText id m.data.toList refs).length ≤ 140737488355328
  case neg => rw [if_neg hlen] at h; cases h
  rw [if_pos hlen] at h
  have hr := Option.some.inj h
  clear h
  obtain ⟨hms, hlen⟩ := hlen
  have HM := Aside0.mk (utf_Mend.calls s m w hm)
  have HREP := Aside0.mk (fun W => D_replaced_calls k m attr id refs W hms hrefs hlen (fun x _ n b W => Decode1_calls x.2.1 n b W))
  have HR := Aside0.mk hr
  clear hm hrefs hlen hms hr
  go_enter Try.func18, Try.ntmps18
  go_wp2_with (first | (go_at_call 33; refine HM.out.mono ?_; rintro e w1 ⟨rfl, hb1⟩) | (go_at_call 32; refine (HREP.out w1).mono ?_; rintro e w2 ⟨rfl, hb2⟩))
  go_ret
  exact ⟨by rw [HR.out]; rfl, hb1.trans (hb2.mono hb1.size)⟩
end Go.Proofs.Ytilpbfbnnmclhaa.P
