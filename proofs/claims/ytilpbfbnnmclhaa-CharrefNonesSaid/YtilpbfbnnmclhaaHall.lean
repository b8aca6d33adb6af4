/-
  utf.All: what it hands back, over a copy of the bytes; what its function does at a loop's rounds: the contract of the iterator.
-/
import Derived.Test.YtilpbfbnnmclhaaPA1
import Derived.RangeFuncNested
import Derived.RangeFuncBound
import Derived.RangeFuncCalls
import Derived.RangeFuncLeaves
import Derived.RangeFuncBox
import Derived.Shelf.Abstract
import Derived.OwnWalkIn
import Derived.TacticsInMore
import Derived.LoopNIn
import Derived.LoopIn
import Derived.Test.YtilpbfbnnmclhaaUtf
import Derived.Lib.Hide
namespace Go.Proofs.Ytilpbfbnnmclhaa.P
open Go.RowKit Go.Shelf Go.Proofs.YtilpbfbnnmclhaaW.PrintWords Go.Proofs.YtilpbfbnnmclhaaW.PrintLast Go.Proofs.YtilpbfbnnmclhaaW.PrintMore
set_option linter.unusedVariables false
set_option linter.unusedSimpArgs false

set_option maxHeartbeats 1000000 in
theorem utf_All_calls (A : Option Addr) (c0 : Nat) (l0 : List Int) (w : World) (hr : Kd.C (Kd.int .u8) w A l0.length l0) (hb : l0.length ≤ 140737488355328) :
    Calls Try.prog 76 #[.slice A l0.length c0] w fun e w' => e = .returned (.func (.func 84) #[] #[.pointer (some ⟨w.heap.size, 0, none⟩)]) ∧
      (∃ v, w'.heap[w.heap.size]? = some (.cells #[v] 31 (0, 0)) ∧ Kd.R (Kd.int .u8) 5 w' w.heap.size (fun k => k ≠ w.heap.size) v l0) ∧ Below w.heap.size w w' := by
  have HR := Aside0.mk hr
  clear hr
  go_enter Try.func76, Try.ntmps76
  go_wp2_with (at_builtin; refine Kd.R_append_row (Value.int .u8) (0 : Int) (w0 := w) (h1 := fun _ => rfl) w.heap.size rfl (.const (.slice none 0 0)) (.tmp 3) 31 5 (.int .u8 0) 1 rfl Try.underlying31 info5 rfl (by omega) (.slice none 0 0) [] l0 A l0.length c0 (fun k => k ≠ w.heap.size) rfl rfl ?aF ?aO ?aC ?aB ?aS ?aL ?_)
  case aF => intro k hk; simp at hk; omega
  case aO => exact Kd.R_nil _ _ _ _ _
  case aC => exact Kd.C_alloc HR.out _
  case aB => exact (Below.refl _ _).alloc (Nat.le_refl _) _
  case aS => simp
  case aL => simpa using hb
  intro v1 w1 ho hbw hg hat
  obtain ⟨Ao, co, rfl⟩ := Kd.R_slice ho
  have hblk : w1.heap[w.heap.size]? = some (.cells #[.slice A l0.length c0] 31 (0, 0)) := (hg.block w.heap.size (by simp) (by simp [Value.ownBlock])).trans (heap_alloc_new w _)
  have HO := Aside0.mk ho
  have HB := Aside0.mk hbw
  have HBK := Aside0.mk hblk
  have hc : w1.cell? ⟨w.heap.size, 0, none⟩ = some (.slice A l0.length c0) := (blk_cell hblk 0).trans rfl
  have hf := blk_frozen hblk 0
  clear ho hbw hg hat hblk
  go_wp2
  go_ret
  refine ⟨rfl, ⟨.slice Ao l0.length co, ?_, ?_⟩, ?_⟩
  · exact blk_put (cs := #[.slice A l0.length c0]) HBK.out 0 _ rfl
  · exact Kd.R_far (p := ⟨w.heap.size, 0, none⟩) HO.out (fun _ hk => hk) _
  · exact below_set HB.out (Nat.le_refl _)

/-! ### bytes that lie in blocks m0 .. n0, and are read -/
def Mid (m0 n0 : Nat) (W W' : World) : Prop := ∀ k, m0 ≤ k → k < n0 → W'.heap[k]? = W.heap[k]?
theorem Mid.refl (m0 n0 : Nat) (W : World) : Mid m0 n0 W W := fun _ _ _ => rfl
theorem Mid.trans {m0 n0 : Nat} {A B C : World} (h : Mid m0 n0 A B) (k : Mid m0 n0 B C) : Mid m0 n0 A C := fun i h1 h2 => (k i h1 h2).trans (h i h1 h2)
theorem Mid.drewN {m0 n0 : Nat} {A B : World} (h : Mid m0 n0 A B) (m : Nat) : Mid m0 n0 A (B.drewN m) := h
theorem Mid.below {m0 n0 : Nat} {A B : World} (h : Below n0 A B) : Mid m0 n0 A B := fun k _ hk => h.block k hk
theorem Mid.grown {m0 n0 : Nat} {A B : World} {row : Option Nat} (h : A.grownBy B row) (hs : n0 ≤ A.heap.size) (hr : ∀ r, row = some r → r < m0 ∨ n0 ≤ r) : Mid m0 n0 A B :=
  fun k h1 h2 => h.block k (by omega) (fun e => by have := hr k e.symm; omega)
theorem Mid.cell {m0 n0 : Nat} {A B : World} (h : Mid m0 n0 A B) {p : Addr} (h1 : m0 ≤ p.block) (h2 : p.block < n0) : B.cell? p = A.cell? p := World.cell?_of_block (h _ h1 h2)
theorem Mid.putObj {m0 n0 : Nat} {W : World} {l : Nat} {o o' : Obj} (hl : n0 ≤ l) (h : W.heap[l]? = some o) : Mid m0 n0 W (W.putObj l o') :=
  Mid.grown (grownBy_putObj' W l o') (by have := (Array.getElem?_eq_some_iff.1 h).1; omega) (fun r e => by cases e; exact .inr hl)
def BytesAt (m0 n0 : Nat) (W : World) (A : Option Addr) (zs : List Int) : Prop :=
  zs.length ≤ 9223372036854775807 ∧ (0 < zs.length → ∃ ad, A = some ad ∧ (m0 ≤ ad.block ∧ ad.block < n0) ∧ ∀ j, j < zs.length → W.cell? (ad.add j) = some (.int .u8 (zs.getD j 0)))
theorem block_add (a : Addr) (n : Nat) : (a.add n).block = a.block := by unfold Addr.add; split <;> rfl
theorem BytesAt.mid {m0 n0 : Nat} {W W' : World} {A : Option Addr} {zs : List Int} (h : BytesAt m0 n0 W A zs) (hb : Mid m0 n0 W W') : BytesAt m0 n0 W' A zs :=
  ⟨h.1, fun hn => by
    obtain ⟨ad, e, hlt, hc⟩ := h.2 hn
    exact ⟨ad, e, hlt, fun j hj => (hb.cell (p := ad.add j) (by rw [block_add]; exact hlt.1) (by rw [block_add]; exact hlt.2)).trans (hc j hj)⟩⟩
theorem BytesAt.C {m0 n0 : Nat} {W : World} {A : Option Addr} {zs : List Int} (h : BytesAt m0 n0 W A zs) : Kd.C (Kd.int .u8) W A zs.length zs :=
  Kd.C_of_reads (enc := Value.int .u8) (d := (0 : Int)) (h1 := fun _ => rfl) ⟨rfl, h.1, fun hn => by
    obtain ⟨ad, e, _, hc⟩ := h.2 hn
    exact ⟨ad, e, hc⟩⟩
theorem BytesAt.of_R {base : Nat} {ok : Nat → Prop} {W : World} {A : Option Addr} {c : Nat} {zs : List Int} (h : Kd.R (Kd.int .u8) 5 W base ok (.slice A zs.length c) zs) : BytesAt base W.heap.size W A zs ∧ zs.length ≤ c := by
  obtain ⟨h1, h2, h3⟩ := Kd.R_reads' h
  have hr := Kd.reads_of_C (enc := Value.int .u8) (d := (0 : Int)) (h1 := fun _ => rfl) h3
  have hb := Kd.R_base h
  refine ⟨⟨hr.2.1, fun hn => ?_⟩, h2⟩
  obtain ⟨ad, e, hc⟩ := hr.2.2 hn
  subst e
  refine ⟨ad, rfl, ⟨?_, ?_⟩, hc⟩
  · have := own_base (Kd.own_of_R h) ad.block rfl
    exact this
  · have := World.block_lt_of_cell? _ _ (hc 0 hn)
    rwa [block_add] at this

/-! ### the pieces of bytes: where each begins, and its rune -/
def pcsGo : Nat → Nat → List UInt8 → List (Nat × Int)
  | 0, _, _ => []
  | n + 1, p, l => if l = [] then [] else (p, ((rdL l).1 : Int)) :: pcsGo n (p + (rdL l).2.1) (l.drop (rdL l).2.1)
def pcs (p : Nat) (l : List UInt8) : List (Nat × Int) := pcsGo l.length p l
theorem pcsGo_fuel : ∀ (n m p : Nat) (l : List UInt8), l.length ≤ n → l.length ≤ m → pcsGo n p l = pcsGo m p l
  | 0, m, p, l, hn, _ => by
    obtain rfl : l = [] := List.eq_nil_of_length_eq_zero (by omega)
    cases m <;> simp [pcsGo]
  | n + 1, 0, p, l, _, hm => by
    obtain rfl : l = [] := List.eq_nil_of_length_eq_zero (by omega)
    simp [pcsGo]
  | n + 1, m + 1, p, l, hn, hm => by
    unfold pcsGo
    by_cases hne : l = []
    · simp [hne]
    · have hw := (rdL_facts l hne).1
      have hl : 0 < l.length := List.length_pos_iff.2 hne
      rw [if_neg hne, if_neg hne, pcsGo_fuel n m _ (l.drop (rdL l).2.1) (by rw [List.length_drop]; omega) (by rw [List.length_drop]; omega)]
theorem pcs_nil (p : Nat) : pcs p [] = [] := rfl
theorem pcs_step (p : Nat) (l : List UInt8) (hne : l ≠ []) : pcs p l = (p, ((rdL l).1 : Int)) :: pcs (p + (rdL l).2.1) (l.drop (rdL l).2.1) := by
  have hl : 0 < l.length := List.length_pos_iff.2 hne
  have hw := (rdL_facts l hne).1
  obtain ⟨n, hn⟩ : ∃ n, l.length = n + 1 := ⟨l.length - 1, by omega⟩
  unfold pcs
  rw [hn]
  show (if l = [] then [] else _) = _
  rw [if_neg hne, pcsGo_fuel n (l.drop (rdL l).2.1).length _ _ (by rw [List.length_drop]; omega) (Nat.le_refl _)]
theorem pcs_runes : ∀ (n : Nat) (l : List UInt8) (p : Nat), l.length ≤ n → (pcs p l).map (·.2) = runes l
  | 0, l, p, h => by
    obtain rfl : l = [] := List.eq_nil_of_length_eq_zero (by omega)
    rfl
  | n + 1, l, p, h => by
    by_cases hne : l = []
    · subst hne; rfl
    · have hw := (rdL_facts l hne).1
      have hl : 0 < l.length := List.length_pos_iff.2 hne
      rw [pcs_step p l hne, runes_step l hne, List.map_cons, pcs_runes n _ _ (by rw [List.length_drop]; omega)]


def zs (l : List UInt8) : List Int := l.map fun b => (b.toNat : Int)
theorem zs_length (l : List UInt8) : (zs l).length = l.length := by simp [zs]
theorem zs_drop (l : List UInt8) (k : Nat) : (zs l).drop k = zs (l.drop k) := by simp [zs]

/-- what 'utf.read' tells at the head of bytes: a premise here, paid in plain Lean elsewhere -/
def ReadTells : Prop := ∀ l : List UInt8, l ≠ [] → ∃ k, utf_read.f k (zs l) = some (((rdL l).1 : Int), ((rdL l).2.1 : Int), ((rdL l).2.2 : Int))

attribute [local go_sem] Oper.semAt_some

set_option maxHeartbeats 4000000 in
set_option maxRecDepth 100000 in
theorem all1_in (hrd : ReadTells) (n : Nat) (hn : 1 ≤ n) (l Bb m0 n0 : Nat) (A : Option Addr) (cap : Nat) (bs : List UInt8) (hlen : bs.length ≤ 140737488355328) (hcap : bs.length ≤ cap) (J Jx : List (Nat × Int) → World → Prop)
    (hJd : ∀ s W W', J s W → Below W.heap.size W W' → J s W')
    (hY : ∀ pre x W, J pre W → pre.length < (pcs 0 bs).length → YieldAt Fence.wide (n - 1) Try.prog l #[.int .i64 (x.1 : Nat), .int .i32 x.2] W fun e W' =>
      (e = .returned (.bool true) ∧ J (pre ++ [x]) W' ∧ Mid m0 n0 W W') ∨ (e = .returned (.bool false) ∧ Jx (pre ++ [x]) W'))
    (W : World) (hBb : m0 ≤ Bb ∧ Bb < n0) (hbox : W.cell? ⟨Bb, 0, none⟩ = some (.slice A bs.length cap)) (hby : BytesAt m0 n0 W A (zs bs)) (h0 : J [] W) :
    CallsIn Fence.wide n Try.prog 84 #[.func (.yield l) #[] #[], .pointer (some ⟨Bb, 0, none⟩)] W fun e W' => (∃ v, e = .returned v) ∧
      ((∃ ys, ys = pcs 0 bs ∧ J ys W') ∨ (∃ pre, pre <+: pcs 0 bs ∧ Jx pre W')) := by
  have HY := Aside0.mk hY
  have HJd := Aside0.mk hJd
  have HBY := Aside0.mk hby
  have HRD := Aside0.mk hrd
  clear hY hJd hby hrd
  obtain ⟨i07, hi07, _, hsz7, _⟩ := info_parts info5
  refine callsIn_of_wp Try.func84 rfl trivial ?_ rfl
  simp only [Try.ntmps84, List.size_toArray, List.length_cons, List.length_nil, Nat.reduceAdd, Nat.reduceSub, Array.replicate_succ, Array.replicate_zero, List.push_toArray, List.append_toArray, List.nil_append, List.cons_append]
  gi_wp2
  gi_loopw [3] (fun at_ wr => ∃ (k : Nat) (pre : List (Nat × Int)), k ≤ bs.length ∧ at_ = .int .i64 k ∧ Aside0 (J pre wr) ∧ Aside0 (pre ++ pcs k (bs.drop k) = pcs 0 bs) ∧ Aside0 (Mid m0 n0 W wr))
    (fun at_ _ => bs.length - (intOf at_).toNat)
  case atStart => exact ⟨0, [], Nat.zero_le _, rfl, ⟨h0⟩, ⟨by simp⟩, ⟨Mid.refl _ _ _⟩⟩
  case round =>
    obtain ⟨k, pre, hk, rfl, hJ, hpre, hbl⟩ := hrel
    have hc : wr.cell? ⟨Bb, 0, none⟩ = some (.slice A bs.length cap) := (hbl.out.cell (p := ⟨Bb, 0, none⟩) hBb.1 hBb.2).trans hbox
    by_cases hlt : k < bs.length
    · have hne : bs.drop k ≠ [] := by
        intro e
        have := congrArg List.length e
        simp at this
        omega
      have hstep := pcs_step k (bs.drop k) hne
      have hfacts := rdL_facts (bs.drop k) hne
      obtain ⟨kr, hread⟩ := HRD.out (bs.drop k) hne
      have hbyt := HBY.out.mid hbl.out
      obtain ⟨A7, hcut7, hA7, hC7⟩ := print_drop_of (P := Try.prog) (Value.int .u8) 0 31 5 .i64 Try.underlying31 hi07 hsz7 A cap (zs bs) (k : Int) (by omega) (by rw [zs_length]; omega) (by rw [zs_length]; exact hcap)
      have hC := Aside0.mk (Kd.C_of_reads (h1 := fun _ => rfl) (hA7 wr (Kd.reads_of_C (d := (0 : Int)) hbyt.C)))
      clear hA7 hbyt
      simp only [Int.toNat_natCast, zs_drop] at hcut7 hC hC7
      generalize zs (bs.drop k) = Z at hcut7 hC hC7 hread
      rw [zs_length] at hcut7
      have hmk : k + (rdL (bs.drop k)).2.1 ≤ bs.length := by
        have := hfacts.2.1
        rw [List.length_drop] at this
        omega
      have hm1 := hfacts.1
      clear hfacts hne
      have hpl : pre.length < (pcs 0 bs).length := by
        rw [← hpre.out, hstep]
        simp
      have hpre2 : (pre ++ [(k, ((rdL (bs.drop k)).1 : Int))]) ++ pcs (k + (rdL (bs.drop k)).2.1) (bs.drop (k + (rdL (bs.drop k)).2.1)) = pcs 0 bs := by
        rw [← hpre.out, hstep, List.append_assoc, List.drop_drop]
        rfl
      have HP2 := Aside0.mk hpre2
      have HPL := Aside0.mk hpl
      clear hstep hpre2 hpl hpre
      generalize rdL (bs.drop k) = q at hread hmk hm1 HP2
      obtain ⟨q1, q2, q3⟩ := q
      dsimp only at hread hmk hm1 HP2
      have HREAD := Aside0.mk hread
      have HC7 := Aside0.mk hC7
      clear hread hC7
      have hw3 : IntKind.i64.wrap ((k : Int) + (q2 : Int)) = (k : Int) + (q2 : Int) := IntWalk.i64_in _ (by omega)
      gi_wp2_with (refine ⟨trivial, ?_⟩; gi_at_call 85; refine (callsIn_wide.2 (utf_read.calls kr _ _ Z _ _ _ _ hC.out HC7.out HREAD.out)).mono ?_; rintro e w' ⟨rfl, hdr⟩; obtain ⟨md, rfl⟩ := hdr.out; obtain ⟨fn, tmps, assign, body, hy, hR⟩ := HY.out pre (k, (q1 : Int)) _ (HJd.out _ _ _ hJ.out (pw_below_drewN (Below.refl _ _) md)) HPL.out; dsimp only at hy)
      refine hR.mono ?_
      rintro e W3 (⟨rfl, hJ3, hk3⟩ | ⟨rfl, hJx3⟩)
      · have HJ3 := Aside0.mk hJ3
        have HK3 := Aside0.mk hk3
        clear hJ3 hk3
        gi_wp2
        go_roundw
        case rel => exact ⟨k + q2, pre ++ [(k, (q1 : Int))], hmk, by go_num, HJ3, HP2, ⟨(hbl.out.drewN md).trans HK3.out⟩⟩
        case measure => simp [intOf]; omega
      · have HJx3 := Aside0.mk hJx3
        clear hJx3
        gi_wp2
        refine bodyPost_ret (results_none rfl _ _ _) rfl ?_
        exact ⟨⟨_, rfl⟩, .inr ⟨pre ++ [(k, (q1 : Int))], ⟨_, HP2.out⟩, HJx3.out⟩⟩
    · obtain rfl : k = bs.length := by omega
      gi_wp2
      go_end0
      exact ⟨⟨_, rfl⟩, .inl ⟨pre, by have := hpre.out; simpa [pcs_nil] using this, hJ.out⟩⟩

theorem all_stops (hrd : ReadTells) (n : Nat) (hn : 1 ≤ n) (Bb m0 n0 : Nat) (A : Option Addr) (cap : Nat) (bs : List UInt8) (hlen : bs.length ≤ 140737488355328) (hcap : bs.length ≤ cap) (w : World)
    (hBb : m0 ≤ Bb ∧ Bb < n0) (hn0 : n0 ≤ w.heap.size) (hbox : w.cell? ⟨Bb, 0, none⟩ = some (.slice A bs.length cap)) (hby : BytesAt m0 n0 w A (zs bs)) :
    SeqStopsK Fence.wide n Try.prog 84 #[.pointer (some ⟨Bb, 0, none⟩)] (fun x : Nat × Int => #[Value.int .i64 (x.1 : Nat), Value.int .i32 x.2]) (Mid m0 n0) (fun ys => ys = pcs 0 bs) (fun pre => pre <+: pcs 0 bs) (pcs 0 bs).length w :=
  fun l J Jx W hW hJ _ hY h0 => all1_in hrd n hn l Bb m0 n0 A cap bs hlen hcap J Jx (fun s W1 W2 hs hb => hJ s W1 W2 none hs (grown_of_below hb none) (fun r e => by cases e)) hY W hBb
    ((hW.cell (p := ⟨Bb, 0, none⟩) (by show Bb < _; omega)).trans hbox) (hby.mid (Mid.below (hW.mono hn0))) h0
end Go.Proofs.Ytilpbfbnnmclhaa.P
