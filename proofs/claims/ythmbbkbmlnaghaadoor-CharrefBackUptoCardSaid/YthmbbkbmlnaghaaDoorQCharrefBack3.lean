/-
  Part 4 of 6 of the proof's texts, joined: Hall, Hread, Hrunes, Hmend, Hdec, Ldec, Ldec2, Hascii, Lless, Lback, PA8, Hawake, Lw, PA2.
  (Where a joined text began as one that the kit's print.sh printed, it is trimmed here to what this claim uses, by this session's pack.py.)
-/
import Derived.Test.YthmbbkbmlnaghaaDoorQCharrefBack0
import Derived.Test.YthmbbkbmlnaghaaDoorQCharrefBack1
import Derived.Test.YthmbbkbmlnaghaaDoorQCharrefBack2
import Derived.RangeFuncNested
import Derived.RangeFuncBound
import Derived.RangeFuncCalls
import Derived.RangeFuncLeaves
import Derived.RangeFuncBox
import Derived.Shelf.Abstract
import Derived.OwnWalkIn
import Derived.TacticsInMore
import Derived.LoopNIn
import Derived.LoopIn
import Derived.Lib.Hide
import Derived.Laws.BitsAllLaws
import Derived.Maps.AppendAt
import Derived.Lib.TrimUEq
import Derived.Lib.OthersKept
import Derived.Lib.AtoiErrMem
import Derived.Lib.ItoaNum
section
/-
 utf.All: what it hands back, over a copy of the bytes; what its function does at a loop's rounds: the contract of the iterator.
-/
namespace Go.Proofs.YthmbbkbmlnaghaaDoor.P
open Go.RowKit Go.Shelf Go.Proofs.YthmbbkbmlnaghaaDoorW.PrintWords Go.Proofs.YthmbbkbmlnaghaaDoorW.PrintLast Go.Proofs.YthmbbkbmlnaghaaDoorW.PrintMore
set_option linter.unusedVariables false
set_option linter.unusedSimpArgs false

set_option maxHeartbeats 1000000 in
theorem utf_All_calls (A : Option Addr) (c0 : Nat) (l0 : List Int) (w : World) (hr : Kd.C (Kd.int .u8) w A l0.length l0) (hb : l0.length ≤ 140737488355328) :
  Calls Tryd.prog 60 #[.slice A l0.length c0] w fun e w' => e = .returned (.func (.func 77) #[] #[.pointer (some ⟨w.heap.size, 0, none⟩)]) ∧
   (∃ v, w'.heap[w.heap.size]? = some (.cells #[v] 46 (0, 0)) ∧ Kd.R (Kd.int .u8) 5 w' w.heap.size (fun k => k ≠ w.heap.size) v l0) ∧ Below w.heap.size w w' := by
 have HR := Aside0.mk hr
 clear hr
 go_enter Tryd.func60, Tryd.ntmps60
 go_wp2_with (at_builtin; refine Kd.R_append_row (Value.int .u8) (0 : Int) (w0 := w) (h1 := fun _ => rfl) w.heap.size rfl (.const (.slice none 0 0)) (.tmp 3) 46 5 (.int .u8 0) 1 rfl Tryd.underlying46 info5 rfl (by omega) (.slice none 0 0) [] l0 A l0.length c0 (fun k => k ≠ w.heap.size) rfl rfl ?aF ?aO ?aC ?aB ?aS ?aL ?_)
 case aF => intro k hk; simp at hk; omega
 case aO => exact Kd.R_nil _ _ _ _ _
 case aC => exact Kd.C_alloc HR.out _
 case aB => exact (Below.refl _ _).alloc (Nat.le_refl _) _
 case aS => simp
 case aL => simpa using hb
 intro v1 w1 ho hbw hg hat
 obtain ⟨Ao, co, rfl⟩ := Kd.R_slice ho
 have hblk : w1.heap[w.heap.size]? = some (.cells #[.slice A l0.length c0] 46 (0, 0)) := (hg.block w.heap.size (by simp) (by simp [Value.ownBlock])).trans (heap_alloc_new w _)
 have HO := Aside0.mk ho
 have HB := Aside0.mk hbw
 have HBK := Aside0.mk hblk
 have hc : w1.cell? ⟨w.heap.size, 0, none⟩ = some (.slice A l0.length c0) := (blk_cell hblk 0).trans rfl
 have hf := blk_frozen hblk 0
 clear ho hbw hg hat hblk
 go_wp2
 go_ret
 refine ⟨rfl, ⟨.slice Ao l0.length co, ?_, ?_⟩, ?_⟩
 ·exact blk_put (cs := #[.slice A l0.length c0]) HBK.out 0 _ rfl
 ·exact Kd.R_far (p := ⟨w.heap.size, 0, none⟩) HO.out (fun _ hk => hk) _
 ·exact below_set HB.out (Nat.le_refl _)

/-! ### bytes that lie in blocks m0 .. n0, and are read -/
def Mid (m0 n0 : Nat) (W W' : World) : Prop := ∀ k, m0 ≤ k → k < n0 → W'.heap[k]? = W.heap[k]?
theorem Mid.refl (m0 n0 : Nat) (W : World) : Mid m0 n0 W W := fun _ _ _ => rfl
theorem Mid.trans {m0 n0 : Nat} {A B C : World} (h : Mid m0 n0 A B) (k : Mid m0 n0 B C) : Mid m0 n0 A C := fun i h1 h2 => (k i h1 h2).trans (h i h1 h2)
theorem Mid.drewN {m0 n0 : Nat} {A B : World} (h : Mid m0 n0 A B) (m : Nat) : Mid m0 n0 A (B.drewN m) := h
theorem Mid.below {m0 n0 : Nat} {A B : World} (h : Below n0 A B) : Mid m0 n0 A B := fun k _ hk => h.block k hk
theorem Mid.grown {m0 n0 : Nat} {A B : World} {row : Option Nat} (h : A.grownBy B row) (hs : n0 ≤ A.heap.size) (hr : ∀ r, row = some r → r < m0 ∨ n0 ≤ r) : Mid m0 n0 A B :=
 fun k h1 h2 => h.block k (by omega) (fun e => by have := hr k e.symm; omega)
theorem Mid.cell {m0 n0 : Nat} {A B : World} (h : Mid m0 n0 A B) {p : Addr} (h1 : m0 ≤ p.block) (h2 : p.block < n0) : B.cell? p = A.cell? p := World.cell?_of_block (h _ h1 h2)
theorem Mid.putObj {m0 n0 : Nat} {W : World} {l : Nat} {o o' : Obj} (hl : n0 ≤ l) (h : W.heap[l]? = some o) : Mid m0 n0 W (W.putObj l o') :=
 Mid.grown (grownBy_putObj' W l o') (by have := (Array.getElem?_eq_some_iff.1 h).1; omega) (fun r e => by cases e; exact .inr hl)
def BytesAt (m0 n0 : Nat) (W : World) (A : Option Addr) (zs : List Int) : Prop :=
 zs.length ≤ 9223372036854775807 ∧ (0 < zs.length → ∃ ad, A = some ad ∧ (m0 ≤ ad.block ∧ ad.block < n0) ∧ ∀ j, j < zs.length → W.cell? (ad.add j) = some (.int .u8 (zs.getD j 0)))
theorem block_add (a : Addr) (n : Nat) : (a.add n).block = a.block := by unfold Addr.add; split <;> rfl
theorem BytesAt.mid {m0 n0 : Nat} {W W' : World} {A : Option Addr} {zs : List Int} (h : BytesAt m0 n0 W A zs) (hb : Mid m0 n0 W W') : BytesAt m0 n0 W' A zs :=
 ⟨h.1, fun hn => by
  obtain ⟨ad, e, hlt, hc⟩ := h.2 hn
  exact ⟨ad, e, hlt, fun j hj => (hb.cell (p := ad.add j) (by rw [block_add]; exact hlt.1) (by rw [block_add]; exact hlt.2)).trans (hc j hj)⟩⟩
theorem BytesAt.C {m0 n0 : Nat} {W : World} {A : Option Addr} {zs : List Int} (h : BytesAt m0 n0 W A zs) : Kd.C (Kd.int .u8) W A zs.length zs :=
 Kd.C_of_reads (enc := Value.int .u8) (d := (0 : Int)) (h1 := fun _ => rfl) ⟨rfl, h.1, fun hn => by
  obtain ⟨ad, e, _, hc⟩ := h.2 hn
  exact ⟨ad, e, hc⟩⟩
theorem BytesAt.of_R {base : Nat} {ok : Nat → Prop} {W : World} {A : Option Addr} {c : Nat} {zs : List Int} (h : Kd.R (Kd.int .u8) 5 W base ok (.slice A zs.length c) zs) : BytesAt base W.heap.size W A zs ∧ zs.length ≤ c := by
 obtain ⟨h1, h2, h3⟩ := Kd.R_reads' h
 have hr := Kd.reads_of_C (enc := Value.int .u8) (d := (0 : Int)) (h1 := fun _ => rfl) h3
 have hb := Kd.R_base h
 refine ⟨⟨hr.2.1, fun hn => ?_⟩, h2⟩
 obtain ⟨ad, e, hc⟩ := hr.2.2 hn
 subst e
 refine ⟨ad, rfl, ⟨?_, ?_⟩, hc⟩
 ·have := own_base (Kd.own_of_R h) ad.block rfl
  exact this
 ·have := World.block_lt_of_cell? _ _ (hc 0 hn)
  rwa [block_add] at this

/-! ### the pieces of bytes: where each begins, and its rune -/
def pcsGo : Nat → Nat → List UInt8 → List (Nat × Int)
 | 0, _, _ => []
 | n + 1, p, l => if l = [] then [] else (p, ((rdL l).1 : Int)) :: pcsGo n (p + (rdL l).2.1) (l.drop (rdL l).2.1)
def pcs (p : Nat) (l : List UInt8) : List (Nat × Int) := pcsGo l.length p l
theorem pcsGo_fuel : ∀ (n m p : Nat) (l : List UInt8), l.length ≤ n → l.length ≤ m → pcsGo n p l = pcsGo m p l
 | 0, m, p, l, hn, _ => by
  obtain rfl : l = [] := List.eq_nil_of_length_eq_zero (by omega)
  cases m <;> simp [pcsGo]
 | n + 1, 0, p, l, _, hm => by
  obtain rfl : l = [] := List.eq_nil_of_length_eq_zero (by omega)
  simp [pcsGo]
 | n + 1, m + 1, p, l, hn, hm => by
  unfold pcsGo
  by_cases hne : l = []
  ·simp [hne]
  ·have hw := (rdL_facts l hne).1
   have hl : 0 < l.length := List.length_pos_iff.2 hne
   rw [if_neg hne, if_neg hne, pcsGo_fuel n m _ (l.drop (rdL l).2.1) (by rw [List.length_drop]; omega) (by rw [List.length_drop]; omega)]
theorem pcs_nil (p : Nat) : pcs p [] = [] := rfl
theorem pcs_step (p : Nat) (l : List UInt8) (hne : l ≠ []) : pcs p l = (p, ((rdL l).1 : Int)) :: pcs (p + (rdL l).2.1) (l.drop (rdL l).2.1) := by
 have hl : 0 < l.length := List.length_pos_iff.2 hne
 have hw := (rdL_facts l hne).1
 obtain ⟨n, hn⟩ : ∃ n, l.length = n + 1 := ⟨l.length - 1, by omega⟩
 unfold pcs
 rw [hn]
 show (if l = [] then [] else _) = _
 rw [if_neg hne, pcsGo_fuel n (l.drop (rdL l).2.1).length _ _ (by rw [List.length_drop]; omega) (Nat.le_refl _)]
theorem pcs_runes : ∀ (n : Nat) (l : List UInt8) (p : Nat), l.length ≤ n → (pcs p l).map (·.2) = runes l
 | 0, l, p, h => by
  obtain rfl : l = [] := List.eq_nil_of_length_eq_zero (by omega)
  rfl
 | n + 1, l, p, h => by
  by_cases hne : l = []
  ·subst hne; rfl
  ·have hw := (rdL_facts l hne).1
   have hl : 0 < l.length := List.length_pos_iff.2 hne
   rw [pcs_step p l hne, runes_step l hne, List.map_cons, pcs_runes n _ _ (by rw [List.length_drop]; omega)]


def zs (l : List UInt8) : List Int := l.map fun b => (b.toNat : Int)
theorem zs_length (l : List UInt8) : (zs l).length = l.length := by simp [zs]
theorem zs_drop (l : List UInt8) (k : Nat) : (zs l).drop k = zs (l.drop k) := by simp [zs]

/-- what 'utf.read' tells at the head of bytes: a premise here, paid in plain Lean elsewhere -/
def ReadTells : Prop := ∀ l : List UInt8, l ≠ [] → ∃ k, utf_read.f k (zs l) = some (((rdL l).1 : Int), ((rdL l).2.1 : Int), ((rdL l).2.2 : Int))

attribute [local go_sem] Oper.semAt_some

set_option maxHeartbeats 4000000 in
set_option maxRecDepth 100000 in
theorem all1_in (hrd : ReadTells) (n : Nat) (hn : 1 ≤ n) (l Bb m0 n0 : Nat) (A : Option Addr) (cap : Nat) (bs : List UInt8) (hlen : bs.length ≤ 140737488355328) (hcap : bs.length ≤ cap) (J Jx : List (Nat × Int) → World → Prop)
  (hJd : ∀ s W W', J s W → Below W.heap.size W W' → J s W')
  (hY : ∀ pre x W, J pre W → pre.length < (pcs 0 bs).length → YieldAt Fence.wide (n - 1) Tryd.prog l #[.int .i64 (x.1 : Nat), .int .i32 x.2] W fun e W' =>
   (e = .returned (.bool true) ∧ J (pre ++ [x]) W' ∧ Mid m0 n0 W W') ∨ (e = .returned (.bool false) ∧ Jx (pre ++ [x]) W'))
  (W : World) (hBb : m0 ≤ Bb ∧ Bb < n0) (hbox : W.cell? ⟨Bb, 0, none⟩ = some (.slice A bs.length cap)) (hby : BytesAt m0 n0 W A (zs bs)) (h0 : J [] W) :
  CallsIn Fence.wide n Tryd.prog 77 #[.func (.yield l) #[] #[], .pointer (some ⟨Bb, 0, none⟩)] W fun e W' => (∃ v, e = .returned v) ∧
   ((∃ ys, ys = pcs 0 bs ∧ J ys W') ∨ (∃ pre, pre <+: pcs 0 bs ∧ Jx pre W')) := by
 have HY := Aside0.mk hY
 have HJd := Aside0.mk hJd
 have HBY := Aside0.mk hby
 have HRD := Aside0.mk hrd
 clear hY hJd hby hrd
 obtain ⟨i07, hi07, _, hsz7, _⟩ := info_parts info5
 refine callsIn_of_wp Tryd.func77 rfl trivial ?_ rfl
 simp only [Tryd.ntmps77, List.size_toArray, List.length_cons, List.length_nil, Nat.reduceAdd, Nat.reduceSub, Array.replicate_succ, Array.replicate_zero, List.push_toArray, List.append_toArray, List.nil_append, List.cons_append]
 gi_wp2
 gi_loopw [3] (fun at_ wr => ∃ (k : Nat) (pre : List (Nat × Int)), k ≤ bs.length ∧ at_ = .int .i64 k ∧ Aside0 (J pre wr) ∧ Aside0 (pre ++ pcs k (bs.drop k) = pcs 0 bs) ∧ Aside0 (Mid m0 n0 W wr))
  (fun at_ _ => bs.length - (intOf at_).toNat)
 case atStart => exact ⟨0, [], Nat.zero_le _, rfl, ⟨h0⟩, ⟨by simp⟩, ⟨Mid.refl _ _ _⟩⟩
 case round =>
  obtain ⟨k, pre, hk, rfl, hJ, hpre, hbl⟩ := hrel
  have hc : wr.cell? ⟨Bb, 0, none⟩ = some (.slice A bs.length cap) := (hbl.out.cell (p := ⟨Bb, 0, none⟩) hBb.1 hBb.2).trans hbox
  by_cases hlt : k < bs.length
  ·have hne : bs.drop k ≠ [] := by
    intro e
    have := congrArg List.length e
    simp at this
    omega
   have hstep := pcs_step k (bs.drop k) hne
   have hfacts := rdL_facts (bs.drop k) hne
   obtain ⟨kr, hread⟩ := HRD.out (bs.drop k) hne
   have hbyt := HBY.out.mid hbl.out
   obtain ⟨A7, hcut7, hA7, hC7⟩ := print_drop_of (P := Tryd.prog) (Value.int .u8) 0 46 5 .i64 Tryd.underlying46 hi07 hsz7 A cap (zs bs) (k : Int) (by omega) (by rw [zs_length]; omega) (by rw [zs_length]; exact hcap)
   have hC := Aside0.mk (Kd.C_of_reads (h1 := fun _ => rfl) (hA7 wr (Kd.reads_of_C (d := (0 : Int)) hbyt.C)))
   clear hA7 hbyt
   simp only [Int.toNat_natCast, zs_drop] at hcut7 hC hC7
   generalize zs (bs.drop k) = Z at hcut7 hC hC7 hread
   rw [zs_length] at hcut7
   have hmk : k + (rdL (bs.drop k)).2.1 ≤ bs.length := by
    have := hfacts.2.1
    rw [List.length_drop] at this
    omega
   have hm1 := hfacts.1
   clear hfacts hne
   have hpl : pre.length < (pcs 0 bs).length := by
    rw [← hpre.out, hstep]
    simp
   have hpre2 : (pre ++ [(k, ((rdL (bs.drop k)).1 : Int))]) ++ pcs (k + (rdL (bs.drop k)).2.1) (bs.drop (k + (rdL (bs.drop k)).2.1)) = pcs 0 bs := by
    rw [← hpre.out, hstep, List.append_assoc, List.drop_drop]
    rfl
   have HP2 := Aside0.mk hpre2
   have HPL := Aside0.mk hpl
   clear hstep hpre2 hpl hpre
   generalize rdL (bs.drop k) = q at hread hmk hm1 HP2
   obtain ⟨q1, q2, q3⟩ := q
   dsimp only at hread hmk hm1 HP2
   have HREAD := Aside0.mk hread
   have HC7 := Aside0.mk hC7
   clear hread hC7
   have hw3 : IntKind.i64.wrap ((k : Int) + (q2 : Int)) = (k : Int) + (q2 : Int) := IntWalk.i64_in _ (by omega)
   gi_wp2_with (refine ⟨trivial, ?_⟩; gi_at_call 78; refine (callsIn_wide.2 (utf_read.calls kr _ _ Z _ _ _ _ hC.out HC7.out HREAD.out)).mono ?_; rintro e w' ⟨rfl, hdr⟩; obtain ⟨md, rfl⟩ := hdr.out; obtain ⟨fn, tmps, assign, body, hy, hR⟩ := HY.out pre (k, (q1 : Int)) _ (HJd.out _ _ _ hJ.out (pw_below_drewN (Below.refl _ _) md)) HPL.out; dsimp only at hy)
   refine hR.mono ?_
   rintro e W3 (⟨rfl, hJ3, hk3⟩ | ⟨rfl, hJx3⟩)
   ·have HJ3 := Aside0.mk hJ3
    have HK3 := Aside0.mk hk3
    clear hJ3 hk3
    gi_wp2
    go_roundw
    case rel => exact ⟨k + q2, pre ++ [(k, (q1 : Int))], hmk, by go_num, HJ3, HP2, ⟨(hbl.out.drewN md).trans HK3.out⟩⟩
    case measure => simp [intOf]; omega
   ·have HJx3 := Aside0.mk hJx3
    clear hJx3
    gi_wp2
    refine bodyPost_ret (results_none rfl _ _ _) rfl ?_
    exact ⟨⟨_, rfl⟩, .inr ⟨pre ++ [(k, (q1 : Int))], ⟨_, HP2.out⟩, HJx3.out⟩⟩
  ·obtain rfl : k = bs.length := by omega
   gi_wp2
   go_end0
   exact ⟨⟨_, rfl⟩, .inl ⟨pre, by have := hpre.out; simpa [pcs_nil] using this, hJ.out⟩⟩

theorem all_stops (hrd : ReadTells) (n : Nat) (hn : 1 ≤ n) (Bb m0 n0 : Nat) (A : Option Addr) (cap : Nat) (bs : List UInt8) (hlen : bs.length ≤ 140737488355328) (hcap : bs.length ≤ cap) (w : World)
  (hBb : m0 ≤ Bb ∧ Bb < n0) (hn0 : n0 ≤ w.heap.size) (hbox : w.cell? ⟨Bb, 0, none⟩ = some (.slice A bs.length cap)) (hby : BytesAt m0 n0 w A (zs bs)) :
  SeqStopsK Fence.wide n Tryd.prog 77 #[.pointer (some ⟨Bb, 0, none⟩)] (fun x : Nat × Int => #[Value.int .i64 (x.1 : Nat), Value.int .i32 x.2]) (Mid m0 n0) (fun ys => ys = pcs 0 bs) (fun pre => pre <+: pcs 0 bs) (pcs 0 bs).length w :=
 fun l J Jx W hW hJ _ hY h0 => all1_in hrd n hn l Bb m0 n0 A cap bs hlen hcap J Jx (fun s W1 W2 hs hb => hJ s W1 W2 none hs (grown_of_below hb none) (fun r e => by cases e)) hY W hBb
  ((hW.cell (p := ⟨Bb, 0, none⟩) (by show Bb < _; omega)).trans hbox) (hby.mid (Mid.below (hW.mono hn0))) h0
end Go.Proofs.YthmbbkbmlnaghaaDoor.P
end
section
/-
 utf.read, in plain Lean: what the printed function tells is 'rdL'.
-/
namespace Go.Proofs.YthmbbkbmlnaghaaDoor.P
open Go.RowKit Go.Proofs.YthmbbkbmlnaghaaDoorW.PrintWords Go.Proofs.YthmbbkbmlnaghaaDoorW.PrintLast Go.Proofs.YthmbbkbmlnaghaaDoorW.PrintMore
set_option linter.unusedVariables false
set_option linter.unusedSimpArgs false

def bdN (b : Nat) : Int × Int × Int :=
 if b < 128 then (0, 0, 0) else if b < 194 then (-1, 0, 0) else if b < 224 then (1, 128, 191) else if b = 224 then (2, 160, 191)
 else if b = 237 then (2, 128, 159) else if b < 240 then (2, 128, 191) else if b = 240 then (3, 144, 191) else if b < 244 then (3, 128, 191)
 else if b = 244 then (3, 128, 143) else (-1, 0, 0)
theorem bd_all : ∀ b : Fin 256, utf_bounds.f 9 ((b.val : Nat) : Int) = some (bdN b.val) := by decide +kernel
theorem and_all : ∀ b : Fin 256, Go.bits .and .u8 ((b.val : Nat) : Int) 63 = ((b.val % 64 : Nat) : Int) := by decide +kernel
theorem and_1 : ∀ b : Fin 256, Go.bits .and .i32 (wrap32 ((b.val : Nat) : Int)) (shr .i32 63 1) = ((b.val % 32 : Nat) : Int) := by decide +kernel
theorem and_2 : ∀ b : Fin 256, Go.bits .and .i32 (wrap32 ((b.val : Nat) : Int)) (shr .i32 63 2) = ((b.val % 16 : Nat) : Int) := by decide +kernel
theorem and_3 : ∀ b : Fin 256, Go.bits .and .i32 (wrap32 ((b.val : Nat) : Int)) (shr .i32 63 3) = ((b.val % 8 : Nat) : Int) := by decide +kernel

theorem i32_or_nat (a b : Nat) (ha : a < 2147483648) (hb : b < 2147483648) : Go.bits .or .i32 (a : Int) (b : Int) = ((a ||| b : Nat) : Int) := by
 have hab : a ||| b < 2147483648 := Nat.or_lt_two_pow (n := 31) ha hb
 have e : (BitVec.ofInt 32 (a : Int) ||| BitVec.ofInt 32 (b : Int)).toNat = a ||| b := by
  rw [BitVec.toNat_or, Go.ofInt_u32 a (by omega), Go.ofInt_u32 b (by omega)]
 have e0 : Go.bits .or .i32 (a : Int) (b : Int) = IntKind.i32.wrap (((BitVec.ofInt 32 (a : Int) ||| BitVec.ofInt 32 (b : Int)).toNat : Nat) : Int) := rfl
 rw [e0, e, i32_w]
 unfold wrap32
 omega
theorem or_add (x y : Nat) (hy : y < 64) : (x * 64) ||| y = x * 64 + y := nat_join 6 _ _ (by omega) (by simpa using hy)
theorem orL (x b : Nat) (hx : x < 33554432) (hb : b < 256) :
  Go.bits .or .i32 (wrap32 ((x : Int) * 64)) (wrap32 (Go.bits .and .u8 (b : Int) 63)) = ((x * 64 + b % 64 : Nat) : Int) := by
 have h1 := and_all ⟨b, hb⟩
 simp only at h1
 rw [h1]
 have e1 : wrap32 ((x : Int) * 64) = ((x * 64 : Nat) : Int) := by unfold wrap32; omega
 have e2 : wrap32 ((b % 64 : Nat) : Int) = ((b % 64 : Nat) : Int) := by unfold wrap32; omega
 rw [e1, e2, i32_or_nat _ _ (by omega) (by omega), or_add _ _ (by omega)]
theorem rd_zs (l : List UInt8) (i : Nat) : rd (zs l) (i : Int) = ((l.getD i 0).toNat : Int) := by
 unfold rd zs
 simp only [Int.toNat_natCast, List.getD_eq_getElem?_getD, List.getElem?_map]
 cases l[i]? <;> simp

theorem l0_go (k : Nat) (l : List UInt8) (m lo hi x i : Nat) (hi' : i ≤ l.length) (hi4 : i ≤ 4) (hm : m ≤ 4) (hx : x < 33554432) :
  utf_read.l0 (k + 1) (zs l) m lo hi x i = if m < i then some ((x : Int), ((m + 1 : Nat) : Int), 0) else if i = l.length then some (65533, (i : Int), 2)
   else if (l.getD i 0).toNat < lo then some (65533, (i : Int), 1) else if hi < (l.getD i 0).toNat then some (65533, (i : Int), 1)
   else utf_read.l0 k (zs l) m (128 : Nat) (191 : Nat) ((x * 64 + (l.getD i 0).toNat % 64 : Nat) : Int) ((i + 1 : Nat) : Int) := by
 rw [utf_read.l0, rd_zs, zs_length, orL x _ hx (UInt8.toNat_lt _)]
 have e1 : wrap64 ((i : Int) + 1) = ((i + 1 : Nat) : Int) := by unfold wrap64; omega
 have e2 : wrap64 ((m : Int) + 1) = ((m + 1 : Nat) : Int) := by unfold wrap64; omega
 rw [e1, e2]
 by_cases c1 : m < i
 ·rw [if_neg (by omega), if_pos c1]
 rw [if_pos (by omega), if_neg c1]
 by_cases c2 : i = l.length
 ·rw [if_pos (by omega), if_pos c2]
 rw [if_neg (by omega), if_neg c2, if_pos (by omega), if_pos (by omega)]
 by_cases c3 : (l.getD i 0).toNat < lo
 ·rw [if_pos (by omega), if_pos c3]
 rw [if_neg (by omega), if_neg c3]
 by_cases c4 : hi < (l.getD i 0).toNat
 ·rw [if_pos (by omega), if_pos c4]
 rw [if_neg (by omega), if_neg c4]
 rfl

theorem read_tells : ReadTells := by
 intro l hne
 refine ⟨9, ?_⟩
 have hl : 0 < l.length := List.length_pos_iff.2 hne
 have q0 := (l.getD 0 0).toNat_lt
 have q1 := (l.getD 1 0).toNat_lt
 have q2 := (l.getD 2 0).toNat_lt
 have q3 := (l.getD 3 0).toNat_lt
 have hb := bd_all ⟨_, q0⟩
 have h1 := and_1 ⟨_, q0⟩
 have h2 := and_2 ⟨_, q0⟩
 have h3 := and_3 ⟨_, q0⟩
 simp only at hb h1 h2 h3
 have e0 : rd (zs l) 0 = ((l.getD 0 0).toNat : Int) := rd_zs l 0
 unfold utf_read.f
 rw [zs_length, if_pos (by omega), e0, hb]
 show (if (bdN _).1 < 0 then _ else _) = _
 unfold rdL rdN
 by_cases c0 : (l.getD 0 0).toNat < 128
 ·have eb : bdN (l.getD 0 0).toNat = (0, 0, 0) := by unfold bdN; rw [if_pos c0]
  rw [eb, if_pos c0, if_neg (by decide), if_pos rfl]
  have : wrap32 (((l.getD 0 0).toNat : Nat) : Int) = ((l.getD 0 0).toNat : Int) := by unfold wrap32; omega
  rw [this]
  rfl
 rw [if_neg c0]
 by_cases c1 : (l.getD 0 0).toNat < 194
 ·have eb : bdN (l.getD 0 0).toNat = (-1, 0, 0) := by unfold bdN; rw [if_neg c0, if_pos c1]
  rw [eb, if_pos c1, if_pos (by decide)]
  rfl
 rw [if_neg c1]
 by_cases c2 : (l.getD 0 0).toNat < 224
 ·have eb : bdN (l.getD 0 0).toNat = (1, 128, 191) := by unfold bdN; rw [if_neg c0, if_neg c1, if_pos c2]
  rw [eb, if_pos c2, if_neg (by decide), if_neg (by decide), if_pos (by decide), h1]
  have g := l0_go 8 l 1 128 191 ((l.getD 0 0).toNat % 32) 1 (by omega) (by omega) (by omega) (by omega)
  refine Eq.trans g ?_
  rw [if_neg (by omega)]
  by_cases d1 : l.length ≤ 1
  ·rw [if_pos (by omega), if_pos d1]; rfl
  rw [if_neg (by omega), if_neg d1]
  by_cases d2 : (l.getD 1 0).toNat < 128
  ·rw [if_pos d2, if_pos (by omega)]; rfl
  rw [if_neg d2]
  by_cases d3 : 191 < (l.getD 1 0).toNat
  ·rw [if_pos d3, if_pos (by omega)]; rfl
  rw [if_neg d3, if_neg (by omega), l0_go 7 l 1 128 191 _ 2 (by omega) (by omega) (by omega) (by omega), if_pos (by omega)]
  rfl
 rw [if_neg c2]
 by_cases c3 : (l.getD 0 0).toNat < 240
 ·obtain ⟨lo, hi, eb, hlh⟩ : ∃ lo hi : Nat, bdN (l.getD 0 0).toNat = (2, (lo : Int), (hi : Int)) ∧
    (((l.getD 1 0).toNat < lo ∨ hi < (l.getD 1 0).toNat) ↔ ((l.getD 1 0).toNat < 128 ∨ 191 < (l.getD 1 0).toNat ∨ ((l.getD 0 0).toNat = 224 ∧ (l.getD 1 0).toNat < 160) ∨ ((l.getD 0 0).toNat = 237 ∧ 159 < (l.getD 1 0).toNat))) := by
   unfold bdN
   rw [if_neg c0, if_neg c1, if_neg c2]
   by_cases f1 : (l.getD 0 0).toNat = 224
   ·exact ⟨160, 191, by rw [if_pos f1]; rfl, by omega⟩
   by_cases f2 : (l.getD 0 0).toNat = 237
   ·exact ⟨128, 159, by rw [if_neg f1, if_pos f2]; rfl, by omega⟩
   exact ⟨128, 191, by rw [if_neg f1, if_neg f2, if_pos c3]; rfl, by omega⟩
  rw [eb, if_pos c3, if_neg (show ¬ ((2 : Int) < 0) by decide), if_neg (show ¬ ((2 : Int) = 0) by decide), if_pos (show (0 : Int) ≤ 2 by decide), h2]
  have g := l0_go 8 l 2 lo hi ((l.getD 0 0).toNat % 16) 1 (by omega) (by omega) (by omega) (by omega)
  refine Eq.trans g ?_
  rw [if_neg (by omega)]
  by_cases d1 : l.length ≤ 1
  ·rw [if_pos (by omega), if_pos d1]; rfl
  rw [if_neg (by omega), if_neg d1]
  by_cases d2 : (l.getD 1 0).toNat < lo
  ·rw [if_pos d2, if_pos (hlh.1 (.inl d2))]; rfl
  rw [if_neg d2]
  by_cases d3 : hi < (l.getD 1 0).toNat
  ·rw [if_pos d3, if_pos (hlh.1 (.inr d3))]; rfl
  rw [if_neg d3, if_neg (fun h => (hlh.2 h).elim d2 d3), l0_go 7 l 2 128 191 _ 2 (by omega) (by omega) (by omega) (by omega), if_neg (by omega)]
  by_cases d4 : l.length ≤ 2
  ·rw [if_pos (by omega), if_pos d4]; rfl
  rw [if_neg (by omega), if_neg d4]
  by_cases d5 : (l.getD 2 0).toNat < 128
  ·rw [if_pos d5, if_pos (by omega)]; rfl
  rw [if_neg d5]
  by_cases d6 : 191 < (l.getD 2 0).toNat
  ·rw [if_pos d6, if_pos (by omega)]; rfl
  rw [if_neg d6, if_neg (by omega), l0_go 6 l 2 128 191 _ 3 (by omega) (by omega) (by omega) (by omega), if_pos (by omega)]
  refine congrArg some (Prod.ext ?_ rfl)
  show (_ : Int) = ((_ : Nat) : Int)
  omega
 rw [if_neg c3]
 by_cases c4 : (l.getD 0 0).toNat < 245
 ·obtain ⟨lo, hi, eb, hlh⟩ : ∃ lo hi : Nat, bdN (l.getD 0 0).toNat = (3, (lo : Int), (hi : Int)) ∧
    (((l.getD 1 0).toNat < lo ∨ hi < (l.getD 1 0).toNat) ↔ ((l.getD 1 0).toNat < 128 ∨ 191 < (l.getD 1 0).toNat ∨ ((l.getD 0 0).toNat = 240 ∧ (l.getD 1 0).toNat < 144) ∨ ((l.getD 0 0).toNat = 244 ∧ 143 < (l.getD 1 0).toNat))) := by
   unfold bdN
   rw [if_neg c0, if_neg c1, if_neg c2, if_neg (by omega : ¬ (l.getD 0 0).toNat = 224), if_neg (by omega : ¬ (l.getD 0 0).toNat = 237), if_neg c3]
   by_cases f1 : (l.getD 0 0).toNat = 240
   ·exact ⟨144, 191, by rw [if_pos f1]; rfl, by omega⟩
   by_cases f2 : (l.getD 0 0).toNat < 244
   ·exact ⟨128, 191, by rw [if_neg f1, if_pos f2]; rfl, by omega⟩
   exact ⟨128, 143, by rw [if_neg f1, if_neg f2, if_pos (by omega)]; rfl, by omega⟩
  rw [eb, if_pos c4, if_neg (show ¬ ((3 : Int) < 0) by decide), if_neg (show ¬ ((3 : Int) = 0) by decide), if_pos (show (0 : Int) ≤ 3 by decide), h3]
  have g := l0_go 8 l 3 lo hi ((l.getD 0 0).toNat % 8) 1 (by omega) (by omega) (by omega) (by omega)
  refine Eq.trans g ?_
  rw [if_neg (by omega)]
  by_cases d1 : l.length ≤ 1
  ·rw [if_pos (by omega), if_pos d1]; rfl
  rw [if_neg (by omega), if_neg d1]
  by_cases d2 : (l.getD 1 0).toNat < lo
  ·rw [if_pos d2, if_pos (hlh.1 (.inl d2))]; rfl
  rw [if_neg d2]
  by_cases d3 : hi < (l.getD 1 0).toNat
  ·rw [if_pos d3, if_pos (hlh.1 (.inr d3))]; rfl
  rw [if_neg d3, if_neg (fun h => (hlh.2 h).elim d2 d3), l0_go 7 l 3 128 191 _ 2 (by omega) (by omega) (by omega) (by omega), if_neg (by omega)]
  by_cases d4 : l.length ≤ 2
  ·rw [if_pos (by omega), if_pos d4]; rfl
  rw [if_neg (by omega), if_neg d4]
  by_cases d5 : (l.getD 2 0).toNat < 128
  ·rw [if_pos d5, if_pos (by omega)]; rfl
  rw [if_neg d5]
  by_cases d6 : 191 < (l.getD 2 0).toNat
  ·rw [if_pos d6, if_pos (by omega)]; rfl
  rw [if_neg d6, if_neg (by omega), l0_go 6 l 3 128 191 _ 3 (by omega) (by omega) (by omega) (by omega), if_neg (by omega)]
  by_cases d7 : l.length ≤ 3
  ·rw [if_pos (by omega), if_pos d7]; rfl
  rw [if_neg (by omega), if_neg d7]
  by_cases d8 : (l.getD 3 0).toNat < 128
  ·rw [if_pos d8, if_pos (by omega)]; rfl
  rw [if_neg d8]
  by_cases d9 : 191 < (l.getD 3 0).toNat
  ·rw [if_pos d9, if_pos (by omega)]; rfl
  rw [if_neg d9, if_neg (by omega), l0_go 5 l 3 128 191 _ 4 (by omega) (by omega) (by omega) (by omega), if_pos (by omega)]
  refine congrArg some (Prod.ext ?_ rfl)
  show (_ : Int) = ((_ : Nat) : Int)
  omega
 ·have eb : bdN (l.getD 0 0).toNat = (-1, 0, 0) := by
   unfold bdN
   rw [if_neg c0, if_neg c1, if_neg c2, if_neg (by omega), if_neg (by omega), if_neg c3, if_neg (by omega), if_neg (by omega), if_neg (by omega)]
  rw [eb, if_neg c4, if_pos (by decide)]
  rfl
end Go.Proofs.YthmbbkbmlnaghaaDoor.P
end
section
/-
 utf.Runes: the runes of bytes: a loop over the iterator that collects.
-/
namespace Go.Proofs.YthmbbkbmlnaghaaDoor.P
open Go.RowKit Go.Shelf Go.Proofs.YthmbbkbmlnaghaaDoorW.PrintWords Go.Proofs.YthmbbkbmlnaghaaDoorW.PrintLast Go.Proofs.YthmbbkbmlnaghaaDoorW.PrintMore
set_option linter.unusedVariables false
set_option linter.unusedSimpArgs false
attribute [local go_sem] Oper.semAt_some

theorem mid_append {m0 n0 B : Nat} {W w1 : World} {e : TypeId} {v v' : Value} {k : Nat} {xs : List Value} {tmp : Obj} (hB : B < m0) (hn0 : n0 ≤ W.heap.size) (hrow : W.ownsRow n0 e 1 v k xs)
  (hgrow : (W.alloc tmp).grownBy w1 v.ownBlock) : Mid m0 n0 W (w1.setCell ⟨B, 0, none⟩ v') := by
 refine ((Mid.below ((Below.refl n0 W).alloc hn0 tmp)).trans (Mid.grown hgrow (by simp; omega) (fun r hr => .inr (own_base hrow r hr)))).trans ?_
 intro i h1 h2
 exact Below.heap_setCell _ _ _ i (by show i ≠ B; omega)

set_option maxRecDepth 100000 in
set_option maxHeartbeats 4000000 in
theorem utf_Runes_calls (hrd : ReadTells) (A : Option Addr) (c0 : Nat) (bs : List UInt8) (w : World) (hr : Kd.C (Kd.int .u8) w A (zs bs).length (zs bs)) (hlen : bs.length ≤ 35184372088831) :
  Calls Tryd.prog 44 #[.slice A (zs bs).length c0] w fun e w' => ∃ v : Value, e = .returned v ∧ w'.ownsRow w.heap.size 21 1 v (runes bs).length (nums .i32 (runes bs)) ∧ Below w.heap.size w w' := by
 have HR := Aside0.mk hr
 have HRD := Aside0.mk hrd
 have hzl : (zs bs).length = bs.length := zs_length bs
 have HZL := Aside0.mk hzl
 have hpl : ∀ n (l : List UInt8) p, l.length ≤ n → (pcs p l).length ≤ l.length := by
  intro n
  induction n with
  | zero =>
   intro l p h
   obtain rfl : l = [] := List.eq_nil_of_length_eq_zero (by omega)
   simp [pcs_nil]
  | succ n ih =>
   intro l p h
   by_cases hne : l = []
   ·subst hne; simp [pcs_nil]
   ·have hw := (rdL_facts l hne).1
    have hl : 0 < l.length := List.length_pos_iff.2 hne
    rw [pcs_step p l hne]
    have := ih (l.drop (rdL l).2.1) (p + (rdL l).2.1) (by rw [List.length_drop]; omega)
    rw [List.length_drop] at this
    simp only [List.length_cons]
    omega
 have HPL := Aside0.mk (hpl _ bs 0 (Nat.le_refl _))
 clear hr hrd hzl hpl
 obtain ⟨i0, hi, hz0, hz1, hz2⟩ := info_parts info21
 refine (callsIn_wide (n := 4)).1 ?_
 refine callsIn_of_wp_marks Tryd.func44 rfl trivial ?_ rfl
 simp only [Tryd.ntmps44, List.size_toArray, List.length_cons, List.length_nil, Nat.reduceAdd, Nat.reduceSub, Array.replicate_succ, Array.replicate_zero, List.push_toArray, List.append_toArray, List.nil_append, List.cons_append]
 generalize hL : zs bs = L at HR HZL ⊢
 have HL := Aside0.mk hL
 clear hL
 gi_wp2_with (refine ⟨trivial, ?_⟩; gi_at_call 60; refine (callsIn_wide.2 (utf_All_calls A c0 L _ (Kd.C_alloc HR.out _) (by have := HZL.out; omega))).mono ?_; rintro e w1 ⟨rfl, ⟨v, hbox, hR⟩, hB⟩)
 simp only [World.size_alloc] at hbox hR hB ⊢
 obtain ⟨A', cap', rfl⟩ := Kd.R_slice hR
 have hR' := BytesAt.of_R hR
 have hbO : Boxed w1 w.heap.size 44 (.slice none 0 0) := (hB.block w.heap.size (by omega)).trans (heap_alloc_new w _)
 have hB0 : Below w.heap.size w w1 := ((Below.refl _ w).alloc (Nat.le_refl _) _).trans (hB.mono (by omega))
 have hbN : w1.cell? ⟨w.heap.size + 1, 0, none⟩ = some (.slice A' L.length cap') := (blk_cell hbox 0).trans rfl
 have hsz : w.heap.size + 1 < w1.heap.size := (Array.getElem?_eq_some_iff.1 hbox).1
 rw [HZL.out] at hbN hR'
 clear hR hbox
 have hBY : BytesAt (w.heap.size + 1) w1.heap.size w1 A' (zs bs) := by rw [HL.out]; exact hR'.1
 have hcap' := hR'.2
 clear hR'
 generalize hn0 : w1.heap.size = n0 at hsz hBY
 have HN0 := Aside0.mk hn0
 clear hn0
 refine wpIn_rangeFunc_ownG rfl (by omega) (gf := 77) (lb := #[.pointer (some ⟨w.heap.size + 1, 0, none⟩)]) rfl trivial (enters_of Tryd.func77 (by kernel_rfl) rfl)
  (all_stops HRD.out _ (by omega) (w.heap.size + 1) (w.heap.size + 1) n0 A' cap' bs (by omega) hcap' w1 ⟨Nat.le_refl _, hsz⟩ (by rw [HN0.out]; exact Nat.le_refl _) hbN hBY) Mid.trans
  (fun W l o o' hl h _ _ => Mid.putObj (by rw [← HN0.out]; exact hl) h) (Below.refl _ _) (fun _ => rfl)
  (fun pre W => (∃ v, Boxed W w.heap.size 44 v ∧ W.ownsRow n0 21 1 v pre.length (pre.map fun p => Value.int .i32 p.2) ∧ True) ∧ (Below w.heap.size w W ∧ n0 ≤ W.heap.size))
  (fun _ _ _ => False)
  (OwnFrom.and (Own.from (holdsRow_own n0 w.heap.size 44 21 1 (fun pre : List (Nat × Int) => pre.length) (fun pre => pre.map fun p => Value.int .i32 p.2) (fun _ _ => True)) _) (OwnFrom.and (ownFrom_below (Nat.le_refl _) (by rw [HN0.out]; omega)) (fun _ _ _ _ hs hg _ => Nat.le_trans hs hg.size)))
  (fun _ _ _ _ _ hs _ _ => hs)
  ⟨⟨_, hbO, World.ownsRow_nil _ _ _ _, trivial⟩, hB0, by rw [HN0.out]; exact Nat.le_refl _⟩
  (fun x => { tmps := #[.slice A L.length c0, undef, .slice none 0 0, .pointer (some ⟨w.heap.size, 0, none⟩), undef, .int .i32 x.2, .slice A L.length c0, .func (.func 77) #[] #[.pointer (some ⟨w.heap.size + 1, 0, none⟩)], .int .i64 (x.1 : Nat), .int .i32 x.2, undef, undef, undef, undef, undef], defers := [] }) ?assign ?body ?done ?stop
 case assign =>
  intro l x W K hK
  gi_wp2
  exact hK
 case body =>
  rintro l pre x W ⟨⟨v, hv, hrow, _⟩, hB, hn0W⟩ hlt
  have hplm := HPL.out
  have hc := hv.cell
  have hrow' := own_less hrow (show w.heap.size ≤ n0 by omega)
  gi_wp2_with (gi_at_builtin; refine wpListIn_append_own _ rfl _ _ 44 rfl n0 21 i0 (.int .i32 0) 1 4 Tryd.underlying44 hi hz0 hz1 hz2 rfl (by decide) _ _ _ rfl (hrow.alloc _) ⟨W.heap.size, 0, none⟩ 1 1 [.int .i32 x.2] rfl rfl (cell_one_new _ _ _) (by simp [Value.oneCell']) (by simp only [maxLen]; omega) (by omega) (by simp; omega) ?_; intro v' w2 hown' hgrow _; obtain ⟨g', cap2, rfl⟩ := ownsRow_succ hown'; obtain ⟨hv1, hv2, hr2, hk2, hb2⟩ := hv.appended (by decide) hrow' (by have := hB.size; omega) (Nat.le_refl _) (own_less hown' (show w.heap.size ≤ n0 by omega)) hgrow; have hc1 := hv1.cell; have hf1 := hv1.frozen)
  have hmid := mid_append (m0 := w.heap.size + 1) (B := w.heap.size) (e := 21) (v' := .slice (some ⟨g', 0, none⟩) (pre.length + 1) cap2) (by omega) hn0W hrow hgrow
  have hr3 := hown'.kept (grownBy_setCell' w2 w.heap.size (.slice (some ⟨g', 0, none⟩) (pre.length + 1) cap2)) (.inr (hv1.not_row (by decide) hown').symm)
  exact ⟨hk2.from _, hmid, ⟨_, hv2, by simpa using hr3, trivial⟩, hB.trans hb2, Nat.le_trans hn0W hb2.size⟩
 case done =>
  rintro D ys W hD rfl ⟨⟨v, hv, hrow, _⟩, hB, _⟩ hK
  have hc := hv.cell
  gi_wp2
  refine ⟨by simp, .inl ⟨_, _, rfl, run_takeDeferred hK, ?_⟩⟩
  refine ⟨_, results_tmp rfl _ _ _, v, rfl, ?_, hB.trans (belowK_b (w := w) (Nat.le_refl _) W D _ _ (by rw [HN0.out] at hD; omega) hK rfl rfl)⟩
  have := ownsRow_putObj (own_less hrow (show w.heap.size ≤ n0 by omega)) (.deferred none) hK rfl
  have e1 := pcs_runes _ bs 0 (Nat.le_refl _)
  rw [← e1]
  simpa [nums, List.map_map, Function.comp_def] using this
 case stop =>
  rintro D c pre W _ _ h _
  exact h.elim
end Go.Proofs.YthmbbkbmlnaghaaDoor.P
end
section
/-
 utf.Mend: a text of valid bytes alone.
-/
namespace Go.Proofs.YthmbbkbmlnaghaaDoor.P
open Go.RowKit Go.Proofs.YthmbbkbmlnaghaaDoorW.PrintWords Go.Proofs.YthmbbkbmlnaghaaDoorW.PrintLast Go.Proofs.YthmbbkbmlnaghaaDoorW.PrintMore
set_option linter.unusedVariables false
set_option linter.unusedSimpArgs false

/-! ### plain -/
/-- what the loop of utf.Mend asks at the head of bytes, by the model's own decode -/
def badL (l : List UInt8) : Bool := decide ((Lib.decodeL l).1 = 65533) && (decide (l.length < 3) || decide (l.take 3 ≠ [239, 191, 189]))
theorem enc_fffd : Lib.encodeRune ((65533 : Nat) : Int) = [239, 191, 189] := by decide +kernel
theorem badL_of (l : List UInt8) (hne : l ≠ []) : badL l = decide ((rdL l).2.2 ≠ 0) := by
 have hd := rdL_decode l hne
 have hf := rdL_facts l hne
 unfold badL
 by_cases h : (rdL l).2.2 = 0
 ·rw [if_pos h] at hd
  rw [hd]
  have hw := rdL_whole l h hne
  by_cases h1 : (rdL l).1 = 65533
  ·rw [h1, enc_fffd] at hw
   have e3 : l.take 3 = [239, 191, 189] := by rw [hw]; simp
   have el : ¬ l.length < 3 := by rw [hw]; simp
   simp [h, h1, e3, el]
  ·simp [h, h1]
 ·rw [if_neg h] at hd
  rw [hd]
  have : ¬ (3 ≤ l.length ∧ l.take 3 = [239, 191, 189]) := by
   rintro ⟨h3, ht⟩
   apply h
   have e : l = [239, 191, 189] ++ l.drop 3 := by rw [← ht, List.take_append_drop]
   rw [e]
   unfold rdL
   simp only [List.cons_append, List.nil_append, List.getD_cons_zero, List.getD_cons_succ]
   unfold rdN
   rw [List.length_cons, List.length_cons, List.length_cons]
   simp
  by_cases h3 : l.length < 3
  ·simp [h, h3]
  ·have : l.take 3 ≠ [239, 191, 189] := fun e => this ⟨by omega, e⟩
   simp [h, this]
theorem valid_dec (l : List UInt8) (hne : l ≠ []) : valid l = if badL l = true then false else valid (l.drop (Lib.decodeL l).2) := by
 rw [valid_step l hne, badL_of l hne, rdL_decode l hne]
 by_cases h : (rdL l).2.2 = 0
 ·simp [h]
 ·simp [h]

def mendS (s : ByteArray) : ByteArray := if valid s.data.toList = true then s else Hc_text (runes s.data.toList)

def utf_Mend.f (s : ByteArray) : Option ByteArray := if s.size ≤ 35184372088831 then some (mendS s) else none

theorem take3_extract (s : ByteArray) (pos : Nat) : (s.extract pos (pos + 3)).toList = (s.data.toList.drop pos).take 3 := by
 rw [Lib.extract_toList]
 congr 1
 omega

set_option maxRecDepth 100000 in
set_option maxHeartbeats 4000000 in
theorem utf_Mend.calls (s : ByteArray) (r : ByteArray) (w : World) (h : utf_Mend.f s = some r) :
  Calls Tryd.prog 24 #[.string s] w fun e w' => e = .returned (.string r) ∧ Below w.heap.size w w' := by
 unfold utf_Mend.f at h
 by_cases hsz : s.size ≤ 35184372088831
 case neg => rw [if_neg hsz] at h; cases h
 rw [if_pos hsz] at h
 have hr := Option.some.inj h
 clear h
 have HR := Aside0.mk hr
 clear hr
 go_enter Tryd.func24, Tryd.ntmps24
 go_wp2
 go_loopw [3] (fun v wr => ∃ (pos : Nat) (b : Bool), v = .bool b ∧ pos ≤ s.size ∧ Aside0 ((b && valid (s.data.toList.drop pos)) = valid s.data.toList) ∧ wr.heap[w.heap.size]? = some (.stringIter s pos) ∧ Below w.heap.size w wr) (fun _ wr => s.size - wr.iterPos w.heap.size)
 case atStart =>
  refine ⟨0, true, rfl, Nat.zero_le _, ⟨by simp⟩, ?_, ?_⟩
  ·have := World.iter_heap w s 0
   simpa using this
  ·exact (Below.refl _ w).alloc (Nat.le_refl _) _
 case round =>
  obtain ⟨pos, b, rfl, hpl, hv, hit, hbw⟩ := hrel
  have hlt0 : w.heap.size < wr.heap.size := (Array.getElem?_eq_some_iff.1 hit).1
  by_cases hp : pos < s.size
  ·have hnx : ∀ ty, (Instr.next (.pointer (some ⟨w.heap.size, 0, none⟩)) true ty).run Tryd.prog wr = _ := fun ty => Lib.run_next_any_at wr w.heap.size s pos ty hit hp
   have hd1 := decode_le s pos
   have hwd : 1 ≤ (Utf8.decode s pos).2 := by
    by_cases ha : (s[pos]'hp).toNat < 128
    ·rw [decode_ascii s pos hp ha]
     exact Nat.le_refl _
    ·exact (decode_high s pos hp (by omega)).2
   have hne : s.data.toList.drop pos ≠ [] := by
    intro e
    have := congrArg List.length e
    simp at this
    have h2 : s.data.size = s.size := rfl
    omega
   have hlen : (s.data.toList.drop pos).length = s.size - pos := by simp
   have hvd := valid_dec _ hne
   rw [Lib.decodeL_drop, List.drop_drop] at hvd
   have hbd : badL (s.data.toList.drop pos) = (decide ((Utf8.decode s pos).1 = 65533) && (decide (s.size - pos < 3) || decide ((s.extract pos (pos + 3)).toList ≠ [239, 191, 189]))) := by
    unfold badL
    rw [Lib.decodeL_drop, hlen, take3_extract]
   have hit2 := Lib.iterAt_heap wr w.heap.size s pos (pos + (Utf8.decode s pos).2) hit
   have hbw2 := Lib.below_iterAt hbw (k := w.heap.size) (by omega) s (pos + (Utf8.decode s pos).2)
   have hps : pos + (Utf8.decode s pos).2 ≤ s.size := by
    have h1 := rdL_decode _ hne
    rw [Lib.decodeL_drop] at h1
    have h2 := rdL_facts _ hne
    have h3 := h2.2.1
    rw [hlen] at h3
    rw [h1]
    split <;> simp only <;> omega
   rw [hbd] at hvd
   have HVD := Aside0.mk hvd
   clear hvd hbd hlen hne
   have hme : s.size - (wr.iterAt w.heap.size s (pos + (Utf8.decode s pos).2)).iterPos w.heap.size < s.size - wr.iterPos w.heap.size := by
    simp only [World.iterPos, hit2, hit]
    omega
   have HME := Aside0.mk hme
   clear hme hwd
   by_cases h1 : (Utf8.decode s pos).1 = 65533
   ·by_cases h2 : s.size - pos < 3
    ·have hw : IntKind.i64.wrap ((s.size : Int) - (pos : Int)) = (s.size : Int) - (pos : Int) := IntWalk.i64_in _ (by omega)
     have hlt3 : decide ((s.size : Int) - (pos : Int) < 3) = true := decide_eq_true (by omega)
     have hvf : valid (s.data.toList.drop pos) = false := by rw [HVD.out]; simp [h1, h2]
     have HVF := Aside0.mk hvf
     clear hvf
     go_wp2
     refine ⟨⟨_, false, rfl, hps, ⟨?_⟩, hit2, hbw2⟩, HME.out⟩
     rw [← hv.out, HVF.out]
     simp
    ·have hw : IntKind.i64.wrap ((s.size : Int) - (pos : Int)) = (s.size : Int) - (pos : Int) := IntWalk.i64_in _ (by omega)
     have hlt3 : decide ((s.size : Int) - (pos : Int) < 3) = false := decide_eq_false (by omega)
     have hw3 : IntKind.i64.wrap ((pos : Int) + 3) = (pos : Int) + 3 := IntWalk.i64_in _ (by omega)
     have k1 : ((0 : Int) ≤ (pos : Int)) = True := eq_true (by omega)
     have k2 : ((pos : Int) ≤ (pos : Int) + 3) = True := eq_true (by omega)
     have k3 : ((pos : Int) + 3 ≤ (s.size : Int)) = True := eq_true (by omega)
     have k4 : ((pos : Int) + 3).toNat = pos + 3 := by omega
     by_cases h3 : (s.extract pos (pos + 3)).toList = [239, 191, 189]
     ·have hvf : valid (s.data.toList.drop pos) = valid (s.data.toList.drop (pos + (Utf8.decode s pos).2)) := by rw [HVD.out]; simp [h1, h2, h3]
      have HVF := Aside0.mk hvf
      clear hvf
      go_wp2
      refine ⟨⟨_, b, rfl, hps, ⟨?_⟩, hit2, hbw2⟩, HME.out⟩
      rw [← hv.out, HVF.out]
     ·have hvf : valid (s.data.toList.drop pos) = false := by rw [HVD.out]; simp [h1, h2, h3]
      have HVF := Aside0.mk hvf
      clear hvf
      have h3b : ((s.extract pos (pos + 3)).toList == [239, 191, 189]) = false := beq_eq_false_iff_ne.2 h3
      go_wp2
      refine ⟨⟨_, false, rfl, hps, ⟨?_⟩, hit2, hbw2⟩, HME.out⟩
      rw [← hv.out, HVF.out]
      simp
   ·have hvf : valid (s.data.toList.drop pos) = valid (s.data.toList.drop (pos + (Utf8.decode s pos).2)) := by rw [HVD.out]; simp [h1]
    have HVF := Aside0.mk hvf
    clear hvf
    go_wp2
    refine ⟨⟨_, b, rfl, hps, ⟨?_⟩, hit2, hbw2⟩, HME.out⟩
    rw [← hv.out, HVF.out]
  ·obtain rfl : pos = s.size := by omega
   have hnx : ∀ ty, (Instr.next (.pointer (some ⟨w.heap.size, 0, none⟩)) true ty).run Tryd.prog wr = _ := fun ty => Lib.run_next_end_at wr w.heap.size s s.size ty hit hp
   have hvb : b = valid s.data.toList := by
    have := hv.out
    rw [List.drop_eq_nil_of_le (by simp), valid_nil, Bool.and_true] at this
    exact this
   have HVB := Aside0.mk hvb
   clear hvb hv
   cases b with
   | true =>
    have hm := HR.out
    unfold mendS at hm
    rw [if_pos HVB.out.symm] at hm
    subst hm
    go_wp2
    go_ret
    exact ⟨rfl, hbw⟩
   | false =>
    have hnv : ¬ valid s.data.toList = true := by rw [← HVB.out]; simp
    have HM := HR.out
    unfold mendS at HM
    rw [if_neg hnv] at HM
    have HMR := Aside0.mk HM
    clear HM hnv
    have hcv := Lib.run_convert_string_bytes (P := Tryd.prog) wr 9 46 5 s Tryd.underlying9 Tryd.underlying46 Tryd.underlying5
    have hbb := Lib.bytesWorld_below wr 5 s
    have hbs := Lib.bytesWorld_size wr 5 s
    have hrd : Kd.C (Kd.int .u8) (Lib.bytesWorld wr 5 s) (some ⟨wr.heap.size, 0, none⟩) s.size (zs s.data.toList) :=
     Kd.C_of_reads (enc := Value.int .u8) (d := (0 : Int)) (h1 := fun _ => rfl) ⟨by simp [zs], by omega, fun _ => ⟨_, rfl, fun j hj => by
      rw [add_plain, Lib.bytesWorld_cell wr 5 s j hj]
      have := rd_zs s.data.toList j
      unfold rd at this
      rw [Int.toNat_natCast] at this
      rw [this]⟩⟩
    have hz : (zs s.data.toList).length = s.size := by simp [zs]
    rw [← hz] at hrd
    have hcall := utf_Runes_calls read_tells (some ⟨wr.heap.size, 0, none⟩) (Go.grownCap wr s.size 0 5) s.data.toList _ hrd (by simp; omega)
    rw [hz] at hcall
    have HC := Aside0.mk hcall
    have HBB := Aside0.mk hbb
    clear hcall hrd hz hbb
    go_wp2_with (go_at_call 44; refine HC.out.mono ?_; rintro e w2 ⟨v, rfl, hown, hb2⟩; have hcv2 := Hc_own_runes (P := Tryd.prog) (src := 44) (dst := 9) (e := 21) Tryd.underlying44 Tryd.underlying21 Tryd.underlying9 hown)
    go_ret
    have hm := HMR.out
    subst hm
    exact ⟨rfl, hbw.trans ((HBB.out.trans (hb2.mono (by omega))).mono (by omega))⟩
end Go.Proofs.YthmbbkbmlnaghaaDoor.P
end
section
/-
 charref.Decode: every reference replaced.
-/
namespace Go.Proofs.YthmbbkbmlnaghaaDoor.P
open Go.RowKit Go.Shelf Go.Proofs.YthmbbkbmlnaghaaDoorW.PrintWords Go.Proofs.YthmbbkbmlnaghaaDoorW.PrintLast Go.Proofs.YthmbbkbmlnaghaaDoorW.PrintMore
set_option linter.unusedVariables false
set_option linter.unusedSimpArgs false

def charref_Decode.f (k : Nat) (s : ByteArray) (attr : Bool) : Option ByteArray :=
 (utf_Mend.f s).bind fun m => (refsGo attr m k 0).bind fun refs =>
  if m.size ≤ 35184372088831 ∧ (repText id m.data.toList refs).length ≤ 140737488355328 then some ⟨(repText id m.data.toList refs).toArray⟩ else none
theorem Decode1_calls (a : ByteArray) (n : Int) (b : Bool) (w : World) :
  Calls Tryd.prog 25 #[.agg #[.string a, .int .i64 n, .bool b]] w fun e w' => e = .returned (.string (id a)) ∧ Below w.heap.size w w' := by
 have hu60 := Tryd.underlying38
 have HB0 := Aside0.mk (Below.refl w.heap.size w)
 go_enter Tryd.func25, Tryd.ntmps25
 go_wp2_with (first | ((with_reducible refine gate_dst (N := 1) rfl ?_); refine box_event ?hg (N := 1) ?hd (cs := #[.string a, .int .i64 n, .bool b]) (t := 38) ?hr ?_; (case hd => rfl); (case hg => rfl); (case hr => first | (go_simp; done) | (go_simp; rfl)); intro gb hg w5 hbox hb; have HB5 := Aside0.mk (below_step HB0.out hb); have BK5 := Aside0.mk hbox; clear hb hbox hg; have hcg5 : w5.cell? ⟨gb, 0, none⟩ = some (.string a) := (blk_cell BK5.out 0).trans rfl))
 go_ret
 exact ⟨rfl, HB5.out⟩

set_option maxRecDepth 100000 in
set_option maxHeartbeats 2000000 in
theorem charref_Decode.calls (k : Nat) (s : ByteArray) (attr : Bool) (r : ByteArray) (w : World) (h : charref_Decode.f k s attr = some r) :
  Calls Tryd.prog 13 #[.string s, .bool attr] w fun e w' => e = .returned (.string r) ∧ Below w.heap.size w w' := by
 obtain ⟨m, hm, h⟩ := Option.bind_eq_some_iff.1 h
 obtain ⟨refs, hrefs, h⟩ := Option.bind_eq_some_iff.1 h
 by_cases hlen : m.size ≤ 35184372088831 ∧ (repText id m.data.toList refs).length ≤ 140737488355328
 case neg => rw [if_neg hlen] at h; cases h
 rw [if_pos hlen] at h
 have hr := Option.some.inj h
 clear h
 obtain ⟨hms, hlen⟩ := hlen
 have HM := Aside0.mk (utf_Mend.calls s m w hm)
 have HREP := Aside0.mk (fun W => D_replaced_calls k m attr id refs W hms hrefs hlen (fun x _ n b W => Decode1_calls x.2.1 n b W))
 have HR := Aside0.mk hr
 clear hm hrefs hlen hms hr
 go_enter Tryd.func13, Tryd.ntmps13
 go_wp2_with (first | (go_at_call 24; refine HM.out.mono ?_; rintro e w1 ⟨rfl, hb1⟩) | (go_at_call 23; refine (HREP.out w1).mono ?_; rintro e w2 ⟨rfl, hb2⟩))
 go_ret
 exact ⟨by rw [HR.out]; rfl, hb1.trans (hb2.mono hb1.size)⟩
end Go.Proofs.YthmbbkbmlnaghaaDoor.P
end
section
/-
  Decoding in plain Lean: a text decoded, and what is sure of a beginning.
-/
namespace Go.Proofs.YthmbbkbmlnaghaaDoor.P
open Go.RowKit Go.Proofs.YthmbbkbmlnaghaaDoorW.PrintWords Go.Proofs.YthmbbkbmlnaghaaDoorW.PrintLast Go.Proofs.YthmbbkbmlnaghaaDoorW.PrintMore
set_option linter.unusedVariables false
set_option linter.unusedSimpArgs false

/-! ### the whole -/
def dgGo (g : ByteArray → ByteArray) (attr : Bool) : Nat → List UInt8 → List UInt8
  | 0, l => l
  | _ + 1, [] => []
  | n + 1, b :: t => if b = 38 then (if (nextL t attr true).2.1 = 0 then 38 :: dgGo g attr n t else (g (nextL t attr true).1).data.toList ++ dgGo g attr n (t.drop (nextL t attr true).2.1.toNat)) else b :: dgGo g attr n t
def dgL (g : ByteArray → ByteArray) (attr : Bool) (l : List UInt8) : List UInt8 := dgGo g attr l.length l
theorem dgGo_fuel (g : ByteArray → ByteArray) (attr : Bool) : ∀ (n m : Nat) (l : List UInt8), l.length ≤ n → l.length ≤ m → dgGo g attr n l = dgGo g attr m l
  | 0, m, l, hn, _ => by
    obtain rfl : l = [] := List.eq_nil_of_length_eq_zero (by omega)
    cases m <;> rfl
  | n + 1, 0, l, _, hm => by
    obtain rfl : l = [] := List.eq_nil_of_length_eq_zero (by omega)
    rfl
  | n + 1, m + 1, [], _, _ => rfl
  | n + 1, m + 1, b :: t, hn, hm => by
    rw [List.length_cons] at hn hm
    unfold dgGo
    rw [dgGo_fuel g attr n m t (by omega) (by omega), dgGo_fuel g attr n m (t.drop (nextL t attr true).2.1.toNat) (by rw [List.length_drop]; omega) (by rw [List.length_drop]; omega)]
theorem dgL_nil (g : ByteArray → ByteArray) (attr : Bool) : dgL g attr [] = [] := rfl
theorem dgL_cons (g : ByteArray → ByteArray) (attr : Bool) (b : UInt8) (t : List UInt8) :
    dgL g attr (b :: t) = if b = 38 then (if (nextL t attr true).2.1 = 0 then 38 :: dgL g attr t else (g (nextL t attr true).1).data.toList ++ dgL g attr (t.drop (nextL t attr true).2.1.toNat)) else b :: dgL g attr t := by
  unfold dgL
  rw [List.length_cons, dgGo, dgGo_fuel g attr t.length (t.drop (nextL t attr true).2.1.toNat).length (t.drop (nextL t attr true).2.1.toNat) (by rw [List.length_drop]; omega) (Nat.le_refl _)]

theorem drop_cons_at (m : List UInt8) (i : Nat) (h : i < m.length) : m.drop i = m.getD i 0 :: m.drop (i + 1) := lenS i h
theorem take_grow (m : List UInt8) (a i : Nat) (ha : a ≤ i) (hi : i < m.length) : (m.drop a).take (i + 1 - a) = (m.drop a).take (i - a) ++ [m.getD i 0] := by
  have e : i + 1 - a = (i - a) + 1 := by omega
  have hl : i - a < (m.drop a).length := by rw [List.length_drop]; omega
  rw [e, List.take_succ_eq_append_getElem hl]
  congr 2
  rw [List.getElem_drop, List.getD_eq_getElem?_getD, List.getElem?_eq_getElem hi]
  simp only [Option.getD_some]
  congr 1
  omega
theorem rep_dg (g : ByteArray → ByteArray) (attr : Bool) (s : ByteArray) (hs : s.size ≤ 35184372088831) : ∀ (k i : Nat) (refs : List (Nat × ByteArray × Nat)), refsGo attr s k i = some refs → i ≤ s.size → ∀ (a : Nat) (acc : List UInt8), a ≤ i →
    (refs.foldl (repStep g s.data.toList) (a, acc)).2 ++ s.data.toList.drop (refs.foldl (repStep g s.data.toList) (a, acc)).1 = acc ++ ((s.data.toList.drop a).take (i - a) ++ dgL g attr (s.data.toList.drop i))
  | 0, i, refs, h, _, _, _, _ => by simp [refsGo] at h
  | k + 1, i, refs, h, hi, a, acc, ha => by
    have hl : s.data.toList.length = s.size := by simp
    unfold refsGo at h
    by_cases c1 : i < s.size
    · rw [if_pos c1] at h
      rw [drop_cons_at _ i (by omega), dgL_cons]
      have hb := bt_l s i c1
      have hq : ((s.data.toList.getD i 0).toNat : Int) = 38 ↔ s.data.toList.getD i 0 = 38 := u8_eq _ 38 (by decide)
      have hx : (s.extract (i + 1) s.size).data.toList = s.data.toList.drop (i + 1) := by
        rw [extract_list]
        refine List.take_of_length_le ?_
        rw [List.length_drop]
        omega
      by_cases c2 : s.data.toList.getD i 0 = 38
      · rw [if_pos (by rw [hb]; exact hq.2 c2)] at h
        rw [if_pos c2]
        obtain ⟨n, hn, h⟩ := Option.bind_eq_some_iff.1 h
        have hz : (s.extract (i + 1) s.size).size ≤ s.size := by simp
        have hn2 : n = nextL (s.data.toList.drop (i + 1)) attr true := by
          have h1 := next_f (k + s.size + 610) (s.extract (i + 1) s.size) attr true (by omega) (by omega)
          have h2 := at_rounds (charref_next.mono (s.extract (i + 1) s.size) attr true) (show k ≤ k + s.size + 610 by omega) hn
          rw [h1] at h2
          rw [← Option.some.inj h2, nextP_eq, hx]
        by_cases c3 : 0 ≤ n.2.1 ∧ i + 1 + n.2.1.toNat ≤ s.size
        · rw [if_pos c3] at h
          rw [← hn2]
          by_cases c4 : n.2.1 = 0
          · rw [if_pos c4] at h
            rw [if_pos c4, rep_dg g attr s hs k (i + 1) refs h (by omega) a acc (by omega), take_grow _ a i ha (by omega), c2, List.append_assoc]
            rfl
          · rw [if_neg c4] at h
            obtain ⟨t, ht, h⟩ := Option.bind_eq_some_iff.1 h
            have := Option.some.inj h
            subst this
            rw [if_neg c4, List.foldl_cons]
            have e : repStep g s.data.toList (a, acc) (i, n.1, n.2.1.toNat) = (i + 1 + n.2.1.toNat, acc ++ ((s.data.toList.drop a).take (i - a) ++ (g n.1).data.toList)) := rfl
            rw [e, rep_dg g attr s hs k _ t ht c3.2 _ _ (Nat.le_refl _), Nat.sub_self, List.take_zero, List.nil_append, List.drop_drop, List.append_assoc, List.append_assoc]
        · rw [if_neg c3] at h
          cases h
      · rw [if_neg (by rw [hb]; exact fun e => c2 (hq.1 e))] at h
        rw [if_neg c2, rep_dg g attr s hs k (i + 1) refs h (by omega) a acc (by omega), take_grow _ a i ha (by omega), List.append_assoc]
        rfl
    · rw [if_neg c1] at h
      have := Option.some.inj h
      subst this
      obtain rfl : i = s.size := by omega
      rw [List.foldl_nil, List.drop_eq_nil_of_le (Nat.le_of_eq hl), dgL_nil, List.append_nil, List.take_of_length_le (by rw [List.length_drop]; omega)]
theorem rep_text (g : ByteArray → ByteArray) (attr : Bool) (s : ByteArray) (hs : s.size ≤ 35184372088831) (k : Nat) (refs : List (Nat × ByteArray × Nat)) (h : refsGo attr s k 0 = some refs) : repText g s.data.toList refs = dgL g attr s.data.toList := by
  have := rep_dg g attr s hs k 0 refs h (Nat.zero_le _) 0 [] (Nat.le_refl _)
  unfold repText repSt
  rw [this]
  simp
theorem refs_some (attr : Bool) (s : ByteArray) (hs : s.size ≤ 35184372088831) : ∀ (d i k : Nat), s.size - i ≤ d → d + s.size + 612 ≤ k → ∃ refs, refsGo attr s k i = some refs
  | 0, i, k, hd, hk => by
    obtain ⟨k, rfl⟩ : ∃ j, k = j + 1 := ⟨k - 1, by omega⟩
    unfold refsGo
    rw [if_neg (by omega)]
    exact ⟨_, rfl⟩
  | d + 1, i, k, hd, hk => by
    obtain ⟨k, rfl⟩ : ∃ j, k = j + 1 := ⟨k - 1, by omega⟩
    have hz : (s.extract (i + 1) s.size).size ≤ s.size := by simp
    unfold refsGo
    by_cases c1 : i < s.size
    · rw [if_pos c1]
      have ih := fun (j : Nat) (hj : i < j) => refs_some attr s hs d j k (by omega) (by omega)
      by_cases c2 : bt s i = 38
      · have hl : (s.extract (i + 1) s.size).data.toList.length = s.size - (i + 1) := by simp
        have hsz := nextL_size (s.extract (i + 1) s.size).data.toList attr true
        rw [hl] at hsz
        rw [if_pos c2, next_f k (s.extract (i + 1) s.size) attr true (by omega) (by omega), Option.bind_some, nextP_eq, if_pos (by omega)]
        by_cases c4 : (nextL (s.extract (i + 1) s.size).data.toList attr true).2.1 = 0
        · rw [if_pos c4]
          exact ih _ (by omega)
        · rw [if_neg c4]
          obtain ⟨t, ht⟩ := ih (i + 1 + (nextL (s.extract (i + 1) s.size).data.toList attr true).2.1.toNat) (by omega)
          rw [ht]
          exact ⟨_, rfl⟩
      · rw [if_neg c2]
        exact ih _ (by omega)
    · rw [if_neg c1]
      exact ⟨_, rfl⟩

/-! ### what is said is short -/
theorem saysE_len (x : Ent) : (saysE x).length ≤ 2 := by unfold saysE; split <;> simp
theorem stepL_two (l : List UInt8) (acc : Nat × List Int) (x : Ent) (h : acc.2.length ≤ 2) : (stepL l acc x).2.length ≤ 2 := by
  unfold stepL
  have hs := saysE_len x
  repeat' split
  all_goals first | exact hs | exact h
theorem foldL_two (l : List UInt8) : ∀ (es : List Ent) (acc : Nat × List Int), acc.2.length ≤ 2 → (es.foldl (stepL l) acc).2.length ≤ 2
  | [], _, h => h
  | x :: t, acc, h => foldL_two l t _ (stepL_two l acc x h)
theorem nextL_short (l : List UInt8) (attr e : Bool) : (nextL l attr e).1.size ≤ 8 := by
  have h2 : (Hc_text (longL l).2).size ≤ 8 := by
    have h1 := foldL_two l ents (0, []) (by simp)
    have h3 := runesBytes_size_le (longL l).2
    unfold Hc_text
    have h4 : (longL l).2.length ≤ 2 := h1
    omega
  have h0 : emp.size ≤ 8 := by decide
  unfold nextL numericL namedL
  repeat' split
  all_goals first | exact h0 | exact h2 | (simp only; have := encode_size_le (numL (hexL l) (List.drop (fromL l) (List.take (atL l) l))).fst; omega)
theorem dgL_len (attr : Bool) : ∀ (n : Nat) (l : List UInt8), l.length ≤ n → (dgL id attr l).length ≤ 8 * l.length
  | 0, l, h => by
    obtain rfl : l = [] := List.eq_nil_of_length_eq_zero (by omega)
    exact Nat.le_refl _
  | n + 1, [], h => Nat.le_refl _
  | n + 1, b :: t, h => by
    rw [List.length_cons] at h
    rw [dgL_cons, List.length_cons]
    have h1 := dgL_len attr n t (by omega)
    split
    · split
      · rw [List.length_cons]
        omega
      · have h2 := dgL_len attr n (t.drop (nextL t attr true).2.1.toNat) (by rw [List.length_drop]; omega)
        have h3 := nextL_short t attr true
        rw [List.length_drop] at h2
        rw [List.length_append]
        have h4 : (id (nextL t attr true).1).data.toList.length = (nextL t attr true).1.size := by simp
        omega
    · rw [List.length_cons]
      omega
theorem mendS_list (s : ByteArray) : (mendS s).data.toList = mendL s.data.toList := by
  unfold mendS
  by_cases h : valid s.data.toList = true
  · rw [if_pos h, mendL_of_valid _ h]
  · rw [if_neg h]
    exact runesBytes_list _
theorem mendL_len4 (l : List UInt8) : (mendL l).length ≤ 4 * l.length := by
  unfold mendL
  have h1 : ∀ xs : List Int, (text xs).length ≤ 4 * xs.length := by
    intro xs
    induction xs with
    | nil => exact Nat.le_refl _
    | cons x t ih =>
      rw [text_cons, List.length_append, List.length_cons]
      have : (Lib.encodeRune x).length ≤ 4 := by
        unfold Lib.encodeRune
        rw [List.length_map]
        exact (Lib.encodeRuneZ_length x).2
      omega
  have h2 : ∀ (n : Nat) (l : List UInt8), l.length ≤ n → (runes l).length ≤ l.length := by
    intro n
    induction n with
    | zero =>
      intro l h
      obtain rfl : l = [] := List.eq_nil_of_length_eq_zero (by omega)
      exact Nat.le_refl _
    | succ n ih =>
      intro l h
      by_cases hne : l = []
      · subst hne
        exact Nat.le_refl _
      · have hw := (rdL_facts l hne).1
        have hl : 0 < l.length := List.length_pos_iff.2 hne
        rw [runes_step l hne, List.length_cons]
        have := ih (l.drop (rdL l).2.1) (by rw [List.length_drop]; omega)
        rw [List.length_drop] at this
        omega
  have h3 := h1 (runes l)
  have h4 := h2 _ l (Nat.le_refl _)
  omega
/-- charref.Decode, of every text that is not too long -/
theorem Decode_f (s : ByteArray) (attr : Bool) (hs : s.size ≤ 1099511627776) (k : Nat) (hk : 8 * s.size + 620 ≤ k) : charref_Decode.f k s attr = some ⟨(dgL id attr (mendL s.data.toList)).toArray⟩ := by
  have hl : s.data.toList.length = s.size := by simp
  have hml := mendS_list s
  have hmz : (mendS s).size = (mendL s.data.toList).length := by rw [← hml]; simp
  have hm4 := mendL_len4 s.data.toList
  unfold charref_Decode.f utf_Mend.f
  rw [if_pos (by omega), Option.bind_some]
  obtain ⟨refs, hr⟩ := refs_some attr (mendS s) (by omega) (mendS s).size 0 k (by omega) (by omega)
  have ht := rep_text id attr (mendS s) (by omega) k refs hr
  have h8 := dgL_len attr _ (mendL s.data.toList) (Nat.le_refl _)
  rw [hr, Option.bind_some, ht, hml, if_pos (by omega)]

end Go.Proofs.YthmbbkbmlnaghaaDoor.P
end
section
/-
 More of the decoded text, and runes of a valid text.
-/
namespace Go.Proofs.YthmbbkbmlnaghaaDoor.P
open Go.RowKit Go.Shelf Go.Proofs.YthmbbkbmlnaghaaDoorW.PrintWords Go.Proofs.YthmbbkbmlnaghaaDoorW.PrintLast Go.Proofs.YthmbbkbmlnaghaaDoorW.PrintMore
set_option linter.unusedVariables false
set_option linter.unusedSimpArgs false

theorem runes_le : ∀ (n : Nat) (l : List UInt8), l.length ≤ n → (runes l).length ≤ l.length := by
 intro n
 induction n with
 | zero =>
  intro l h
  obtain rfl : l = [] := List.eq_nil_of_length_eq_zero (by omega)
  exact Nat.le_refl _
 | succ n ih =>
  intro l h
  by_cases hne : l = []
  ·subst hne
   exact Nat.le_refl _
  ·have hw := (rdL_facts l hne).1
   have hl : 0 < l.length := List.length_pos_iff.2 hne
   rw [runes_step l hne, List.length_cons]
   have := ih (l.drop (rdL l).2.1) (by rw [List.length_drop]; omega)
   rw [List.length_drop] at this
   omega

end Go.Proofs.YthmbbkbmlnaghaaDoor.P
end
section
/-
 charref.Ascii: what it writes, rune by rune; its walk.
-/
namespace Go.Proofs.YthmbbkbmlnaghaaDoor.P
open Go.RowKit Go.Shelf Go.Proofs.YthmbbkbmlnaghaaDoorW.PrintWords Go.Proofs.YthmbbkbmlnaghaaDoorW.PrintLast Go.Proofs.YthmbbkbmlnaghaaDoorW.PrintMore
set_option linter.unusedVariables false
set_option linter.unusedSimpArgs false

/-- what a control of the second row stands for, here: itself or U+FFFD -/
def winN (n : Nat) : Nat := if 128 ≤ n ∧ n ≤ 159 then (if winL.getD (n - 128) 0 = (n : Int) then n else 65533) else n
def plainA (attr : Bool) (n : Nat) : Bool := decide (n < 128) && decide (n ≠ 38) && decide (n ≠ 60) && decide (n ≠ 62) && (decide (n ≠ 34) || !attr)
def hexS (n : Nat) : List UInt8 := Lib.toUpperA (hexF 6 n)
def refA (n : Nat) : List UInt8 := if (nameP [(n : Int)]).toList.isEmpty = true then [35, 120] ++ hexS n ++ [59] else (nameP [(n : Int)]).data.toList
def ascN (attr : Bool) (n : Nat) : List UInt8 := if plainA attr n = true then [n.toUInt8] else 38 :: refA (winN n)
def ascR (attr : Bool) (r : Int) : List UInt8 := ascN attr r.toNat
def ascL (attr : Bool) (rs : List Int) : List UInt8 := rs.flatMap (ascR attr)
def ascS (attr : Bool) (s : ByteArray) : ByteArray := ⟨(ascL attr (runes (mendS s).data.toList)).toArray⟩

theorem nameStep_size (rs : List Int) (best : ByteArray) (x : EntN) (h : best.size ≤ 101) (hx : x.f0.size ≤ 100) : (nameStep rs best x).size ≤ 101 := by
 unfold nameStep
 split
 ·unfold nameB; rw [ByteArray.size_append]; show x.f0.size + 1 ≤ 101; omega
 ·exact h
theorem nameFold_size (rs : List Int) : ∀ (l : List EntN) (best : ByteArray), (∀ x ∈ l, x.f0.size ≤ 100) → best.size ≤ 101 → (l.foldl (nameStep rs) best).size ≤ 101
 | [], best, _, h => h
 | x :: t, best, hl, h => nameFold_size rs t _ (fun y hy => hl y (List.mem_cons_of_mem _ hy)) (nameStep_size rs best x h (hl x List.mem_cons_self))
theorem nameP_size (rs : List Int) : (nameP rs).size ≤ 101 := nameFold_size rs ents ⟨#[]⟩ names_small (Nat.zero_le _)
theorem hexF_len : ∀ (k v : Nat), (hexF k v).length ≤ k
 | 0, _ => Nat.le_refl _
 | k + 1, v => by
  rw [hexF]
  split
  ·simp
  ·have := hexF_len k (v / 16)
   simp only [List.length_append, List.length_cons, List.length_nil]
   omega
theorem hexS_len (n : Nat) : (hexS n).length ≤ 6 := by
 unfold hexS Lib.toUpperA
 rw [List.length_map]
 exact hexF_len 6 n
theorem hexF_ascii : ∀ (k v : Nat), ∀ x ∈ hexF k v, x.toNat < 128 := by
 have hd : ∀ d, d < 16 → (hexD d).toNat < 128 := by decide +kernel
 intro k
 induction k with
 | zero => intro v x hx; cases hx
 | succ k ih =>
  intro v x hx
  rw [hexF] at hx
  split at hx
  ·obtain rfl := List.mem_singleton.1 hx
   exact hd v (by assumption)
  ·rcases List.mem_append.1 hx with h | h
   ·exact ih _ x h
   ·obtain rfl := List.mem_singleton.1 h
    exact hd _ (Nat.mod_lt _ (by decide))
theorem refA_len (n : Nat) : (refA n).length ≤ 101 := by
 unfold refA
 split
 ·have := hexS_len n
  simp only [List.length_append, List.length_cons, List.length_nil]
  omega
 ·have := nameP_size [(n : Int)]
  have e : (nameP [(n : Int)]).data.toList.length = (nameP [(n : Int)]).size := by simp
  omega
theorem ascN_len (attr : Bool) (n : Nat) : (ascN attr n).length ≤ 102 := by
 unfold ascN
 split
 ·simp
 ·have := refA_len (winN n)
  simp only [List.length_cons]
  omega
theorem ascL_len (attr : Bool) : ∀ (rs : List Int), (ascL attr rs).length ≤ 102 * rs.length
 | [] => Nat.zero_le _
 | r :: t => by
  have h1 := ascL_len attr t
  have h2 := ascN_len attr r.toNat
  unfold ascL at *
  rw [List.flatMap_cons, List.length_append, List.length_cons]
  have e : ascR attr r = ascN attr r.toNat := rfl
  rw [e]
  omega
theorem win_index32 (k : Nat) (hk : k < 32) (w : World) : (Instr.index 50 winV (.int .i32 (k : Int))).run Tryd.prog w = .ok (.int .i32 (winL.getD k 0)) w := by
 rcases (show k = 0 ∨ k = 1 ∨ k = 2 ∨ k = 3 ∨ k = 4 ∨ k = 5 ∨ k = 6 ∨ k = 7 ∨ k = 8 ∨ k = 9 ∨ k = 10 ∨ k = 11 ∨ k = 12 ∨ k = 13 ∨ k = 14 ∨ k = 15 ∨ k = 16 ∨ k = 17 ∨ k = 18 ∨ k = 19 ∨ k = 20 ∨ k = 21 ∨ k = 22 ∨ k = 23 ∨ k = 24 ∨ k = 25 ∨ k = 26 ∨ k = 27 ∨ k = 28 ∨ k = 29 ∨ k = 30 ∨ k = 31 from by omega) with rfl | rfl | rfl | rfl | rfl | rfl | rfl | rfl | rfl | rfl | rfl | rfl | rfl | rfl | rfl | rfl | rfl | rfl | rfl | rfl | rfl | rfl | rfl | rfl | rfl | rfl | rfl | rfl | rfl | rfl | rfl | rfl
 all_goals kernel_rfl
theorem kC_one (w : World) (T : TypeId) (r : Int) : Kd.C (Kd.int .i32) (w.alloc (.cells #[.int .i32 r] T)) (some ⟨w.heap.size, 0, none⟩) 1 [r] := by
 refine Kd.C_of_reads (d := (0 : Int)) ⟨rfl, by omega, fun _ => ⟨_, rfl, fun j hj => ?_⟩⟩
 obtain rfl : j = 0 := by omega
 rw [Lib.add_plain]
 exact World.cell?_alloc_new _ _ _ _

/-- what a round keeps: the builder, the iterator, the memory below -/
structure AscI (b it : Nat) (w0 : World) (m : ByteArray) (pos : Nat) (bs : List UInt8) (W : World) : Prop where
 bld : Lib.IsBuilderF 49 5 b b (Lib.byteCells bs) W
 iter : W.heap[it]? = some (.stringIter m pos)
 below : Below b w0 W
 far : b < it
theorem AscI.lt {b it : Nat} {w0 : World} {m : ByteArray} {pos : Nat} {bs : List UInt8} {W : World} (h : AscI b it w0 m pos bs W) : b < W.heap.size := Nat.lt_trans h.far (Array.getElem?_eq_some_iff.1 h.iter).1
theorem AscI.step {b it : Nat} {w0 : World} {m : ByteArray} {pos : Nat} {bs : List UInt8} {W W' : World} (h : AscI b it w0 m pos bs W) (hb : Below W.heap.size W W') : AscI b it w0 m pos bs W' :=
 ⟨bld_below h.bld hb, blk_kept hb h.iter, h.below.trans (hb.mono (Nat.le_of_lt h.lt)), h.far⟩
theorem AscI.write {b it : Nat} {w0 : World} {m : ByteArray} {pos : Nat} {bs : List UInt8} {W W' : World} (h : AscI b it w0 m pos bs W) (ys : List UInt8)
  (h1 : Lib.BuilderAtF 49 5 b b (.pointer (some ⟨b, 0, none⟩)) (Lib.byteCells bs ++ Lib.byteCells ys) W') (h2 : Below b W W') (h3 : Lib.OthersKept 5 (some b) W W') : AscI b it w0 m pos (bs ++ ys) W' :=
 ⟨.inr (by rw [Lib.byteCells_append]; exact h1), h3.iter h.iter (Nat.ne_of_gt h.far), h.below.trans h2, h.far⟩
theorem AscI.move {b it : Nat} {w0 : World} {m : ByteArray} {pos : Nat} {bs : List UInt8} {W : World} (h : AscI b it w0 m pos bs W) (pos' : Nat) : AscI b it w0 m pos' bs (W.iterAt it m pos') :=
 ⟨h.bld.iterAt h.iter pos', Lib.iterAt_heap _ _ _ _ _ h.iter, Lib.below_iterAt h.below (Nat.le_of_lt h.far) _ _, h.far⟩

structure TailF (X : Int) (nm : ByteArray) (b : Bool) (H S : ByteArray) : Prop where
 nam : ∀ (A0 : Option Addr) (c0 : Nat) (W : World), Kd.C (Kd.int .i32) W A0 1 [X] → 1 ≤ c0 → Calls Tryd.prog 31 #[.slice A0 1 c0] W fun e W' => e = .returned (.tuple #[.string nm, .bool b]) ∧ Below W.heap.size W W'
 fmt : ∀ W, DbTab W → Calls Tryd.prog 34 #[.int .i64 X, .int .i64 16] W fun e W' => e = .returned (.string H) ∧ Below W.heap.size W W'
 upp : ∀ W, Calls Tryd.prog 33 #[.string H] W fun e W' => e = .returned (.string S) ∧ Below W.heap.size W W'
theorem tailF (x : Nat) (hx : x < 16777216) : ∃ nm b H S, TailF (x : Int) nm b H S ∧ nm.size ≤ 101 ∧ S.size ≤ 6 ∧ refA x = (if b = true then nm.data.toList else [35, 120] ++ S.data.toList ++ [59]) := by
 refine ⟨nameP [(x : Int)], !(nameP [(x : Int)]).toList.isEmpty, ⟨(hexF 6 x).toArray⟩, ⟨(hexS x).toArray⟩, ⟨?_, ?_, ?_⟩, nameP_size _, ?_, ?_⟩
 ·intro A0 c0 W hC hc
  exact name_calls A0 c0 [(x : Int)] W hC hc (by simp)
 ·intro W ht
  exact fmtInt_calls x hx W ht
 ·intro W
  have h6 := hexF_len 6 x
  refine Tryd.strings_ToUpper_ascii ⟨(hexF 6 x).toArray⟩ W ?_ ?_
  ·show (hexF 6 x).toArray.size ≤ _
   simp only [List.size_toArray]
   omega
  ·intro j b hb
   exact hexF_ascii 6 x b (List.mem_of_getElem? hb)
 ·have := hexS_len x
  show (hexS x).toArray.size ≤ 6
  simpa using this
 ·unfold refA
  cases h : (nameP [(x : Int)]).toList.isEmpty <;> simp
theorem iterPos_of {W : World} {it pos : Nat} {m : ByteArray} (h : W.heap[it]? = some (.stringIter m pos)) : W.iterPos it = pos := by simp only [World.iterPos, h]
theorem runeCells_one (n : Nat) (h : n < 128) : Lib.runeCells (n : Int) = Lib.byteCells [n.toUInt8] := by
 have e : n.toUInt8.toNat = n := by simp; omega
 simp [Lib.runeCells, Lib.encodeRuneZ_one (r := (n : Int)) (by omega) (by omega), Lib.byteCells, e]

set_option maxRecDepth 100000 in
set_option maxHeartbeats 16000000 in
theorem ascii_calls (s : ByteArray) (attr : Bool) (w : World) (hn : s.size ≤ 1048576) (ht : DbTab w) :
  Calls Tryd.prog 15 #[.string s, .bool attr] w fun en w' => en = .returned (.string (ascS attr s)) ∧ Below w.heap.size w w' := by
 have hml := mendS_list s
 have hl : s.data.toList.length = s.size := by simp
 have hm4 := mendL_len4 s.data.toList
 have hmv := mendL_valid s.data.toList
 have hmr : (runes (mendL s.data.toList)).length ≤ s.size := by
  rw [mendL_runes]
  have := runes_le _ s.data.toList (Nat.le_refl _)
  omega
 have hmz : (mendS s).size = (mendL s.data.toList).length := by rw [← hml]; simp
 have hmg : goodsR (runes (mendL s.data.toList)) := runes_good _ _ (Nat.le_refl _)
 have HM := Aside0.mk (fun W => utf_Mend.calls s (mendS s) W (by unfold utf_Mend.f; rw [if_pos (by omega)]))
 have hmsz : (mendS s).size ≤ 4294967296 := by rw [hmz]; omega
 have has : ascS attr s = ⟨(ascL attr (runes (mendS s).data.toList)).toArray⟩ := rfl
 rw [← hml] at hmv hmr hmg
 rw [has]
 clear hmz hml hm4 hl has
 generalize mendS s = m at hmv hmr hmg hmsz HM ⊢
 have hml : m.data.toList.length = m.size := by simp
 have hasl := ascL_len attr (runes m.data.toList)
 have HMV := Aside0.mk hmv
 have HML := Aside0.mk hml
 have HG := Aside0.mk hmg
 have HN := Aside0.mk (show (ascL attr (runes m.data.toList)).length ≤ 1073741824 by omega)
 have HT := Aside0.mk ht
 clear hmv hml hmg hmr hasl ht
 have hbld : Lib.IsBuilderF 49 5 w.heap.size w.heap.size (Lib.byteCells []) (w.alloc (.cells #[.pointer none, .slice none 0 0] 49)) :=
  .inl ⟨Nat.le_refl _, .slice none 0 0, heap_alloc_new w _, ⟨rfl, .inl ⟨rfl, rfl⟩⟩, by simp [Value.ownBlock]⟩
 have HBLD := Aside0.mk hbld
 clear hbld
 go_enter Tryd.func15, Tryd.ntmps15
 go_wp2_with (first | (go_at_call 24; refine (HM.out _).mono ?_; rintro e w1 ⟨rfl, hb1⟩; have HB1 := Aside0.mk hb1; clear hb1))
 have hsz1 := HB1.out.size
 rw [World.size_alloc] at hsz1
 go_loopw [7] (fun _ wr => ∃ (pos : Nat) (bs : List UInt8), pos ≤ m.size ∧ Aside0 (bs ++ ascL attr (runes (m.data.toList.drop pos)) = ascL attr (runes m.data.toList)) ∧ Aside0 (valid (m.data.toList.drop pos) = true) ∧ wr.heap[w1.heap.size]? = some (.stringIter m pos) ∧ Aside0 (AscI w.heap.size w1.heap.size w m pos bs wr)) (fun _ wr => m.size - wr.iterPos w1.heap.size)
 case atStart =>
  refine ⟨0, [], Nat.zero_le _, ⟨by rw [List.drop_zero]; rfl⟩, ⟨by rw [List.drop_zero]; exact HMV.out⟩, ?_, ⟨?_, ?_, ?_, ?_⟩⟩
  ·have := World.iter_heap w1 m 0
   simpa using this
  ·exact (bld_below HBLD.out HB1.out).alloc _
  ·have := World.iter_heap w1 m 0
   simpa using this
  ·exact (((Below.refl w.heap.size w).alloc (Nat.le_refl _) _).trans (HB1.out.mono (by simp))).alloc (by omega) _
  ·omega
 case round =>
  obtain ⟨pos, bs, hpl, HR, HV, hit, HIr⟩ := hrel
  have hlt0 : w1.heap.size < wr.heap.size := (Array.getElem?_eq_some_iff.1 hit).1
  by_cases hp : pos < m.size
  ·have hne : m.data.toList.drop pos ≠ [] := by rw [ne_eq, List.drop_eq_nil_iff]; have := HML.out; omega
   have hd := rdL_decode _ hne
   have hf := rdL_facts _ hne
   have hv := HV.out
   rw [valid_step _ hne] at hv
   have h0 : (rdL (m.data.toList.drop pos)).2.2 = 0 := by
    by_cases h0 : (rdL (m.data.toList.drop pos)).2.2 = 0
    ·exact h0
    ·rw [if_neg h0] at hv
     cases hv
   rw [if_pos h0, List.drop_drop] at hv
   rw [if_pos h0, Lib.decodeL_drop] at hd
   have hrn := runes_step _ hne
   rw [List.drop_drop] at hrn
   have hw1 := hf.1
   have hw2 := hf.2.1
   rw [List.length_drop, HML.out] at hw2
   have hg1 : goodR (((rdL (m.data.toList.drop pos)).1 : Nat) : Int) := runes_good _ (m.data.toList.drop pos) (Nat.le_refl _) _ (by rw [runes_step _ hne]; exact List.mem_cons_self)
   have hbl : bs.length ≤ 1073741824 := by
    have h1 := congrArg List.length HR.out
    have h2 := HN.out
    rw [List.length_append] at h1
    omega
   have hnx : ∀ ty, (Instr.next (.pointer (some ⟨w1.heap.size, 0, none⟩)) true ty).run Tryd.prog wr = _ := fun ty => Lib.run_next_any_at wr w1.heap.size m pos ty hit hp
   rw [hd] at hnx
   simp only at hnx
   generalize rdL (m.data.toList.drop pos) = q at hd hrn hw1 hw2 hg1 hnx hv
   obtain ⟨q1, q2, q3⟩ := q
   simp only at hd hrn hw1 hw2 hg1 hnx hv
   have hI2 := HIr.out.move (pos + q2)
   generalize hW0 : wr.iterAt w1.heap.size m (pos + q2) = W0 at hnx hI2
   have hR2 : (bs ++ ascN attr q1) ++ ascL attr (runes (m.data.toList.drop (pos + q2))) = ascL attr (runes m.data.toList) := by
    rw [← HR.out, hrn]
    simp [ascL, ascR]
   have hip := iterPos_of hit
   have hq1 : q1 < 1114112 := by unfold goodR at hg1; omega
   clear hd hne hf h0 hW0 hrn hg1 HR HV hit HIr
   have HI := Aside0.mk hI2
   have HV2 := Aside0.mk hv
   have HR2 := Aside0.mk hR2
   have HBL := Aside0.mk hbl
   have HIP := Aside0.mk hip
   clear hI2 hv hR2 hbl hip
   by_cases cP : plainA attr q1 = true
   ·have HAN := Aside0.mk (show ascN attr q1 = [q1.toUInt8] by unfold ascN; rw [if_pos cP])
    unfold plainA at cP
    simp only [Bool.and_eq_true, Bool.or_eq_true, decide_eq_true_eq, Bool.not_eq_true'] at cP
    obtain ⟨⟨⟨⟨c1, c2⟩, c3⟩, c4⟩, c5⟩ := cP
    have HRC := Aside0.mk (runeCells_one q1 c1)
    have b2 : ((q1 : Int) != 38) = true := bne_iff_ne.2 (by omega)
    have b3 : ((q1 : Int) != 60) = true := bne_iff_ne.2 (by omega)
    have b4 : ((q1 : Int) != 62) = true := bne_iff_ne.2 (by omega)
    clear c2 c3 c4
    by_cases c6 : q1 = 34
    case' pos =>
     have b5 : ((q1 : Int) != 34) = false := bne_eq_false_iff_eq.2 (by omega)
     have c7 : attr = false := c5.resolve_left (fun h => h c6)
     subst c7
     clear c6 c5
    case' neg =>
     have b5 : ((q1 : Int) != 34) = true := bne_iff_ne.2 (by omega)
     clear c6 c5
    all_goals
     go_wp2_with (first | (go_at_call 29; refine (bld_WriteRune_k w.heap.size w.heap.size (Lib.byteCells bs) (q1 : Int) (by omega) (by omega) _ HI.out.bld (by rw [Lib.byteCells_length]; have := HBL.out; omega) (Nat.le_of_lt HI.out.lt)).mono ?_; rintro e w6 ⟨rfl, hw1, hw2, hw3⟩; rw [HRC.out] at hw1; have HI9 := Aside0.mk (HI.out.write [q1.toUInt8] hw1 hw2 hw3); clear HI; have HI := HI9; clear HI9; clear hw1 hw2 hw3))
     refine ⟨⟨pos + q2, bs ++ [q1.toUInt8], by omega, ⟨by rw [← HR2.out, HAN.out]⟩, HV2, HI.out.iter, HI⟩, ?_⟩
     rw [HIP.out, iterPos_of HI.out.iter]
     omega
   ·have HAN := Aside0.mk (show ascN attr q1 = 38 :: refA (winN q1) by unfold ascN; rw [if_neg cP])
    by_cases cW : 128 ≤ q1 ∧ q1 ≤ 159
    ·obtain ⟨d1, d2⟩ := cW
     have hwi : ∀ W, (Instr.index 50 winV (.int .i32 ((q1 : Int) - 128))).run Tryd.prog W = .ok (.int .i32 (winL.getD (q1 - 128) 0)) W := fun W => by
      rw [show (q1 : Int) - 128 = ((q1 - 128 : Nat) : Int) by omega]
      exact win_index32 _ (by omega) W
     have hwn : winN q1 = if winL.getD (q1 - 128) 0 = (q1 : Int) then q1 else 65533 := by unfold winN; rw [if_pos ⟨d1, d2⟩]
     clear cP
     generalize winL.getD (q1 - 128) 0 = z at hwi hwn
     by_cases cz : z = (q1 : Int)
     ·rw [if_pos cz] at hwn
      have bz : (z != (q1 : Int)) = false := bne_eq_false_iff_eq.2 cz
      obtain ⟨nm, b, H, S, TF, hnm, hsm, hra⟩ := tailF q1 (by omega)
      rw [hwn, hra] at HAN
      clear hwn hra cz
      have HNM := Aside0.mk hnm
      have hsm9 : ((⟨#[35, 120]⟩ ++ S ++ ⟨#[59]⟩ : ByteArray)).size ≤ 9 := by rw [ByteArray.size_append, ByteArray.size_append]; show 2 + S.size + 1 ≤ 9; omega
      have hrt : ((⟨#[35, 120]⟩ ++ S ++ ⟨#[59]⟩ : ByteArray)).data.toList = [35, 120] ++ S.data.toList ++ [59] := by simp [ByteArray.data_append]
      obtain ⟨T, hT⟩ : ∃ T : ByteArray, T = ⟨#[35, 120]⟩ ++ S ++ ⟨#[59]⟩ := ⟨_, rfl⟩
      rw [← hT] at hsm9 hrt
      rw [← hrt] at HAN
      have HSM := Aside0.mk hsm9
      have HTT := Aside0.mk hT
      clear hT hsm9 hrt
      cases b
      case' false =>
       go_wp2_with (first | (go_at_call 28; refine (win_calls _).mono ?_; rintro e w5 ⟨rfl, hb5⟩; have HI9 := Aside0.mk (HI.out.step hb5); clear HI; have HI := HI9; clear HI9; clear hb5) | (go_at_call 30; refine (bld_WriteByte_k w.heap.size w.heap.size (Lib.byteCells bs) 38 _ HI.out.bld (by rw [Lib.byteCells_length]; have := HBL.out; omega) (Nat.le_of_lt HI.out.lt)).mono ?_; rintro e w6 ⟨rfl, hw1, hw2, hw3⟩; have HI9 := Aside0.mk (HI.out.write [38] hw1 hw2 hw3); clear HI; have HI := HI9; clear HI9; clear hw1 hw2 hw3) | (go_at_call 31; refine (TF.nam _ _ _ (kC_one _ _ _) (Nat.le_refl _)).mono ?_; rintro e w7 ⟨rfl, hb7⟩; have HI9 := Aside0.mk ((HI.out.step ((Below.refl _ _).alloc (Nat.le_refl _) _)).step hb7); clear HI; have HI := HI9; clear HI9; clear hb7) | (go_at_call 34; refine (TF.fmt _ (tab_below HT.out HI.out.below)).mono ?_; rintro e w7 ⟨rfl, hb7⟩; have HI9 := Aside0.mk (HI.out.step hb7); clear HI; have HI := HI9; clear HI9; clear hb7) | (go_at_call 33; refine (TF.upp _).mono ?_; rintro e w7 ⟨rfl, hb7⟩; have HI9 := Aside0.mk (HI.out.step hb7); clear HI; have HI := HI9; clear HI9; clear hb7) | (go_at_call 32; rw [← HTT.out]; refine (bld_WriteString_k w.heap.size w.heap.size (Lib.byteCells (bs ++ [38])) T _ HI.out.bld (by rw [Lib.byteCells_length, List.length_append]; have := HBL.out; have := HSM.out; simp only [List.length_cons, List.length_nil]; omega) (Nat.le_of_lt HI.out.lt)).mono ?_; rintro e w8 ⟨rfl, hw1, hw2, hw3⟩; have HI9 := Aside0.mk (HI.out.write T.data.toList hw1 hw2 hw3); clear HI; have HI := HI9; clear HI9; clear hw1 hw2 hw3))
      case' true =>
       go_wp2_with (first | (go_at_call 28; refine (win_calls _).mono ?_; rintro e w5 ⟨rfl, hb5⟩; have HI9 := Aside0.mk (HI.out.step hb5); clear HI; have HI := HI9; clear HI9; clear hb5) | (go_at_call 30; refine (bld_WriteByte_k w.heap.size w.heap.size (Lib.byteCells bs) 38 _ HI.out.bld (by rw [Lib.byteCells_length]; have := HBL.out; omega) (Nat.le_of_lt HI.out.lt)).mono ?_; rintro e w6 ⟨rfl, hw1, hw2, hw3⟩; have HI9 := Aside0.mk (HI.out.write [38] hw1 hw2 hw3); clear HI; have HI := HI9; clear HI9; clear hw1 hw2 hw3) | (go_at_call 31; refine (TF.nam _ _ _ (kC_one _ _ _) (Nat.le_refl _)).mono ?_; rintro e w7 ⟨rfl, hb7⟩; have HI9 := Aside0.mk ((HI.out.step ((Below.refl _ _).alloc (Nat.le_refl _) _)).step hb7); clear HI; have HI := HI9; clear HI9; clear hb7) | (go_at_call 32; refine (bld_WriteString_k w.heap.size w.heap.size (Lib.byteCells (bs ++ [38])) nm _ HI.out.bld (by rw [Lib.byteCells_length, List.length_append]; have := HBL.out; have := HNM.out; simp only [List.length_cons, List.length_nil]; omega) (Nat.le_of_lt HI.out.lt)).mono ?_; rintro e w8 ⟨rfl, hw1, hw2, hw3⟩; have HI9 := Aside0.mk (HI.out.write (nm : ByteArray).data.toList hw1 hw2 hw3); clear HI; have HI := HI9; clear HI9; clear hw1 hw2 hw3))
      case' false =>
       refine ⟨⟨pos + q2, bs ++ [38] ++ T.data.toList, by omega, ⟨by rw [← HR2.out, HAN.out]; simp⟩, HV2, HI.out.iter, HI⟩, ?_⟩
      case' true =>
       refine ⟨⟨pos + q2, bs ++ [38] ++ nm.data.toList, by omega, ⟨by rw [← HR2.out, HAN.out]; simp⟩, HV2, HI.out.iter, HI⟩, ?_⟩
      all_goals
       rw [HIP.out, iterPos_of HI.out.iter]
       omega
     ·rw [if_neg cz] at hwn
      have bz : (z != (q1 : Int)) = true := bne_iff_ne.2 cz
      obtain ⟨nm, b, H, S, TF0, hnm, hsm, hra⟩ := tailF 65533 (by omega)
      have TF : TailF (65533 : Int) nm b H S := TF0
      rw [hwn, hra] at HAN
      clear hwn hra cz TF0
      have HNM := Aside0.mk hnm
      have hsm9 : ((⟨#[35, 120]⟩ ++ S ++ ⟨#[59]⟩ : ByteArray)).size ≤ 9 := by rw [ByteArray.size_append, ByteArray.size_append]; show 2 + S.size + 1 ≤ 9; omega
      have hrt : ((⟨#[35, 120]⟩ ++ S ++ ⟨#[59]⟩ : ByteArray)).data.toList = [35, 120] ++ S.data.toList ++ [59] := by simp [ByteArray.data_append]
      obtain ⟨T, hT⟩ : ∃ T : ByteArray, T = ⟨#[35, 120]⟩ ++ S ++ ⟨#[59]⟩ := ⟨_, rfl⟩
      rw [← hT] at hsm9 hrt
      rw [← hrt] at HAN
      have HSM := Aside0.mk hsm9
      have HTT := Aside0.mk hT
      clear hT hsm9 hrt
      cases b
      case' false =>
       go_wp2_with (first | (go_at_call 28; refine (win_calls _).mono ?_; rintro e w5 ⟨rfl, hb5⟩; have HI9 := Aside0.mk (HI.out.step hb5); clear HI; have HI := HI9; clear HI9; clear hb5) | (go_at_call 30; refine (bld_WriteByte_k w.heap.size w.heap.size (Lib.byteCells bs) 38 _ HI.out.bld (by rw [Lib.byteCells_length]; have := HBL.out; omega) (Nat.le_of_lt HI.out.lt)).mono ?_; rintro e w6 ⟨rfl, hw1, hw2, hw3⟩; have HI9 := Aside0.mk (HI.out.write [38] hw1 hw2 hw3); clear HI; have HI := HI9; clear HI9; clear hw1 hw2 hw3) | (go_at_call 31; refine (TF.nam _ _ _ (kC_one _ _ _) (Nat.le_refl _)).mono ?_; rintro e w7 ⟨rfl, hb7⟩; have HI9 := Aside0.mk ((HI.out.step ((Below.refl _ _).alloc (Nat.le_refl _) _)).step hb7); clear HI; have HI := HI9; clear HI9; clear hb7) | (go_at_call 34; refine (TF.fmt _ (tab_below HT.out HI.out.below)).mono ?_; rintro e w7 ⟨rfl, hb7⟩; have HI9 := Aside0.mk (HI.out.step hb7); clear HI; have HI := HI9; clear HI9; clear hb7) | (go_at_call 33; refine (TF.upp _).mono ?_; rintro e w7 ⟨rfl, hb7⟩; have HI9 := Aside0.mk (HI.out.step hb7); clear HI; have HI := HI9; clear HI9; clear hb7) | (go_at_call 32; rw [← HTT.out]; refine (bld_WriteString_k w.heap.size w.heap.size (Lib.byteCells (bs ++ [38])) T _ HI.out.bld (by rw [Lib.byteCells_length, List.length_append]; have := HBL.out; have := HSM.out; simp only [List.length_cons, List.length_nil]; omega) (Nat.le_of_lt HI.out.lt)).mono ?_; rintro e w8 ⟨rfl, hw1, hw2, hw3⟩; have HI9 := Aside0.mk (HI.out.write T.data.toList hw1 hw2 hw3); clear HI; have HI := HI9; clear HI9; clear hw1 hw2 hw3))
      case' true =>
       go_wp2_with (first | (go_at_call 28; refine (win_calls _).mono ?_; rintro e w5 ⟨rfl, hb5⟩; have HI9 := Aside0.mk (HI.out.step hb5); clear HI; have HI := HI9; clear HI9; clear hb5) | (go_at_call 30; refine (bld_WriteByte_k w.heap.size w.heap.size (Lib.byteCells bs) 38 _ HI.out.bld (by rw [Lib.byteCells_length]; have := HBL.out; omega) (Nat.le_of_lt HI.out.lt)).mono ?_; rintro e w6 ⟨rfl, hw1, hw2, hw3⟩; have HI9 := Aside0.mk (HI.out.write [38] hw1 hw2 hw3); clear HI; have HI := HI9; clear HI9; clear hw1 hw2 hw3) | (go_at_call 31; refine (TF.nam _ _ _ (kC_one _ _ _) (Nat.le_refl _)).mono ?_; rintro e w7 ⟨rfl, hb7⟩; have HI9 := Aside0.mk ((HI.out.step ((Below.refl _ _).alloc (Nat.le_refl _) _)).step hb7); clear HI; have HI := HI9; clear HI9; clear hb7) | (go_at_call 32; refine (bld_WriteString_k w.heap.size w.heap.size (Lib.byteCells (bs ++ [38])) nm _ HI.out.bld (by rw [Lib.byteCells_length, List.length_append]; have := HBL.out; have := HNM.out; simp only [List.length_cons, List.length_nil]; omega) (Nat.le_of_lt HI.out.lt)).mono ?_; rintro e w8 ⟨rfl, hw1, hw2, hw3⟩; have HI9 := Aside0.mk (HI.out.write (nm : ByteArray).data.toList hw1 hw2 hw3); clear HI; have HI := HI9; clear HI9; clear hw1 hw2 hw3))
      case' false =>
       refine ⟨⟨pos + q2, bs ++ [38] ++ T.data.toList, by omega, ⟨by rw [← HR2.out, HAN.out]; simp⟩, HV2, HI.out.iter, HI⟩, ?_⟩
      case' true =>
       refine ⟨⟨pos + q2, bs ++ [38] ++ nm.data.toList, by omega, ⟨by rw [← HR2.out, HAN.out]; simp⟩, HV2, HI.out.iter, HI⟩, ?_⟩
      all_goals
       rw [HIP.out, iterPos_of HI.out.iter]
       omega
    ·have hwn : winN q1 = q1 := by unfold winN; rw [if_neg cW]
     obtain ⟨nm, b, H, S, TF, hnm, hsm, hra⟩ := tailF q1 (by omega)
     rw [hwn, hra] at HAN
     clear hwn hra
     by_cases c1 : q1 < 128
     ·have cP' : q1 = 38 ∨ (q1 ≠ 38 ∧ q1 = 60) ∨ (q1 ≠ 38 ∧ q1 ≠ 60 ∧ q1 = 62) ∨ (q1 ≠ 38 ∧ q1 ≠ 60 ∧ q1 ≠ 62 ∧ q1 = 34 ∧ attr = true) := by
       rcases Nat.lt_or_ge q1 34 with k | k
       ·exact absurd (show plainA attr q1 = true by unfold plainA; rw [decide_eq_true c1, decide_eq_true (show q1 ≠ 38 by omega), decide_eq_true (show q1 ≠ 60 by omega), decide_eq_true (show q1 ≠ 62 by omega), decide_eq_true (show q1 ≠ 34 by omega)]; rfl) cP
       by_cases k1 : q1 = 38
       ·exact .inl k1
       by_cases k2 : q1 = 60
       ·exact .inr (.inl ⟨k1, k2⟩)
       by_cases k3 : q1 = 62
       ·exact .inr (.inr (.inl ⟨k1, k2, k3⟩))
       by_cases k4 : q1 = 34
       ·refine .inr (.inr (.inr ⟨k1, k2, k3, k4, ?_⟩))
        cases attr
        ·exact absurd (show plainA false q1 = true by unfold plainA; rw [decide_eq_true c1, decide_eq_true k1, decide_eq_true k2, decide_eq_true k3]; simp) cP
        ·rfl
       exact absurd (show plainA attr q1 = true by unfold plainA; rw [decide_eq_true c1, decide_eq_true k1, decide_eq_true k2, decide_eq_true k3, decide_eq_true k4]; rfl) cP
      clear cW cP
      rcases cP' with h | ⟨h1, h⟩ | ⟨h1, h2, h⟩ | ⟨h1, h2, h3, h, rfl⟩
      ·have b1 : ((q1 : Int) != 38) = false := bne_eq_false_iff_eq.2 (by omega)
       clear h
       have HNM := Aside0.mk hnm
       have hsm9 : ((⟨#[35, 120]⟩ ++ S ++ ⟨#[59]⟩ : ByteArray)).size ≤ 9 := by rw [ByteArray.size_append, ByteArray.size_append]; show 2 + S.size + 1 ≤ 9; omega
       have hrt : ((⟨#[35, 120]⟩ ++ S ++ ⟨#[59]⟩ : ByteArray)).data.toList = [35, 120] ++ S.data.toList ++ [59] := by simp [ByteArray.data_append]
       obtain ⟨T, hT⟩ : ∃ T : ByteArray, T = ⟨#[35, 120]⟩ ++ S ++ ⟨#[59]⟩ := ⟨_, rfl⟩
       rw [← hT] at hsm9 hrt
       rw [← hrt] at HAN
       have HSM := Aside0.mk hsm9
       have HTT := Aside0.mk hT
       clear hT hsm9 hrt
       cases b
       case' false =>
        go_wp2_with (first | (go_at_call 28; refine (win_calls _).mono ?_; rintro e w5 ⟨rfl, hb5⟩; have HI9 := Aside0.mk (HI.out.step hb5); clear HI; have HI := HI9; clear HI9; clear hb5) | (go_at_call 30; refine (bld_WriteByte_k w.heap.size w.heap.size (Lib.byteCells bs) 38 _ HI.out.bld (by rw [Lib.byteCells_length]; have := HBL.out; omega) (Nat.le_of_lt HI.out.lt)).mono ?_; rintro e w6 ⟨rfl, hw1, hw2, hw3⟩; have HI9 := Aside0.mk (HI.out.write [38] hw1 hw2 hw3); clear HI; have HI := HI9; clear HI9; clear hw1 hw2 hw3) | (go_at_call 31; refine (TF.nam _ _ _ (kC_one _ _ _) (Nat.le_refl _)).mono ?_; rintro e w7 ⟨rfl, hb7⟩; have HI9 := Aside0.mk ((HI.out.step ((Below.refl _ _).alloc (Nat.le_refl _) _)).step hb7); clear HI; have HI := HI9; clear HI9; clear hb7) | (go_at_call 34; refine (TF.fmt _ (tab_below HT.out HI.out.below)).mono ?_; rintro e w7 ⟨rfl, hb7⟩; have HI9 := Aside0.mk (HI.out.step hb7); clear HI; have HI := HI9; clear HI9; clear hb7) | (go_at_call 33; refine (TF.upp _).mono ?_; rintro e w7 ⟨rfl, hb7⟩; have HI9 := Aside0.mk (HI.out.step hb7); clear HI; have HI := HI9; clear HI9; clear hb7) | (go_at_call 32; rw [← HTT.out]; refine (bld_WriteString_k w.heap.size w.heap.size (Lib.byteCells (bs ++ [38])) T _ HI.out.bld (by rw [Lib.byteCells_length, List.length_append]; have := HBL.out; have := HSM.out; simp only [List.length_cons, List.length_nil]; omega) (Nat.le_of_lt HI.out.lt)).mono ?_; rintro e w8 ⟨rfl, hw1, hw2, hw3⟩; have HI9 := Aside0.mk (HI.out.write T.data.toList hw1 hw2 hw3); clear HI; have HI := HI9; clear HI9; clear hw1 hw2 hw3))
       case' true =>
        go_wp2_with (first | (go_at_call 28; refine (win_calls _).mono ?_; rintro e w5 ⟨rfl, hb5⟩; have HI9 := Aside0.mk (HI.out.step hb5); clear HI; have HI := HI9; clear HI9; clear hb5) | (go_at_call 30; refine (bld_WriteByte_k w.heap.size w.heap.size (Lib.byteCells bs) 38 _ HI.out.bld (by rw [Lib.byteCells_length]; have := HBL.out; omega) (Nat.le_of_lt HI.out.lt)).mono ?_; rintro e w6 ⟨rfl, hw1, hw2, hw3⟩; have HI9 := Aside0.mk (HI.out.write [38] hw1 hw2 hw3); clear HI; have HI := HI9; clear HI9; clear hw1 hw2 hw3) | (go_at_call 31; refine (TF.nam _ _ _ (kC_one _ _ _) (Nat.le_refl _)).mono ?_; rintro e w7 ⟨rfl, hb7⟩; have HI9 := Aside0.mk ((HI.out.step ((Below.refl _ _).alloc (Nat.le_refl _) _)).step hb7); clear HI; have HI := HI9; clear HI9; clear hb7) | (go_at_call 32; refine (bld_WriteString_k w.heap.size w.heap.size (Lib.byteCells (bs ++ [38])) nm _ HI.out.bld (by rw [Lib.byteCells_length, List.length_append]; have := HBL.out; have := HNM.out; simp only [List.length_cons, List.length_nil]; omega) (Nat.le_of_lt HI.out.lt)).mono ?_; rintro e w8 ⟨rfl, hw1, hw2, hw3⟩; have HI9 := Aside0.mk (HI.out.write (nm : ByteArray).data.toList hw1 hw2 hw3); clear HI; have HI := HI9; clear HI9; clear hw1 hw2 hw3))
       case' false =>
        refine ⟨⟨pos + q2, bs ++ [38] ++ T.data.toList, by omega, ⟨by rw [← HR2.out, HAN.out]; simp⟩, HV2, HI.out.iter, HI⟩, ?_⟩
       case' true =>
        refine ⟨⟨pos + q2, bs ++ [38] ++ nm.data.toList, by omega, ⟨by rw [← HR2.out, HAN.out]; simp⟩, HV2, HI.out.iter, HI⟩, ?_⟩
       all_goals
        rw [HIP.out, iterPos_of HI.out.iter]
        omega
      ·have b1 : ((q1 : Int) != 38) = true := bne_iff_ne.2 (by omega)
       have b2 : ((q1 : Int) != 60) = false := bne_eq_false_iff_eq.2 (by omega)
       clear h h1
       have HNM := Aside0.mk hnm
       have hsm9 : ((⟨#[35, 120]⟩ ++ S ++ ⟨#[59]⟩ : ByteArray)).size ≤ 9 := by rw [ByteArray.size_append, ByteArray.size_append]; show 2 + S.size + 1 ≤ 9; omega
       have hrt : ((⟨#[35, 120]⟩ ++ S ++ ⟨#[59]⟩ : ByteArray)).data.toList = [35, 120] ++ S.data.toList ++ [59] := by simp [ByteArray.data_append]
       obtain ⟨T, hT⟩ : ∃ T : ByteArray, T = ⟨#[35, 120]⟩ ++ S ++ ⟨#[59]⟩ := ⟨_, rfl⟩
       rw [← hT] at hsm9 hrt
       rw [← hrt] at HAN
       have HSM := Aside0.mk hsm9
       have HTT := Aside0.mk hT
       clear hT hsm9 hrt
       cases b
       case' false =>
        go_wp2_with (first | (go_at_call 28; refine (win_calls _).mono ?_; rintro e w5 ⟨rfl, hb5⟩; have HI9 := Aside0.mk (HI.out.step hb5); clear HI; have HI := HI9; clear HI9; clear hb5) | (go_at_call 30; refine (bld_WriteByte_k w.heap.size w.heap.size (Lib.byteCells bs) 38 _ HI.out.bld (by rw [Lib.byteCells_length]; have := HBL.out; omega) (Nat.le_of_lt HI.out.lt)).mono ?_; rintro e w6 ⟨rfl, hw1, hw2, hw3⟩; have HI9 := Aside0.mk (HI.out.write [38] hw1 hw2 hw3); clear HI; have HI := HI9; clear HI9; clear hw1 hw2 hw3) | (go_at_call 31; refine (TF.nam _ _ _ (kC_one _ _ _) (Nat.le_refl _)).mono ?_; rintro e w7 ⟨rfl, hb7⟩; have HI9 := Aside0.mk ((HI.out.step ((Below.refl _ _).alloc (Nat.le_refl _) _)).step hb7); clear HI; have HI := HI9; clear HI9; clear hb7) | (go_at_call 34; refine (TF.fmt _ (tab_below HT.out HI.out.below)).mono ?_; rintro e w7 ⟨rfl, hb7⟩; have HI9 := Aside0.mk (HI.out.step hb7); clear HI; have HI := HI9; clear HI9; clear hb7) | (go_at_call 33; refine (TF.upp _).mono ?_; rintro e w7 ⟨rfl, hb7⟩; have HI9 := Aside0.mk (HI.out.step hb7); clear HI; have HI := HI9; clear HI9; clear hb7) | (go_at_call 32; rw [← HTT.out]; refine (bld_WriteString_k w.heap.size w.heap.size (Lib.byteCells (bs ++ [38])) T _ HI.out.bld (by rw [Lib.byteCells_length, List.length_append]; have := HBL.out; have := HSM.out; simp only [List.length_cons, List.length_nil]; omega) (Nat.le_of_lt HI.out.lt)).mono ?_; rintro e w8 ⟨rfl, hw1, hw2, hw3⟩; have HI9 := Aside0.mk (HI.out.write T.data.toList hw1 hw2 hw3); clear HI; have HI := HI9; clear HI9; clear hw1 hw2 hw3))
       case' true =>
        go_wp2_with (first | (go_at_call 28; refine (win_calls _).mono ?_; rintro e w5 ⟨rfl, hb5⟩; have HI9 := Aside0.mk (HI.out.step hb5); clear HI; have HI := HI9; clear HI9; clear hb5) | (go_at_call 30; refine (bld_WriteByte_k w.heap.size w.heap.size (Lib.byteCells bs) 38 _ HI.out.bld (by rw [Lib.byteCells_length]; have := HBL.out; omega) (Nat.le_of_lt HI.out.lt)).mono ?_; rintro e w6 ⟨rfl, hw1, hw2, hw3⟩; have HI9 := Aside0.mk (HI.out.write [38] hw1 hw2 hw3); clear HI; have HI := HI9; clear HI9; clear hw1 hw2 hw3) | (go_at_call 31; refine (TF.nam _ _ _ (kC_one _ _ _) (Nat.le_refl _)).mono ?_; rintro e w7 ⟨rfl, hb7⟩; have HI9 := Aside0.mk ((HI.out.step ((Below.refl _ _).alloc (Nat.le_refl _) _)).step hb7); clear HI; have HI := HI9; clear HI9; clear hb7) | (go_at_call 32; refine (bld_WriteString_k w.heap.size w.heap.size (Lib.byteCells (bs ++ [38])) nm _ HI.out.bld (by rw [Lib.byteCells_length, List.length_append]; have := HBL.out; have := HNM.out; simp only [List.length_cons, List.length_nil]; omega) (Nat.le_of_lt HI.out.lt)).mono ?_; rintro e w8 ⟨rfl, hw1, hw2, hw3⟩; have HI9 := Aside0.mk (HI.out.write (nm : ByteArray).data.toList hw1 hw2 hw3); clear HI; have HI := HI9; clear HI9; clear hw1 hw2 hw3))
       case' false =>
        refine ⟨⟨pos + q2, bs ++ [38] ++ T.data.toList, by omega, ⟨by rw [← HR2.out, HAN.out]; simp⟩, HV2, HI.out.iter, HI⟩, ?_⟩
       case' true =>
        refine ⟨⟨pos + q2, bs ++ [38] ++ nm.data.toList, by omega, ⟨by rw [← HR2.out, HAN.out]; simp⟩, HV2, HI.out.iter, HI⟩, ?_⟩
       all_goals
        rw [HIP.out, iterPos_of HI.out.iter]
        omega
      ·have b1 : ((q1 : Int) != 38) = true := bne_iff_ne.2 (by omega)
       have b2 : ((q1 : Int) != 60) = true := bne_iff_ne.2 (by omega)
       have b3 : ((q1 : Int) != 62) = false := bne_eq_false_iff_eq.2 (by omega)
       clear h h1 h2
       have HNM := Aside0.mk hnm
       have hsm9 : ((⟨#[35, 120]⟩ ++ S ++ ⟨#[59]⟩ : ByteArray)).size ≤ 9 := by rw [ByteArray.size_append, ByteArray.size_append]; show 2 + S.size + 1 ≤ 9; omega
       have hrt : ((⟨#[35, 120]⟩ ++ S ++ ⟨#[59]⟩ : ByteArray)).data.toList = [35, 120] ++ S.data.toList ++ [59] := by simp [ByteArray.data_append]
       obtain ⟨T, hT⟩ : ∃ T : ByteArray, T = ⟨#[35, 120]⟩ ++ S ++ ⟨#[59]⟩ := ⟨_, rfl⟩
       rw [← hT] at hsm9 hrt
       rw [← hrt] at HAN
       have HSM := Aside0.mk hsm9
       have HTT := Aside0.mk hT
       clear hT hsm9 hrt
       cases b
       case' false =>
        go_wp2_with (first | (go_at_call 28; refine (win_calls _).mono ?_; rintro e w5 ⟨rfl, hb5⟩; have HI9 := Aside0.mk (HI.out.step hb5); clear HI; have HI := HI9; clear HI9; clear hb5) | (go_at_call 30; refine (bld_WriteByte_k w.heap.size w.heap.size (Lib.byteCells bs) 38 _ HI.out.bld (by rw [Lib.byteCells_length]; have := HBL.out; omega) (Nat.le_of_lt HI.out.lt)).mono ?_; rintro e w6 ⟨rfl, hw1, hw2, hw3⟩; have HI9 := Aside0.mk (HI.out.write [38] hw1 hw2 hw3); clear HI; have HI := HI9; clear HI9; clear hw1 hw2 hw3) | (go_at_call 31; refine (TF.nam _ _ _ (kC_one _ _ _) (Nat.le_refl _)).mono ?_; rintro e w7 ⟨rfl, hb7⟩; have HI9 := Aside0.mk ((HI.out.step ((Below.refl _ _).alloc (Nat.le_refl _) _)).step hb7); clear HI; have HI := HI9; clear HI9; clear hb7) | (go_at_call 34; refine (TF.fmt _ (tab_below HT.out HI.out.below)).mono ?_; rintro e w7 ⟨rfl, hb7⟩; have HI9 := Aside0.mk (HI.out.step hb7); clear HI; have HI := HI9; clear HI9; clear hb7) | (go_at_call 33; refine (TF.upp _).mono ?_; rintro e w7 ⟨rfl, hb7⟩; have HI9 := Aside0.mk (HI.out.step hb7); clear HI; have HI := HI9; clear HI9; clear hb7) | (go_at_call 32; rw [← HTT.out]; refine (bld_WriteString_k w.heap.size w.heap.size (Lib.byteCells (bs ++ [38])) T _ HI.out.bld (by rw [Lib.byteCells_length, List.length_append]; have := HBL.out; have := HSM.out; simp only [List.length_cons, List.length_nil]; omega) (Nat.le_of_lt HI.out.lt)).mono ?_; rintro e w8 ⟨rfl, hw1, hw2, hw3⟩; have HI9 := Aside0.mk (HI.out.write T.data.toList hw1 hw2 hw3); clear HI; have HI := HI9; clear HI9; clear hw1 hw2 hw3))
       case' true =>
        go_wp2_with (first | (go_at_call 28; refine (win_calls _).mono ?_; rintro e w5 ⟨rfl, hb5⟩; have HI9 := Aside0.mk (HI.out.step hb5); clear HI; have HI := HI9; clear HI9; clear hb5) | (go_at_call 30; refine (bld_WriteByte_k w.heap.size w.heap.size (Lib.byteCells bs) 38 _ HI.out.bld (by rw [Lib.byteCells_length]; have := HBL.out; omega) (Nat.le_of_lt HI.out.lt)).mono ?_; rintro e w6 ⟨rfl, hw1, hw2, hw3⟩; have HI9 := Aside0.mk (HI.out.write [38] hw1 hw2 hw3); clear HI; have HI := HI9; clear HI9; clear hw1 hw2 hw3) | (go_at_call 31; refine (TF.nam _ _ _ (kC_one _ _ _) (Nat.le_refl _)).mono ?_; rintro e w7 ⟨rfl, hb7⟩; have HI9 := Aside0.mk ((HI.out.step ((Below.refl _ _).alloc (Nat.le_refl _) _)).step hb7); clear HI; have HI := HI9; clear HI9; clear hb7) | (go_at_call 32; refine (bld_WriteString_k w.heap.size w.heap.size (Lib.byteCells (bs ++ [38])) nm _ HI.out.bld (by rw [Lib.byteCells_length, List.length_append]; have := HBL.out; have := HNM.out; simp only [List.length_cons, List.length_nil]; omega) (Nat.le_of_lt HI.out.lt)).mono ?_; rintro e w8 ⟨rfl, hw1, hw2, hw3⟩; have HI9 := Aside0.mk (HI.out.write (nm : ByteArray).data.toList hw1 hw2 hw3); clear HI; have HI := HI9; clear HI9; clear hw1 hw2 hw3))
       case' false =>
        refine ⟨⟨pos + q2, bs ++ [38] ++ T.data.toList, by omega, ⟨by rw [← HR2.out, HAN.out]; simp⟩, HV2, HI.out.iter, HI⟩, ?_⟩
       case' true =>
        refine ⟨⟨pos + q2, bs ++ [38] ++ nm.data.toList, by omega, ⟨by rw [← HR2.out, HAN.out]; simp⟩, HV2, HI.out.iter, HI⟩, ?_⟩
       all_goals
        rw [HIP.out, iterPos_of HI.out.iter]
        omega
      ·have b1 : ((q1 : Int) != 38) = true := bne_iff_ne.2 (by omega)
       have b2 : ((q1 : Int) != 60) = true := bne_iff_ne.2 (by omega)
       have b3 : ((q1 : Int) != 62) = true := bne_iff_ne.2 (by omega)
       have b4 : ((q1 : Int) != 34) = false := bne_eq_false_iff_eq.2 (by omega)
       clear h h1 h2 h3
       have HNM := Aside0.mk hnm
       have hsm9 : ((⟨#[35, 120]⟩ ++ S ++ ⟨#[59]⟩ : ByteArray)).size ≤ 9 := by rw [ByteArray.size_append, ByteArray.size_append]; show 2 + S.size + 1 ≤ 9; omega
       have hrt : ((⟨#[35, 120]⟩ ++ S ++ ⟨#[59]⟩ : ByteArray)).data.toList = [35, 120] ++ S.data.toList ++ [59] := by simp [ByteArray.data_append]
       obtain ⟨T, hT⟩ : ∃ T : ByteArray, T = ⟨#[35, 120]⟩ ++ S ++ ⟨#[59]⟩ := ⟨_, rfl⟩
       rw [← hT] at hsm9 hrt
       rw [← hrt] at HAN
       have HSM := Aside0.mk hsm9
       have HTT := Aside0.mk hT
       clear hT hsm9 hrt
       cases b
       case' false =>
        go_wp2_with (first | (go_at_call 28; refine (win_calls _).mono ?_; rintro e w5 ⟨rfl, hb5⟩; have HI9 := Aside0.mk (HI.out.step hb5); clear HI; have HI := HI9; clear HI9; clear hb5) | (go_at_call 30; refine (bld_WriteByte_k w.heap.size w.heap.size (Lib.byteCells bs) 38 _ HI.out.bld (by rw [Lib.byteCells_length]; have := HBL.out; omega) (Nat.le_of_lt HI.out.lt)).mono ?_; rintro e w6 ⟨rfl, hw1, hw2, hw3⟩; have HI9 := Aside0.mk (HI.out.write [38] hw1 hw2 hw3); clear HI; have HI := HI9; clear HI9; clear hw1 hw2 hw3) | (go_at_call 31; refine (TF.nam _ _ _ (kC_one _ _ _) (Nat.le_refl _)).mono ?_; rintro e w7 ⟨rfl, hb7⟩; have HI9 := Aside0.mk ((HI.out.step ((Below.refl _ _).alloc (Nat.le_refl _) _)).step hb7); clear HI; have HI := HI9; clear HI9; clear hb7) | (go_at_call 34; refine (TF.fmt _ (tab_below HT.out HI.out.below)).mono ?_; rintro e w7 ⟨rfl, hb7⟩; have HI9 := Aside0.mk (HI.out.step hb7); clear HI; have HI := HI9; clear HI9; clear hb7) | (go_at_call 33; refine (TF.upp _).mono ?_; rintro e w7 ⟨rfl, hb7⟩; have HI9 := Aside0.mk (HI.out.step hb7); clear HI; have HI := HI9; clear HI9; clear hb7) | (go_at_call 32; rw [← HTT.out]; refine (bld_WriteString_k w.heap.size w.heap.size (Lib.byteCells (bs ++ [38])) T _ HI.out.bld (by rw [Lib.byteCells_length, List.length_append]; have := HBL.out; have := HSM.out; simp only [List.length_cons, List.length_nil]; omega) (Nat.le_of_lt HI.out.lt)).mono ?_; rintro e w8 ⟨rfl, hw1, hw2, hw3⟩; have HI9 := Aside0.mk (HI.out.write T.data.toList hw1 hw2 hw3); clear HI; have HI := HI9; clear HI9; clear hw1 hw2 hw3))
       case' true =>
        go_wp2_with (first | (go_at_call 28; refine (win_calls _).mono ?_; rintro e w5 ⟨rfl, hb5⟩; have HI9 := Aside0.mk (HI.out.step hb5); clear HI; have HI := HI9; clear HI9; clear hb5) | (go_at_call 30; refine (bld_WriteByte_k w.heap.size w.heap.size (Lib.byteCells bs) 38 _ HI.out.bld (by rw [Lib.byteCells_length]; have := HBL.out; omega) (Nat.le_of_lt HI.out.lt)).mono ?_; rintro e w6 ⟨rfl, hw1, hw2, hw3⟩; have HI9 := Aside0.mk (HI.out.write [38] hw1 hw2 hw3); clear HI; have HI := HI9; clear HI9; clear hw1 hw2 hw3) | (go_at_call 31; refine (TF.nam _ _ _ (kC_one _ _ _) (Nat.le_refl _)).mono ?_; rintro e w7 ⟨rfl, hb7⟩; have HI9 := Aside0.mk ((HI.out.step ((Below.refl _ _).alloc (Nat.le_refl _) _)).step hb7); clear HI; have HI := HI9; clear HI9; clear hb7) | (go_at_call 32; refine (bld_WriteString_k w.heap.size w.heap.size (Lib.byteCells (bs ++ [38])) nm _ HI.out.bld (by rw [Lib.byteCells_length, List.length_append]; have := HBL.out; have := HNM.out; simp only [List.length_cons, List.length_nil]; omega) (Nat.le_of_lt HI.out.lt)).mono ?_; rintro e w8 ⟨rfl, hw1, hw2, hw3⟩; have HI9 := Aside0.mk (HI.out.write (nm : ByteArray).data.toList hw1 hw2 hw3); clear HI; have HI := HI9; clear HI9; clear hw1 hw2 hw3))
       case' false =>
        refine ⟨⟨pos + q2, bs ++ [38] ++ T.data.toList, by omega, ⟨by rw [← HR2.out, HAN.out]; simp⟩, HV2, HI.out.iter, HI⟩, ?_⟩
       case' true =>
        refine ⟨⟨pos + q2, bs ++ [38] ++ nm.data.toList, by omega, ⟨by rw [← HR2.out, HAN.out]; simp⟩, HV2, HI.out.iter, HI⟩, ?_⟩
       all_goals
        rw [HIP.out, iterPos_of HI.out.iter]
        omega
     ·have d1 : 160 ≤ q1 := by omega
      clear cW cP c1
      have HNM := Aside0.mk hnm
      have hsm9 : ((⟨#[35, 120]⟩ ++ S ++ ⟨#[59]⟩ : ByteArray)).size ≤ 9 := by rw [ByteArray.size_append, ByteArray.size_append]; show 2 + S.size + 1 ≤ 9; omega
      have hrt : ((⟨#[35, 120]⟩ ++ S ++ ⟨#[59]⟩ : ByteArray)).data.toList = [35, 120] ++ S.data.toList ++ [59] := by simp [ByteArray.data_append]
      obtain ⟨T, hT⟩ : ∃ T : ByteArray, T = ⟨#[35, 120]⟩ ++ S ++ ⟨#[59]⟩ := ⟨_, rfl⟩
      rw [← hT] at hsm9 hrt
      rw [← hrt] at HAN
      have HSM := Aside0.mk hsm9
      have HTT := Aside0.mk hT
      clear hT hsm9 hrt
      cases b
      case' false =>
       go_wp2_with (first | (go_at_call 28; refine (win_calls _).mono ?_; rintro e w5 ⟨rfl, hb5⟩; have HI9 := Aside0.mk (HI.out.step hb5); clear HI; have HI := HI9; clear HI9; clear hb5) | (go_at_call 30; refine (bld_WriteByte_k w.heap.size w.heap.size (Lib.byteCells bs) 38 _ HI.out.bld (by rw [Lib.byteCells_length]; have := HBL.out; omega) (Nat.le_of_lt HI.out.lt)).mono ?_; rintro e w6 ⟨rfl, hw1, hw2, hw3⟩; have HI9 := Aside0.mk (HI.out.write [38] hw1 hw2 hw3); clear HI; have HI := HI9; clear HI9; clear hw1 hw2 hw3) | (go_at_call 31; refine (TF.nam _ _ _ (kC_one _ _ _) (Nat.le_refl _)).mono ?_; rintro e w7 ⟨rfl, hb7⟩; have HI9 := Aside0.mk ((HI.out.step ((Below.refl _ _).alloc (Nat.le_refl _) _)).step hb7); clear HI; have HI := HI9; clear HI9; clear hb7) | (go_at_call 34; refine (TF.fmt _ (tab_below HT.out HI.out.below)).mono ?_; rintro e w7 ⟨rfl, hb7⟩; have HI9 := Aside0.mk (HI.out.step hb7); clear HI; have HI := HI9; clear HI9; clear hb7) | (go_at_call 33; refine (TF.upp _).mono ?_; rintro e w7 ⟨rfl, hb7⟩; have HI9 := Aside0.mk (HI.out.step hb7); clear HI; have HI := HI9; clear HI9; clear hb7) | (go_at_call 32; rw [← HTT.out]; refine (bld_WriteString_k w.heap.size w.heap.size (Lib.byteCells (bs ++ [38])) T _ HI.out.bld (by rw [Lib.byteCells_length, List.length_append]; have := HBL.out; have := HSM.out; simp only [List.length_cons, List.length_nil]; omega) (Nat.le_of_lt HI.out.lt)).mono ?_; rintro e w8 ⟨rfl, hw1, hw2, hw3⟩; have HI9 := Aside0.mk (HI.out.write T.data.toList hw1 hw2 hw3); clear HI; have HI := HI9; clear HI9; clear hw1 hw2 hw3))
      case' true =>
       go_wp2_with (first | (go_at_call 28; refine (win_calls _).mono ?_; rintro e w5 ⟨rfl, hb5⟩; have HI9 := Aside0.mk (HI.out.step hb5); clear HI; have HI := HI9; clear HI9; clear hb5) | (go_at_call 30; refine (bld_WriteByte_k w.heap.size w.heap.size (Lib.byteCells bs) 38 _ HI.out.bld (by rw [Lib.byteCells_length]; have := HBL.out; omega) (Nat.le_of_lt HI.out.lt)).mono ?_; rintro e w6 ⟨rfl, hw1, hw2, hw3⟩; have HI9 := Aside0.mk (HI.out.write [38] hw1 hw2 hw3); clear HI; have HI := HI9; clear HI9; clear hw1 hw2 hw3) | (go_at_call 31; refine (TF.nam _ _ _ (kC_one _ _ _) (Nat.le_refl _)).mono ?_; rintro e w7 ⟨rfl, hb7⟩; have HI9 := Aside0.mk ((HI.out.step ((Below.refl _ _).alloc (Nat.le_refl _) _)).step hb7); clear HI; have HI := HI9; clear HI9; clear hb7) | (go_at_call 32; refine (bld_WriteString_k w.heap.size w.heap.size (Lib.byteCells (bs ++ [38])) nm _ HI.out.bld (by rw [Lib.byteCells_length, List.length_append]; have := HBL.out; have := HNM.out; simp only [List.length_cons, List.length_nil]; omega) (Nat.le_of_lt HI.out.lt)).mono ?_; rintro e w8 ⟨rfl, hw1, hw2, hw3⟩; have HI9 := Aside0.mk (HI.out.write (nm : ByteArray).data.toList hw1 hw2 hw3); clear HI; have HI := HI9; clear HI9; clear hw1 hw2 hw3))
      case' false =>
       refine ⟨⟨pos + q2, bs ++ [38] ++ T.data.toList, by omega, ⟨by rw [← HR2.out, HAN.out]; simp⟩, HV2, HI.out.iter, HI⟩, ?_⟩
      case' true =>
       refine ⟨⟨pos + q2, bs ++ [38] ++ nm.data.toList, by omega, ⟨by rw [← HR2.out, HAN.out]; simp⟩, HV2, HI.out.iter, HI⟩, ?_⟩
      all_goals
       rw [HIP.out, iterPos_of HI.out.iter]
       omega
  ·obtain rfl : pos = m.size := by omega
   have hnx : ∀ ty, (Instr.next (.pointer (some ⟨w1.heap.size, 0, none⟩)) true ty).run Tryd.prog wr = _ := fun ty => Lib.run_next_end_at wr w1.heap.size m m.size ty hit hp
   have hbs := HR.out
   rw [List.drop_of_length_le (by have := HML.out; omega)] at hbs
   rw [show ascL attr (runes []) = [] from rfl, List.append_nil] at hbs
   have HBS := Aside0.mk hbs
   clear hbs HR HV
   go_wp2_with (first | (go_at_call 35; refine (Tryd.Builder_String_any_k w.heap.size w.heap.size bs _ HIr.out.bld (Nat.le_of_lt HIr.out.lt)).mono ?_; rintro e w9 ⟨rfl, hq1, hq2, hq3⟩))
   go_ret
   exact ⟨by rw [HBS.out]; rfl, HIr.out.below.trans hq2⟩

end Go.Proofs.YthmbbkbmlnaghaaDoor.P
end
section
/-
 CharrefLess, the plain part: where something is said in an attribute it is said in text; a text without an & is left; the decimal reference of a rune says it.
-/
namespace Go.Proofs.YthmbbkbmlnaghaaDoor.P
open Go.RowKit Go.Proofs.YthmbbkbmlnaghaaDoorW.PrintWords Go.Proofs.YthmbbkbmlnaghaaDoorW.PrintLast Go.Proofs.YthmbbkbmlnaghaaDoorW.PrintMore
set_option linter.unusedVariables false
set_option linter.unusedSimpArgs false

theorem mendL_asciiL : ∀ l : List UInt8, asciiL l → mendL l = l
 | [], _ => rfl
 | b :: t, h => by rw [mendL_ascii b t (h b List.mem_cons_self), mendL_asciiL t (asciiL_tail h)]
end Go.Proofs.YthmbbkbmlnaghaaDoor.P
end
section
/-
 CharrefBack, the plain part: what charref.Ascii writes for a rune is decoded to it (a control of the second row to U+FFFD).
-/
namespace Go.Proofs.YthmbbkbmlnaghaaDoor.P
open Go.RowKit Go.Proofs.YthmbbkbmlnaghaaDoorW.PrintWords Go.Proofs.YthmbbkbmlnaghaaDoorW.PrintLast Go.Proofs.YthmbbkbmlnaghaaDoorW.PrintMore
set_option linter.unusedVariables false
set_option linter.unusedSimpArgs false

/-! ### the named ones -/
theorem ent_facts : ∀ x ∈ ents, nameL x ≠ [] ∧ (nameL x).getD 0 0 ≠ 35 ∧ ((nameL x).all fun b => decide (b.toNat < 128) && decide (b ≠ 59) && decide (b ≠ 60) && decide (b ≠ 62) && decide (b ≠ 34)) = true := by decide +kernel
theorem ent_long : ∀ x ∈ ents, longL (nameL x ++ [59]) = ((nameL x).length + 1, saysE x) := by decide +kernel
theorem prefix_tail : ∀ (a p t : List UInt8), (59 : UInt8) ∉ p → p.isPrefixOf (a ++ 59 :: t) = p.isPrefixOf (a ++ [59])
 | _, [], _, _ => by simp
 | [], c :: p, t, h => by
  have hc : c ≠ 59 := fun e => h (e ▸ List.mem_cons_self)
  have hb : (c == 59) = false := beq_eq_false_iff_ne.2 hc
  simp [List.isPrefixOf, hb]
 | b :: a, c :: p, t, h => by
  show (c :: p).isPrefixOf (b :: (a ++ 59 :: t)) = (c :: p).isPrefixOf (b :: (a ++ [59]))
  rw [List.isPrefixOf_cons_cons, List.isPrefixOf_cons_cons, prefix_tail a p t fun e => h (List.mem_cons_of_mem _ e)]
theorem prefix_short : ∀ (a p t : List UInt8), (59 : UInt8) ∉ p → p.isPrefixOf (a ++ 59 :: t) = true → p.length ≤ a.length
 | _, [], _, _, _ => Nat.zero_le _
 | [], c :: p, t, h, hp => by
  have hc : c ≠ 59 := fun e => h (e ▸ List.mem_cons_self)
  simp [List.isPrefixOf, hc] at hp
 | b :: a, c :: p, t, h, hp => by
  replace hp : (c :: p).isPrefixOf (b :: (a ++ 59 :: t)) = true := hp
  rw [List.isPrefixOf_cons_cons, Bool.and_eq_true] at hp
  have := prefix_short a p t (fun e => h (List.mem_cons_of_mem _ e)) hp.2
  simp only [List.length_cons]
  omega
theorem getD_tail (a t : List UInt8) (i : Nat) (h : i ≤ a.length) : (a ++ 59 :: t).getD i 0 = (a ++ [59]).getD i 0 := by
 rw [List.getD_eq_getElem?_getD, List.getD_eq_getElem?_getD]
 rcases Nat.lt_or_ge i a.length with h1 | h1
 ·rw [List.getElem?_append_left h1, List.getElem?_append_left h1]
 ·obtain rfl : i = a.length := by omega
  rw [List.getElem?_append_right (Nat.le_refl _), List.getElem?_append_right (Nat.le_refl _)]
  simp
theorem step_tail (a t : List UInt8) (x : Ent) (acc : Nat × List Int) (h : (59 : UInt8) ∉ nameL x) : stepL (a ++ 59 :: t) acc x = stepL (a ++ [59]) acc x := by
 unfold stepL
 rw [← prefix_tail a (nameL x) t h]
 by_cases c : (nameL x).isPrefixOf (a ++ 59 :: t) = true
 ·have hl := prefix_short a _ t h c
  rw [if_pos c, if_pos c, getD_tail a t _ hl]
  have e1 : (nameL x).length < (a ++ 59 :: t).length := by simp; omega
  have e2 : (nameL x).length < (a ++ [59]).length := by simp; omega
  simp only [e1, e2, true_and]
 ·rw [if_neg c, if_neg c]
theorem fold_tail (a t : List UInt8) : ∀ (es : List Ent) (acc : Nat × List Int), (∀ x ∈ es, (59 : UInt8) ∉ nameL x) → es.foldl (stepL (a ++ 59 :: t)) acc = es.foldl (stepL (a ++ [59])) acc
 | [], _, _ => rfl
 | x :: es, acc, h => by
  rw [List.foldl_cons, List.foldl_cons, step_tail a t x acc (h x List.mem_cons_self)]
  exact fold_tail a t es _ fun y hy => h y (List.mem_cons_of_mem _ hy)
theorem ent_no59 (x : Ent) (hx : x ∈ ents) : (59 : UInt8) ∉ nameL x := fun h => by
 have h3 := (ent_facts x hx).2.2
 rw [List.all_eq_true] at h3
 exact absurd (h3 59 h) (by decide)
theorem named_says (x : Ent) (hx : x ∈ ents) (t : List UInt8) (attr : Bool) : nextL (nameL x ++ 59 :: t) attr true = (Hc_text (saysE x), (((nameL x).length + 1 : Nat) : Int), true) := by
 obtain ⟨h1, h2, _⟩ := ent_facts x hx
 have hpos : 0 < (nameL x).length := List.length_pos_iff.2 h1
 have hg0 : (nameL x ++ 59 :: t).getD 0 0 = (nameL x).getD 0 0 := by
  rw [List.getD_eq_getElem?_getD, List.getElem?_append_left hpos, ← List.getD_eq_getElem?_getD]
 have hlong : longL (nameL x ++ 59 :: t) = ((nameL x).length + 1, saysE x) := by
  rw [← ent_long x hx]
  exact fold_tail _ t ents _ ent_no59
 unfold nextL
 rw [if_neg (fun h => h2 (hg0 ▸ h.2))]
 unfold namedL
 have hsemi : (nameL x ++ 59 :: t).getD ((nameL x).length + 1 - 1) 0 = 59 := by
  rw [Nat.add_sub_cancel, List.getD_eq_getElem?_getD, List.getElem?_append_right (Nat.le_refl _)]
  simp
 rw [if_neg (fun h => absurd h.1 (by decide)), hlong]
 dsimp only
 rw [if_neg (by omega), hsemi, if_neg (fun h => h.2 rfl)]
theorem nameFold_of (rs : List Int) : ∀ (l : List EntN) (best : ByteArray), (l.foldl (nameStep rs) best = best) ∨ ∃ x ∈ l, saysN x = rs ∧ l.foldl (nameStep rs) best = nameB x
 | [], best => .inl rfl
 | x :: l, best => by
  rw [List.foldl_cons]
  rcases nameFold_of rs l (nameStep rs best x) with h | ⟨y, hy, h1, h2⟩
  ·rw [h]
   unfold nameStep
   by_cases c : takeB rs best x = true
   ·rw [if_pos c]
    refine .inr ⟨x, List.mem_cons_self, ?_, rfl⟩
    unfold takeB at c
    rw [Bool.and_eq_true] at c
    exact of_decide_eq_true c.1
   ·rw [if_neg c]
    exact .inl rfl
  ·exact .inr ⟨y, List.mem_cons_of_mem _ hy, h1, h2⟩
theorem nameP_of (rs : List Int) (h : ¬ (nameP rs).toList.isEmpty = true) : ∃ x ∈ ents, saysN x = rs ∧ nameP rs = nameB x := by
 rcases nameFold_of rs ents ⟨#[]⟩ with h1 | h1
 ·exact absurd (show (nameP rs).toList.isEmpty = true by unfold nameP; rw [h1, ByteArray.toList_eq]; rfl) h
 ·exact h1
theorem nameB_list (x : EntN) : (nameB x).data.toList = nameL x ++ [59] := by
 unfold nameB nameL
 simp [ByteArray.data_append]

/-! ### the numbers -/
theorem hexD_up : ∀ d, d < 16 → isDig true (Lib.upperB (hexD d)) = true ∧ (digV (Lib.upperB (hexD d)).toNat).toNat = d ∧ (Lib.upperB (hexD d)).toNat < 60 ∨ d < 16 ∧ isDig true (Lib.upperB (hexD d)) = true ∧ (digV (Lib.upperB (hexD d)).toNat).toNat = d ∧ 64 < (Lib.upperB (hexD d)).toNat ∧ (Lib.upperB (hexD d)).toNat < 128 := by decide +kernel
theorem hexD_one (d : Nat) (h : d < 16) : isDig true (Lib.upperB (hexD d)) = true ∧ (digV (Lib.upperB (hexD d)).toNat).toNat = d := by
 rcases hexD_up d h with h | h
 ·exact ⟨h.1, h.2.1⟩
 ·exact ⟨h.2.1, h.2.2.1⟩
theorem hexF_mem : ∀ (k v : Nat), ∀ b ∈ hexF k v, ∃ d, d < 16 ∧ b = hexD d
 | 0, _, b, h => by cases h
 | k + 1, v, b, h => by
  rw [hexF] at h
  split at h
  ·rename_i hv
   exact ⟨v, hv, List.mem_singleton.1 h⟩
  ·rcases List.mem_append.1 h with h | h
   ·exact hexF_mem k _ b h
   ·exact ⟨v % 16, Nat.mod_lt _ (by decide), List.mem_singleton.1 h⟩
theorem hexS_mem (n : Nat) : ∀ b ∈ hexS n, ∃ d, d < 16 ∧ b = Lib.upperB (hexD d) := by
 intro b hb
 obtain ⟨c, hc, rfl⟩ := List.mem_map.1 hb
 obtain ⟨d, hd, rfl⟩ := hexF_mem 6 n c hc
 exact ⟨d, hd, rfl⟩
theorem hexF_fold : ∀ (k v : Nat), v < 16 ^ k → v ≤ 1114111 → ((hexF k v).map Lib.upperB).foldl (numStep 16) 0 = v
 | 0, v, h, _ => by
  have : v = 0 := by simpa using h
  subst this
  rfl
 | k + 1, v, h, hv => by
  rw [hexF]
  by_cases c : v < 16
  ·rw [if_pos c]
   show numStep 16 0 _ = v
   unfold numStep
   rw [(hexD_one v c).2]
   omega
  ·rw [if_neg c, List.map_append, List.foldl_append, hexF_fold k (v / 16) (by rw [Nat.pow_succ] at h; omega) (by omega)]
   show numStep 16 (v / 16) _ = v
   unfold numStep
   rw [(hexD_one (v % 16) (Nat.mod_lt _ (by decide))).2]
   omega
theorem hexS_fold (n : Nat) (h : n ≤ 1114111) : (hexS n).foldl (numStep 16) 0 = n := hexF_fold 6 n (by omega) h
theorem hexS_ne (n : Nat) : hexS n ≠ [] := by
 unfold hexS Lib.toUpperA
 rw [ne_eq, List.map_eq_nil_iff, hexF]
 split <;> simp
theorem hexS_all (n : Nat) : (hexS n).all (isDig true) = true := by
 rw [List.all_eq_true]
 intro b hb
 obtain ⟨d, hd, rfl⟩ := hexS_mem n b hb
 exact (hexD_one d hd).1
theorem nDig_hex : ∀ (ds t : List UInt8), ds.all (isDig true) = true → nDig true (ds ++ 59 :: t) = ds.length
 | [], t, _ => by
  show nDig true (59 :: t) = 0
  unfold nDig
  rw [if_neg (by decide)]
 | b :: ds, t, h => by
  rw [List.all_cons, Bool.and_eq_true] at h
  show nDig true (_ :: (ds ++ 59 :: t)) = _
  unfold nDig
  rw [if_pos h.1, nDig_hex ds t h.2, List.length_cons]
theorem nextL_hex (ds t : List UInt8) (h : ds.all (isDig true) = true) (hne : ds ≠ []) (attr : Bool) :
  nextL (35 :: 120 :: (ds ++ 59 :: t)) attr true = (Utf8.encode (numL true ds).1, ((ds.length + 3 : Nat) : Int), true) := by
 have hl : 0 < ds.length := List.length_pos_iff.2 hne
 have hx : hexL (35 :: 120 :: (ds ++ 59 :: t)) = true := rfl
 have hf : fromL (35 :: 120 :: (ds ++ 59 :: t)) = 2 := by unfold fromL; rw [hx]; rfl
 have ha : atL (35 :: 120 :: (ds ++ 59 :: t)) = ds.length + 2 := by
  unfold atL
  rw [hf, hx, List.drop_succ_cons, List.drop_succ_cons, List.drop_zero, nDig_hex ds t h]
  omega
 have hlen : (35 :: 120 :: (ds ++ 59 :: t)).length = ds.length + 3 + t.length := by simp; omega
 have hgd : (35 :: 120 :: (ds ++ 59 :: t)).getD (ds.length + 2) 0 = 59 := by
  rw [List.getD_cons_succ, List.getD_cons_succ, List.getD_eq_getElem?_getD, List.getElem?_append_right (Nat.le_refl _)]
  simp
 have htk : ((35 :: 120 :: (ds ++ 59 :: t)).take (ds.length + 2)).drop 2 = ds := by
  rw [List.take_succ_cons, List.take_succ_cons, List.drop_succ_cons, List.drop_succ_cons, List.drop_zero, List.take_left']
  rfl
 unfold nextL
 rw [if_pos ⟨by simp, rfl⟩]
 unfold numericL
 rw [hx, hf, ha, hlen, htk, hgd, if_neg (by omega), if_neg (by simp), if_neg (by omega), if_pos ⟨by omega, rfl⟩]

/-! ### what is written for a rune says it -/
theorem hc_one (n : Nat) : (Hc_text [(n : Int)]).data.toList = Lib.encodeRune (n : Int) := by
 have h := runesBytes_list [(n : Int)]
 unfold Hc_text
 rw [h, text_cons, text_nil, List.append_nil]
def okX (x : Nat) : Prop := 1 ≤ x ∧ x ≤ 1114111 ∧ ¬ (55296 ≤ x ∧ x ≤ 57343) ∧ (128 ≤ x ∧ x ≤ 159 → winL.getD (x - 128) 0 = (x : Int))
theorem okX_says (x : Nat) (h : okX x) : (saysF (x : Int)).1 = x := by
 obtain ⟨h1, h2, h3, h4⟩ := h
 unfold saysF
 rw [if_neg (by omega)]
 by_cases c : 128 ≤ x ∧ x ≤ 159
 ·rw [if_pos (by omega)]
  show winL.getD ((x : Int) - 128).toNat 0 = (x : Int)
  rw [show ((x : Int) - 128).toNat = x - 128 by omega]
  exact h4 c
 ·rw [if_neg (by omega)]
theorem refA_says (x : Nat) (h : okX x) (t : List UInt8) (attr : Bool) : dgL id attr (38 :: (refA x ++ t)) = Lib.encodeRune (x : Int) ++ dgL id attr t := by
 unfold refA
 by_cases c : (nameP [(x : Int)]).toList.isEmpty = true
 ·rw [if_pos c]
  have e : ([35, 120] ++ hexS x ++ [59] ++ t : List UInt8) = 35 :: 120 :: (hexS x ++ 59 :: t) := by simp
  have hn : (numL true (hexS x)).1 = x := by
   unfold numL
   rw [if_pos (hexS_all x), if_neg (hexS_ne x)]
   show (saysF (((hexS x).foldl (numStep 16) 0 : Nat) : Int)).1 = x
   rw [hexS_fold x h.2.1, okX_says x h]
  rw [e, dgL_cons, if_pos rfl, nextL_hex _ t (hexS_all x) (hexS_ne x) attr]
  dsimp only
  rw [hn, if_neg (by omega), Int.toNat_natCast, id, encode_list]
  congr 2
  rw [show (35 :: 120 :: (hexS x ++ 59 :: t) : List UInt8) = (35 :: 120 :: (hexS x ++ [59])) ++ t by simp, List.drop_left' (by simp)]
 ·rw [if_neg c]
  obtain ⟨y, hy, h1, h2⟩ := nameP_of _ c
  have h1' : saysE y = [(x : Int)] := h1
  have e : ((nameP [(x : Int)]).data.toList ++ t : List UInt8) = nameL y ++ 59 :: t := by rw [h2, nameB_list]; simp
  rw [e, dgL_cons, if_pos rfl, named_says y hy t attr]
  dsimp only
  rw [h1', if_neg (by omega), Int.toNat_natCast, id, hc_one]
  congr 2
  rw [show nameL y ++ 59 :: t = (nameL y ++ [59]) ++ t by simp, List.drop_left' (by simp)]
theorem winN_ok (n : Nat) (h1 : 1 ≤ n) (h2 : n ≤ 1114111) (h3 : ¬ (55296 ≤ n ∧ n ≤ 57343)) : okX (winN n) := by
 unfold winN
 by_cases c : 128 ≤ n ∧ n ≤ 159
 ·rw [if_pos c]
  by_cases d : winL.getD (n - 128) 0 = (n : Int)
  ·rw [if_pos d]
   exact ⟨h1, h2, h3, fun _ => d⟩
  ·rw [if_neg d]
   exact ⟨by omega, by omega, by omega, fun e => by omega⟩
 ·rw [if_neg c]
  exact ⟨h1, h2, h3, fun e => absurd e c⟩
theorem ascN_says (n : Nat) (h2 : n ≤ 1114111) (h3 : ¬ (55296 ≤ n ∧ n ≤ 57343)) (a t : List UInt8) (attr attr' : Bool) : dgL id attr' (ascN attr n ++ t) = Lib.encodeRune (winN n : Nat) ++ dgL id attr' t := by
 unfold ascN
 by_cases c : plainA attr n = true
 ·rw [if_pos c]
  unfold plainA at c
  simp only [Bool.and_eq_true, decide_eq_true_eq] at c
  obtain ⟨⟨⟨⟨c1, c2⟩, _⟩, _⟩, _⟩ := c
  have hw : winN n = n := by unfold winN; rw [if_neg (by omega)]
  have e1 : n.toUInt8.toNat = n := by simp; omega
  have hne : n.toUInt8 ≠ 38 := fun e => by
   have := congrArg UInt8.toNat e
   rw [e1] at this
   exact c2 this
  have he := encode_ascii n.toUInt8 (by omega)
  rw [e1] at he
  rw [hw, he]
  show dgL id attr' (n.toUInt8 :: t) = n.toUInt8 :: dgL id attr' t
  rw [dgL_cons, if_neg hne]
 ·rw [if_neg c]
  have h1 : 1 ≤ n := by
   rcases Nat.eq_zero_or_pos n with rfl | h
   ·exact absurd (by cases attr <;> rfl) c
   ·exact h
  exact refA_says (winN n) (winN_ok n h1 h2 h3) t attr'
def backL (rs : List Int) : List UInt8 := rs.flatMap fun r => Lib.encodeRune ((winN r.toNat : Nat) : Int)
theorem ascL_says (attr attr' : Bool) : ∀ (rs : List Int), goodsR rs → dgL id attr' (ascL attr rs) = backL rs
 | [], _ => rfl
 | r :: rs, h => by
  have hr : goodR r := h r List.mem_cons_self
  unfold goodR at hr
  have e : ascL attr (r :: rs) = ascN attr r.toNat ++ ascL attr rs := rfl
  rw [e, ascN_says r.toNat (by omega) (by omega) [] _ attr attr', ascL_says attr attr' rs fun x hx => h x (List.mem_cons_of_mem _ hx)]
  rfl

/-! ### all of it is ASCII and safe -/
def safeB (attr : Bool) (b : UInt8) : Bool := decide (b.toNat < 128) && decide (b ≠ 60) && decide (b ≠ 62) && (decide (b ≠ 34) || !attr)
theorem hexUp_safe : ∀ d, d < 16 → safeB true (Lib.upperB (hexD d)) = true := by decide +kernel
theorem safe_weak (attr : Bool) (b : UInt8) (h : safeB true b = true) : safeB attr b = true := by
 cases attr
 ·unfold safeB at *
  simp only [Bool.not_true, Bool.or_false, Bool.and_eq_true, Bool.not_false, Bool.or_true, and_true] at *
  exact h.1
 ·exact h
theorem refA_safe (x : Nat) : ∀ b ∈ refA x, safeB true b = true := by
 intro b hb
 unfold refA at hb
 by_cases c : (nameP [(x : Int)]).toList.isEmpty = true
 ·rw [if_pos c] at hb
  rcases List.mem_append.1 hb with hb | hb
  ·rcases List.mem_append.1 hb with hb | hb
   ·simp only [List.mem_cons, List.mem_nil_iff, or_false] at hb
    rcases hb with rfl | rfl <;> decide
   ·obtain ⟨d, hd, rfl⟩ := hexS_mem x b hb
    exact hexUp_safe d hd
  ·rw [List.mem_singleton.1 hb]
   decide
 ·rw [if_neg c] at hb
  obtain ⟨y, hy, h1, h2⟩ := nameP_of _ c
  rw [h2, nameB_list] at hb
  rcases List.mem_append.1 hb with hb | hb
  ·have h3 := (ent_facts y hy).2.2
   rw [List.all_eq_true] at h3
   have h4 := h3 b hb
   unfold safeB
   simp only [Bool.and_eq_true] at h4 ⊢
   obtain ⟨⟨⟨⟨a1, _⟩, a2⟩, a3⟩, a4⟩ := h4
   exact ⟨⟨⟨a1, a2⟩, a3⟩, by rw [a4]; rfl⟩
  ·rw [List.mem_singleton.1 hb]
   decide
theorem ascL_safe (attr : Bool) : ∀ (rs : List Int), ∀ b ∈ ascL attr rs, safeB attr b = true := by
 intro rs b hb
 obtain ⟨r, _, hb⟩ := List.mem_flatMap.1 hb
 unfold ascR ascN at hb
 by_cases c : plainA attr r.toNat = true
 ·rw [if_pos c] at hb
  rw [List.mem_singleton.1 hb]
  unfold plainA at c
  simp only [Bool.and_eq_true, Bool.or_eq_true, decide_eq_true_eq] at c
  obtain ⟨⟨⟨⟨c1, c2⟩, c3⟩, c4⟩, c5⟩ := c
  generalize r.toNat = n at *
  have e1 : n.toUInt8.toNat = n := by simp; omega
  have hn : ∀ k : Nat, k < 128 → n ≠ k → n.toUInt8 ≠ UInt8.ofNat k := fun k hk h e => by
   have := congrArg UInt8.toNat e
   rw [e1] at this
   simp at this
   omega
  unfold safeB
  rw [e1, decide_eq_true c1, decide_eq_true (show n.toUInt8 ≠ 60 from hn 60 (by omega) c3), decide_eq_true (show n.toUInt8 ≠ 62 from hn 62 (by omega) c4)]
  rcases c5 with c5 | c5
  ·rw [decide_eq_true (show n.toUInt8 ≠ 34 from hn 34 (by omega) c5)]
   rfl
  ·rw [c5]
   simp
 ·rw [if_neg c] at hb
  rcases List.mem_cons.1 hb with rfl | hb
  ·cases attr <;> decide
  ·exact safe_weak attr b (refA_safe _ b hb)
theorem ascL_ascii (attr : Bool) (rs : List Int) : asciiL (ascL attr rs) := fun b hb => by
 have := ascL_safe attr rs b hb
 unfold safeB at this
 simp only [Bool.and_eq_true, decide_eq_true_eq] at this
 exact this.1.1.1

end Go.Proofs.YthmbbkbmlnaghaaDoor.P
end
section
namespace Go.Proofs.YthmbbkbmlnaghaaDoor.P
open Go.RowKit Go.Proofs.YthmbbkbmlnaghaaDoorW.PrintWords Go.Proofs.YthmbbkbmlnaghaaDoorW.PrintLast Go.Proofs.YthmbbkbmlnaghaaDoorW.PrintMore
attribute [local go_sem] max2_int min2_int max_two min_two max_three min_three max_four min_four   -- for this text's walks alone
set_option linter.unusedVariables false
set_option linter.unusedSimpArgs false

/-! ### sievelaw06_awake: function 11 -/
def sievelaw06_awake.f (k : Nat)  : Option (Bool) := (charref_Decode.f k (⟨#[97, 38, 99, 111, 112, 121, 61, 49, 38, 35, 120, 52, 49, 59]⟩ : ByteArray) true).bind fun t288 => (if t288.toList = ([97, 38, 99, 111, 112, 121, 61, 49, 65] : List UInt8) then ((charref_Decode.f k (⟨#[38, 97, 109, 112, 59, 38, 108, 116, 59]⟩ : ByteArray) false).bind fun t289 => (some (t289.toList == ([38, 60] : List UInt8)))) else (some false))
set_option maxHeartbeats 8000000 in
set_option maxRecDepth 100000 in
theorem sievelaw06_awake.calls (k : Nat)  (r : Bool) (w : World) (h : sievelaw06_awake.f k  = some r) :
  Calls Tryd.prog 11 #[] w fun e w' => e = .returned (.bool r) ∧ Below w.heap.size w w' := by
 have HB := Aside0.mk (Below.refl w.heap.size w)
 have H : ((charref_Decode.f k (⟨#[97, 38, 99, 111, 112, 121, 61, 49, 38, 35, 120, 52, 49, 59]⟩ : ByteArray) true).bind fun t288 => (if t288.toList = ([97, 38, 99, 111, 112, 121, 61, 49, 65] : List UInt8) then ((charref_Decode.f k (⟨#[38, 97, 109, 112, 59, 38, 108, 116, 59]⟩ : ByteArray) false).bind fun t289 => (some (t289.toList == ([38, 60] : List UInt8)))) else (some false))) = some r := h
 clear h
 replace H := Option.bind_eq_some_iff.mp H
 obtain ⟨t288, A10, H⟩ := H
 replace H : (if t288.toList = ([97, 38, 99, 111, 112, 121, 61, 49, 65] : List UInt8) then ((charref_Decode.f k (⟨#[38, 97, 109, 112, 59, 38, 108, 116, 59]⟩ : ByteArray) false).bind fun t289 => (some (t289.toList == ([38, 60] : List UInt8)))) else (some false)) = some r := H
 have A1 := Aside0.mk A10
 clear A10
 by_cases c2 : t288.toList = ([97, 38, 99, 111, 112, 121, 61, 49, 65] : List UInt8)
 ·rw [if_pos c2] at H
  have c2b0 : (t288.toList == ([97, 38, 99, 111, 112, 121, 61, 49, 65] : List UInt8)) = true := beq_iff_eq.mpr c2
  have c2b1 : (t288.toList != ([97, 38, 99, 111, 112, 121, 61, 49, 65] : List UInt8)) = false := bne_eq_false_iff_eq.mpr c2
  clear c2
  replace H := Option.bind_eq_some_iff.mp H
  obtain ⟨t289, A30, H⟩ := H
  replace H : (some (t289.toList == ([38, 60] : List UInt8))) = some r := H
  have A3 := Aside0.mk A30
  clear A30
  obtain rfl := Option.some.inj H
  go_enter Tryd.func11, Tryd.ntmps11
  go_wp2_with (first | ((with_reducible refine gate_callee (f := 13) rfl ?_); refine goesL_ (some 1) rfl rfl Tryd.func13 (by kernel_rfl) rfl #[.string (⟨#[97, 38, 99, 111, 112, 121, 61, 49, 38, 35, 120, 52, 49, 59]⟩ : ByteArray), .bool true] rfl (by (try simp only [List.map_toArray, List.map_cons, List.map_nil]); first | done | rfl | (simp only [List.length_drop, List.length_take]; rfl) | (simp [*] <;> rfl)) ?_; (with_reducible refine (charref_Decode.calls k (⟨#[97, 38, 99, 111, 112, 121, 61, 49, 38, 35, 120, 52, 49, 59]⟩ : ByteArray) true t288 _ A1.out).mono ?_); rintro e w4 ⟨rfl, hb⟩; refine ⟨_, rfl, ?_⟩; have n0_ := Aside0.mk (below_step (by repeat (first | (with_reducible first | exact HB.out | apply below_alloc | apply pw_below_drewN | apply below_drew1) | exact HB.out)) hb); clear HB; have HB := n0_; clear n0_; (try clear hb); (try clear hb2); (try clear hk); (try clear hi)) | (go_at_call 13; (with_reducible refine (charref_Decode.calls k (⟨#[38, 97, 109, 112, 59, 38, 108, 116, 59]⟩ : ByteArray) false t289 _ A3.out).mono ?_); rintro e w5 ⟨rfl, hb⟩; have n0_ := Aside0.mk (below_step (by repeat (first | (with_reducible first | exact HB.out | apply below_alloc | apply pw_below_drewN | apply below_drew1) | exact HB.out)) hb); clear HB; have HB := n0_; clear n0_; (try clear hb); (try clear hb2); (try clear hk); (try clear hi)))
  go_ret
  exact ⟨by first | rfl | (simp [errW_none, errW_some] <;> rfl) | (simp [*, errW_none, errW_some] <;> rfl), by repeat (first | (with_reducible first | exact HB.out | apply below_alloc | apply pw_below_drewN | apply below_drew1) | exact HB.out)⟩
 ·rw [if_neg c2] at H
  have c2b0 : (t288.toList == ([97, 38, 99, 111, 112, 121, 61, 49, 65] : List UInt8)) = false := beq_eq_false_iff_ne.mpr c2
  have c2b1 : (t288.toList != ([97, 38, 99, 111, 112, 121, 61, 49, 65] : List UInt8)) = true := bne_iff_ne.mpr c2
  obtain rfl := Option.some.inj H
  go_enter Tryd.func11, Tryd.ntmps11
  go_wp2_with (first | ((with_reducible refine gate_callee (f := 13) rfl ?_); refine goesL_ (some 1) rfl rfl Tryd.func13 (by kernel_rfl) rfl #[.string (⟨#[97, 38, 99, 111, 112, 121, 61, 49, 38, 35, 120, 52, 49, 59]⟩ : ByteArray), .bool true] rfl (by (try simp only [List.map_toArray, List.map_cons, List.map_nil]); first | done | rfl | (simp only [List.length_drop, List.length_take]; rfl) | (simp [*] <;> rfl)) ?_; (with_reducible refine (charref_Decode.calls k (⟨#[97, 38, 99, 111, 112, 121, 61, 49, 38, 35, 120, 52, 49, 59]⟩ : ByteArray) true t288 _ A1.out).mono ?_); rintro e w6 ⟨rfl, hb⟩; refine ⟨_, rfl, ?_⟩; have n0_ := Aside0.mk (below_step (by repeat (first | (with_reducible first | exact HB.out | apply below_alloc | apply pw_below_drewN | apply below_drew1) | exact HB.out)) hb); clear HB; have HB := n0_; clear n0_; (try clear hb); (try clear hb2); (try clear hk); (try clear hi)))
  go_ret
  exact ⟨by first | rfl | (simp [errW_none, errW_some] <;> rfl) | (simp [*, errW_none, errW_some] <;> rfl), by repeat (first | (with_reducible first | exact HB.out | apply below_alloc | apply pw_below_drewN | apply below_drew1) | exact HB.out)⟩

end Go.Proofs.YthmbbkbmlnaghaaDoor.P
end
section
/-
 The example that every law asks first.
-/
namespace Go.Proofs.YthmbbkbmlnaghaaDoor.P
open Go.RowKit Go.Shelf Go.Proofs.YthmbbkbmlnaghaaDoorW.PrintWords Go.Proofs.YthmbbkbmlnaghaaDoorW.PrintLast Go.Proofs.YthmbbkbmlnaghaaDoorW.PrintMore
set_option linter.unusedVariables false
set_option linter.unusedSimpArgs false

theorem cuts_awake : sievelaw06_awake.f 400 = some true := by decide +kernel
end Go.Proofs.YthmbbkbmlnaghaaDoor.P
end
section
/-
 Small words..
-/
namespace Go.Proofs.YthmbbkbmlnaghaaDoor.P
open Go.RowKit Go.Proofs.YthmbbkbmlnaghaaDoorW.PrintWords Go.Proofs.YthmbbkbmlnaghaaDoorW.PrintLast Go.Proofs.YthmbbkbmlnaghaaDoorW.PrintMore
set_option linter.unusedVariables false
set_option linter.unusedSimpArgs false

theorem wrap32_nat (a : Nat) (h : a < 2147483648) : wrap32 (a : Int) = (a : Int) := by unfold wrap32; omega
end Go.Proofs.YthmbbkbmlnaghaaDoor.P
end
section
namespace Go.Proofs.YthmbbkbmlnaghaaDoor.P
open Go.RowKit Go.Proofs.YthmbbkbmlnaghaaDoorW.PrintWords Go.Proofs.YthmbbkbmlnaghaaDoorW.PrintLast Go.Proofs.YthmbbkbmlnaghaaDoorW.PrintMore
attribute [local go_sem] max2_int min2_int max_two min_two max_three min_three max_four min_four   -- for this text's walks alone
set_option linter.unusedVariables false
set_option linter.unusedSimpArgs false

/-! ### sieveref01_Char: function 79 -/
def sieveref01_Char.f (a0 : Int) : Option (Bool) := if a0 ≥ 0 then (if a0 ≤ 1114111 then (if a0 < 55296 then (some true) else (some (decide (a0 > 57343)))) else (some false)) else (some false)
set_option maxHeartbeats 8000000 in
set_option maxRecDepth 100000 in
theorem sieveref01_Char.calls (a0 : Int) (r : Bool) (w : World) (h : sieveref01_Char.f a0 = some r) :
  Calls Tryd.prog 79 #[.int .i32 a0] w fun e w' => e = .returned (.bool r) ∧ Drawn0 w w' := by
 have H : (if a0 ≥ 0 then (if a0 ≤ 1114111 then (if a0 < 55296 then (some true) else (some (decide (a0 > 57343)))) else (some false)) else (some false)) = some r := h
 clear h
 by_cases c2 : a0 ≥ 0
 ·rw [if_pos c2] at H
  have c2b0 : decide (0 ≤ a0) = true := decide_eq_true c2
  clear c2
  by_cases c3 : a0 ≤ 1114111
  ·rw [if_pos c3] at H
   have c3b0 : decide (a0 ≤ 1114111) = true := decide_eq_true c3
   clear c3
   by_cases c4 : a0 < 55296
   ·rw [if_pos c4] at H
    have c4b0 : decide (a0 < 55296) = true := decide_eq_true c4
    clear c4
    obtain rfl := Option.some.inj H
    go_enter Tryd.func79, Tryd.ntmps79
    go_wp2
    go_ret
    exact ⟨by first | rfl | (simp; done) | (simp [*]; done), by repeat (first | exact Drawn0.refl _ | apply Drawn0.step)⟩
   ·rw [if_neg c4] at H
    have c4b0 : decide (a0 < 55296) = false := decide_eq_false c4
    clear c4
    obtain rfl := Option.some.inj H
    go_enter Tryd.func79, Tryd.ntmps79
    go_wp2
    go_ret
    exact ⟨by first | rfl | (simp; done) | (simp [*]; done), by repeat (first | exact Drawn0.refl _ | apply Drawn0.step)⟩
  ·rw [if_neg c3] at H
   have c3b0 : decide (a0 ≤ 1114111) = false := decide_eq_false c3
   clear c3
   obtain rfl := Option.some.inj H
   go_enter Tryd.func79, Tryd.ntmps79
   go_wp2
   go_ret
   exact ⟨by first | rfl | (simp; done) | (simp [*]; done), by repeat (first | exact Drawn0.refl _ | apply Drawn0.step)⟩
 ·rw [if_neg c2] at H
  have c2b0 : decide (0 ≤ a0) = false := decide_eq_false c2
  clear c2
  obtain rfl := Option.some.inj H
  go_enter Tryd.func79, Tryd.ntmps79
  go_wp2
  go_ret
  exact ⟨by first | rfl | (simp; done) | (simp [*]; done), by repeat (first | exact Drawn0.refl _ | apply Drawn0.step)⟩

/-! ### sieveref01_Width: function 80 -/
def sieveref01_Width.f (a0 : Int) : Option (Int) := (sieveref01_Char.f a0).bind fun t148 => (if t148 = true then (if a0 < 128 then (some 1) else (if a0 < 2048 then (some 2) else (if a0 < 65536 then (some 3) else (some 4)))) else (some 3))
set_option maxHeartbeats 8000000 in
set_option maxRecDepth 100000 in
theorem sieveref01_Width.calls (a0 : Int) (r : Int) (w : World) (h : sieveref01_Width.f a0 = some r) :
  Calls Tryd.prog 80 #[.int .i32 a0] w fun e w' => e = .returned (.int .i64 r) ∧ Drawn0 w w' := by
 have H : ((sieveref01_Char.f a0).bind fun t148 => (if t148 = true then (if a0 < 128 then (some 1) else (if a0 < 2048 then (some 2) else (if a0 < 65536 then (some 3) else (some 4)))) else (some 3))) = some r := h
 clear h
 replace H := Option.bind_eq_some_iff.mp H
 obtain ⟨t148, A20, H⟩ := H
 replace H : (if t148 = true then (if a0 < 128 then (some 1) else (if a0 < 2048 then (some 2) else (if a0 < 65536 then (some 3) else (some 4)))) else (some 3)) = some r := H
 have A2 := Aside0.mk A20
 clear A20
 by_cases c3 : t148 = true
 ·subst c3
  have H1 : (if a0 < 128 then (some 1) else (if a0 < 2048 then (some 2) else (if a0 < 65536 then (some 3) else (some 4)))) = some r := by rw [if_pos rfl] at H; exact H
  clear H
  have H := H1
  clear H1
  by_cases c4 : a0 < 128
  ·rw [if_pos c4] at H
   have c4b0 : decide (a0 < 128) = true := decide_eq_true c4
   clear c4
   obtain rfl := Option.some.inj H
   go_enter Tryd.func80, Tryd.ntmps80
   go_wp2_with (first | ((with_reducible refine gate_callee (f := 79) rfl ?_); refine goesL_ (some 5) rfl rfl Tryd.func79 (by kernel_rfl) rfl #[.int .i32 a0] rfl (by (try simp only [List.map_toArray, List.map_cons, List.map_nil]); first | done | rfl | (simp only [List.length_drop, List.length_take]; rfl) | (simp [*] <;> rfl)) ?_; (with_reducible refine (sieveref01_Char.calls a0 true _ A2.out).mono ?_); rintro e w' ⟨rfl, ⟨nd, rfl⟩⟩; refine ⟨_, rfl, ?_⟩))
   go_ret
   exact ⟨by first | rfl | (simp; done) | (simp [*]; done), by repeat (first | exact Drawn0.refl _ | apply Drawn0.step)⟩
  ·rw [if_neg c4] at H
   have c4b0 : decide (a0 < 128) = false := decide_eq_false c4
   clear c4
   by_cases c5 : a0 < 2048
   ·rw [if_pos c5] at H
    have c5b0 : decide (a0 < 2048) = true := decide_eq_true c5
    clear c5
    obtain rfl := Option.some.inj H
    go_enter Tryd.func80, Tryd.ntmps80
    go_wp2_with (first | ((with_reducible refine gate_callee (f := 79) rfl ?_); refine goesL_ (some 5) rfl rfl Tryd.func79 (by kernel_rfl) rfl #[.int .i32 a0] rfl (by (try simp only [List.map_toArray, List.map_cons, List.map_nil]); first | done | rfl | (simp only [List.length_drop, List.length_take]; rfl) | (simp [*] <;> rfl)) ?_; (with_reducible refine (sieveref01_Char.calls a0 true _ A2.out).mono ?_); rintro e w' ⟨rfl, ⟨nd, rfl⟩⟩; refine ⟨_, rfl, ?_⟩))
    go_ret
    exact ⟨by first | rfl | (simp; done) | (simp [*]; done), by repeat (first | exact Drawn0.refl _ | apply Drawn0.step)⟩
   ·rw [if_neg c5] at H
    have c5b0 : decide (a0 < 2048) = false := decide_eq_false c5
    clear c5
    by_cases c6 : a0 < 65536
    ·rw [if_pos c6] at H
     have c6b0 : decide (a0 < 65536) = true := decide_eq_true c6
     clear c6
     obtain rfl := Option.some.inj H
     go_enter Tryd.func80, Tryd.ntmps80
     go_wp2_with (first | ((with_reducible refine gate_callee (f := 79) rfl ?_); refine goesL_ (some 5) rfl rfl Tryd.func79 (by kernel_rfl) rfl #[.int .i32 a0] rfl (by (try simp only [List.map_toArray, List.map_cons, List.map_nil]); first | done | rfl | (simp only [List.length_drop, List.length_take]; rfl) | (simp [*] <;> rfl)) ?_; (with_reducible refine (sieveref01_Char.calls a0 true _ A2.out).mono ?_); rintro e w' ⟨rfl, ⟨nd, rfl⟩⟩; refine ⟨_, rfl, ?_⟩))
     go_ret
     exact ⟨by first | rfl | (simp; done) | (simp [*]; done), by repeat (first | exact Drawn0.refl _ | apply Drawn0.step)⟩
    ·rw [if_neg c6] at H
     have c6b0 : decide (a0 < 65536) = false := decide_eq_false c6
     clear c6
     obtain rfl := Option.some.inj H
     go_enter Tryd.func80, Tryd.ntmps80
     go_wp2_with (first | ((with_reducible refine gate_callee (f := 79) rfl ?_); refine goesL_ (some 5) rfl rfl Tryd.func79 (by kernel_rfl) rfl #[.int .i32 a0] rfl (by (try simp only [List.map_toArray, List.map_cons, List.map_nil]); first | done | rfl | (simp only [List.length_drop, List.length_take]; rfl) | (simp [*] <;> rfl)) ?_; (with_reducible refine (sieveref01_Char.calls a0 true _ A2.out).mono ?_); rintro e w' ⟨rfl, ⟨nd, rfl⟩⟩; refine ⟨_, rfl, ?_⟩))
     go_ret
     exact ⟨by first | rfl | (simp; done) | (simp [*]; done), by repeat (first | exact Drawn0.refl _ | apply Drawn0.step)⟩
 ·replace c3 := Bool.eq_false_iff.mpr c3
  subst c3
  have H1 : (some 3) = some r := by rw [if_neg (show ¬ (false = true) by decide)] at H; exact H
  clear H
  have H := H1
  clear H1
  obtain rfl := Option.some.inj H
  go_enter Tryd.func80, Tryd.ntmps80
  go_wp2_with (first | ((with_reducible refine gate_callee (f := 79) rfl ?_); refine goesL_ (some 5) rfl rfl Tryd.func79 (by kernel_rfl) rfl #[.int .i32 a0] rfl (by (try simp only [List.map_toArray, List.map_cons, List.map_nil]); first | done | rfl | (simp only [List.length_drop, List.length_take]; rfl) | (simp [*] <;> rfl)) ?_; (with_reducible refine (sieveref01_Char.calls a0 false _ A2.out).mono ?_); rintro e w' ⟨rfl, ⟨nd, rfl⟩⟩; refine ⟨_, rfl, ?_⟩))
  go_ret
  exact ⟨by first | rfl | (simp; done) | (simp [*]; done), by repeat (first | exact Drawn0.refl _ | apply Drawn0.step)⟩

/-! ### sieveref01_bytesOf: function 61 -/
def sieveref01_bytesOf.j0 : Nat → Int → Option (List Int)
 | 0, _ => none
 | k + 1, x0 => (sieveref01_Width.f x0).bind fun t150 => (if t150 = 1 then (some (([(x0) % 256] : List Int))) else (if t150 = 2 then (some (([(wrap32 (192 + (wrap32 (Int.tdiv x0 64)))) % 256, (wrap32 (128 + (Int.tmod x0 64))) % 256] : List Int))) else (if t150 = 3 then (some (([(wrap32 (224 + (wrap32 (Int.tdiv x0 4096)))) % 256, (wrap32 (128 + (Int.tmod (wrap32 (Int.tdiv x0 64)) 64))) % 256, (wrap32 (128 + (Int.tmod x0 64))) % 256] : List Int))) else (some (([(wrap32 (240 + (wrap32 (Int.tdiv x0 262144)))) % 256, (wrap32 (128 + (Int.tmod (wrap32 (Int.tdiv x0 4096)) 64))) % 256, (wrap32 (128 + (Int.tmod (wrap32 (Int.tdiv x0 64)) 64))) % 256, (wrap32 (128 + (Int.tmod x0 64))) % 256] : List Int))))))
def sieveref01_bytesOf.f (k : Nat) (a0 : Int) : Option (List Int) := (sieveref01_Char.f a0).bind fun t149 => (if t149 = true then (sieveref01_bytesOf.j0 k a0) else (sieveref01_bytesOf.j0 k 65533))
set_option maxHeartbeats 8000000 in
set_option maxRecDepth 100000 in
theorem sieveref01_bytesOf.calls (k : Nat) (a0 : Int) (r : List Int) (w : World) (h : sieveref01_bytesOf.f k a0 = some r) :
  Calls Tryd.prog 61 #[.int .i32 a0] w fun e w' => ∃ v0_ : Value, e = .returned (v0_) ∧ Kd.R (Kd.int .u8) 5 w' w.heap.size (fun _ => True) v0_ r ∧ Below w.heap.size w w' := by
 have HB := Aside0.mk (Below.refl w.heap.size w)
 have H : ((sieveref01_Char.f a0).bind fun t149 => (if t149 = true then (sieveref01_bytesOf.j0 k a0) else (sieveref01_bytesOf.j0 k 65533))) = some r := h
 clear h
 replace H := Option.bind_eq_some_iff.mp H
 obtain ⟨t149, A20, H⟩ := H
 replace H : (if t149 = true then (sieveref01_bytesOf.j0 k a0) else (sieveref01_bytesOf.j0 k 65533)) = some r := H
 have A2 := Aside0.mk A20
 clear A20
 have HC3 := Aside0.mk H
 clear H
 go_enter Tryd.func61, Tryd.ntmps61
 go_upto_if 5 with (first | ((with_reducible refine gate_callee (f := 79) rfl ?_); refine goesL_ (some 4) rfl rfl Tryd.func79 (by kernel_rfl) rfl #[.int .i32 a0] rfl (by (try simp only [List.map_toArray, List.map_cons, List.map_nil]); first | done | rfl | (simp only [List.length_drop, List.length_take]; rfl) | (simp [*] <;> rfl)) ?_; (with_reducible refine (sieveref01_Char.calls a0 t149 _ A2.out).mono ?_); rintro e w' ⟨rfl, ⟨nd, rfl⟩⟩; refine ⟨_, rfl, ?_⟩))
 (try simp only [Act.put, List.setIfInBounds_toArray, List.set_cons_zero, List.set_cons_succ])
 go_cut [0] (fun v0 wc => ∃ (kq : Nat) (x0_2 : Int), v0 = .int .i32 x0_2 ∧ Aside0 (sieveref01_bytesOf.j0 kq x0_2 = some r) ∧ Aside0 (kq ≤ k) ∧ Aside0 (Below w.heap.size w wc))
 case first =>
  have H := HC3.out
  clear HC3
  by_cases c4 : t149 = true
  ·subst c4
   have H1 : (sieveref01_bytesOf.j0 k a0) = some r := by rw [if_pos rfl] at H; exact H
   clear H
   have H := H1
   clear H1
   have H' := Aside0.mk H
   clear H
   go_wp2
   go_meet
   case rel => exact ⟨_, (a0), (by first | rfl | (simp; done) | (simp [*]; done) | (unfold bt; split <;> first | rfl | (exfalso; simp_all; done) | (exfalso; simp_all; omega))), H', ⟨by first | omega | exact Nat.le_refl _⟩, ⟨by repeat (first | (with_reducible first | exact HB.out | apply below_alloc | apply pw_below_drewN | apply below_drew1) | exact HB.out)⟩⟩
  ·replace c4 := Bool.eq_false_iff.mpr c4
   subst c4
   have H1 : (sieveref01_bytesOf.j0 k 65533) = some r := by rw [if_neg (show ¬ (false = true) by decide)] at H; exact H
   clear H
   have H := H1
   clear H1
   have H' := Aside0.mk H
   clear H
   go_wp2
   go_meet
   case rel => exact ⟨_, (65533), (by first | rfl | (simp; done) | (simp [*]; done) | (unfold bt; split <;> first | rfl | (exfalso; simp_all; done) | (exfalso; simp_all; omega))), H', ⟨by first | omega | exact Nat.le_refl _⟩, ⟨by repeat (first | (with_reducible first | exact HB.out | apply below_alloc | apply pw_below_drewN | apply below_drew1) | exact HB.out)⟩⟩
 case rest =>
  clear HC3
  try clear p2
  try clear c4
  obtain ⟨kq, x0_2, rfl, HA, HJ2, HB⟩ := hcut
  cases kq with
  | zero => exact absurd HA.out (by simp [sieveref01_bytesOf.j0])
  | succ kj2 =>
   have H := HA.out
   clear HA
   simp only [sieveref01_bytesOf.j0] at H
   replace H := Option.bind_eq_some_iff.mp H
   obtain ⟨t150, A50, H⟩ := H
   replace H : (if t150 = 1 then (some (([(x0_2) % 256] : List Int))) else (if t150 = 2 then (some (([(wrap32 (192 + (wrap32 (Int.tdiv x0_2 64)))) % 256, (wrap32 (128 + (Int.tmod x0_2 64))) % 256] : List Int))) else (if t150 = 3 then (some (([(wrap32 (224 + (wrap32 (Int.tdiv x0_2 4096)))) % 256, (wrap32 (128 + (Int.tmod (wrap32 (Int.tdiv x0_2 64)) 64))) % 256, (wrap32 (128 + (Int.tmod x0_2 64))) % 256] : List Int))) else (some (([(wrap32 (240 + (wrap32 (Int.tdiv x0_2 262144)))) % 256, (wrap32 (128 + (Int.tmod (wrap32 (Int.tdiv x0_2 4096)) 64))) % 256, (wrap32 (128 + (Int.tmod (wrap32 (Int.tdiv x0_2 64)) 64))) % 256, (wrap32 (128 + (Int.tmod x0_2 64))) % 256] : List Int)))))) = some r := H
   have A5 := Aside0.mk A50
   clear A50
   by_cases c6 : t150 = 1
   ·rw [if_pos c6] at H
    have c6b0 : (t150 == 1) = true := beq_iff_eq.mpr c6
    have c6b1 : (t150 != 1) = false := bne_eq_false_iff_eq.mpr c6
    clear c6
    obtain ⟨y151, hy151⟩ : ∃ y_ : List Int, y_ = (([(x0_2) % 256] : List Int)) := ⟨_, rfl⟩
    replace H : (some y151) = some r := by first | (rw [hy151]; with_reducible exact H) | (have H2_ := (Option.bind_some _ _).symm.trans H; rw [hy151]; with_reducible exact H2_) | (have H2_ := (Option.bind_some _ _).symm.trans H; with_reducible exact H2_) | with_reducible exact H | (rw [hy151]; exact H) | exact H
    have Ny151 := Aside0.mk hy151
    clear hy151
    obtain rfl := Option.some.inj H
    go_wp2_with (first | ((with_reducible refine gate_callee (f := 80) rfl ?_); refine goesL_ (some 7) rfl rfl Tryd.func80 (by kernel_rfl) rfl #[.int .i32 x0_2] rfl (by (try simp only [List.map_toArray, List.map_cons, List.map_nil]); first | done | rfl | (simp only [List.length_drop, List.length_take]; rfl) | (simp [*] <;> rfl)) ?_; (with_reducible refine (sieveref01_Width.calls x0_2 t150 _ A5.out).mono ?_); rintro e w' ⟨rfl, ⟨nd, rfl⟩⟩; refine ⟨_, rfl, ?_⟩) | ((with_reducible refine gate_dst (N := 12) rfl ?_); refine Kd.R_lit (Kd.int .u8) _ 5 ?hg (N := 12) ?hd (xs := ([(x0_2) % 256] : List Int)) (inner := [.int .u8 ((x0_2) % 256)]) (ok := fun _ => True) (okp := fun _ => True) ?hr ?hp (fun _ hk => hk) trivial (Below.refl _ _) (Nat.le_refl _) (by simp) ?_; (case hd => rfl); (case hg => rfl); (case hr => first | (go_simp; done) | (go_simp; rfl)); (case hp => exact (Reps.one (show Kd.M (Kd.int .u8) _ _ _ ((x0_2) % 256) [.int .u8 ((x0_2) % 256)] from rfl) (Reps.none _ _))); intro v152 w7 ho8 hb hg_ hnew_; clear hg_ hnew_; (first | rw [← Ny151.out] at ho8 | (simp only [Int.reduceToNat] at ho8; rw [← Ny151.out] at ho8)); have n0_ := Aside0.mk (Kd.R_lower ho8 (below_size (by repeat (first | (with_reducible first | exact HB.out | apply below_alloc | apply pw_below_drewN | apply below_drew1) | exact HB.out)))); have n1_ := Aside0.mk (below_step (by repeat (first | (with_reducible first | exact HB.out | apply below_alloc | apply pw_below_drewN | apply below_drew1) | exact HB.out)) hb); clear HB; have HO153 := n0_; have HB := n1_; clear n0_ n1_; clear hb ho8))
    go_ret
    exact ⟨_, by first | rfl | (simp [errW_none, errW_some] <;> rfl) | (simp [*, errW_none, errW_some] <;> rfl), by (with_reducible repeat (first | apply Kd.R_alloc | apply Kd.R_drewN | apply Kd.R_drew)); exact HO153.out, by repeat (first | (with_reducible first | exact HB.out | apply below_alloc | apply pw_below_drewN | apply below_drew1) | exact HB.out)⟩
   ·rw [if_neg c6] at H
    have c6b0 : (t150 == 1) = false := beq_eq_false_iff_ne.mpr c6
    have c6b1 : (t150 != 1) = true := bne_iff_ne.mpr c6
    by_cases c9 : t150 = 2
    ·rw [if_pos c9] at H
     have c9b0 : (t150 == 2) = true := beq_iff_eq.mpr c9
     have c9b1 : (t150 != 2) = false := bne_eq_false_iff_eq.mpr c9
     clear c9
     obtain ⟨y154, hy154⟩ : ∃ y_ : List Int, y_ = (([(wrap32 (192 + (wrap32 (Int.tdiv x0_2 64)))) % 256, (wrap32 (128 + (Int.tmod x0_2 64))) % 256] : List Int)) := ⟨_, rfl⟩
     replace H : (some y154) = some r := by first | (rw [hy154]; with_reducible exact H) | (have H2_ := (Option.bind_some _ _).symm.trans H; rw [hy154]; with_reducible exact H2_) | (have H2_ := (Option.bind_some _ _).symm.trans H; with_reducible exact H2_) | with_reducible exact H | (rw [hy154]; exact H) | exact H
     have Ny154 := Aside0.mk hy154
     clear hy154
     obtain rfl := Option.some.inj H
     go_wp2_with (first | ((with_reducible refine gate_callee (f := 80) rfl ?_); refine goesL_ (some 7) rfl rfl Tryd.func80 (by kernel_rfl) rfl #[.int .i32 x0_2] rfl (by (try simp only [List.map_toArray, List.map_cons, List.map_nil]); first | done | rfl | (simp only [List.length_drop, List.length_take]; rfl) | (simp [*] <;> rfl)) ?_; (with_reducible refine (sieveref01_Width.calls x0_2 t150 _ A5.out).mono ?_); rintro e w' ⟨rfl, ⟨nd, rfl⟩⟩; refine ⟨_, rfl, ?_⟩) | ((with_reducible refine gate_dst (N := 23) rfl ?_); refine Kd.R_lit (Kd.int .u8) _ 5 ?hg (N := 23) ?hd (xs := ([(wrap32 (192 + (wrap32 (Int.tdiv x0_2 64)))) % 256, (wrap32 (128 + (Int.tmod x0_2 64))) % 256] : List Int)) (inner := [.int .u8 ((wrap32 (192 + (wrap32 (Int.tdiv x0_2 64)))) % 256), .int .u8 ((wrap32 (128 + (Int.tmod x0_2 64))) % 256)]) (ok := fun _ => True) (okp := fun _ => True) ?hr ?hp (fun _ hk => hk) trivial (Below.refl _ _) (Nat.le_refl _) (by simp) ?_; (case hd => rfl); (case hg => rfl); (case hr => first | (go_simp; done) | (go_simp; rfl)); (case hp => exact (Reps.one (show Kd.M (Kd.int .u8) _ _ _ ((wrap32 (192 + (wrap32 (Int.tdiv x0_2 64)))) % 256) [.int .u8 ((wrap32 (192 + (wrap32 (Int.tdiv x0_2 64)))) % 256)] from rfl) (Reps.one (show Kd.M (Kd.int .u8) _ _ _ ((wrap32 (128 + (Int.tmod x0_2 64))) % 256) [.int .u8 ((wrap32 (128 + (Int.tmod x0_2 64))) % 256)] from rfl) (Reps.none _ _)))); intro v155 w10 ho11 hb hg_ hnew_; clear hg_ hnew_; (first | rw [← Ny154.out] at ho11 | (simp only [Int.reduceToNat] at ho11; rw [← Ny154.out] at ho11)); have n0_ := Aside0.mk (Kd.R_lower ho11 (below_size (by repeat (first | (with_reducible first | exact HB.out | apply below_alloc | apply pw_below_drewN | apply below_drew1) | exact HB.out)))); have n1_ := Aside0.mk (below_step (by repeat (first | (with_reducible first | exact HB.out | apply below_alloc | apply pw_below_drewN | apply below_drew1) | exact HB.out)) hb); clear HB; have HO156 := n0_; have HB := n1_; clear n0_ n1_; clear hb ho11))
     go_ret
     exact ⟨_, by first | rfl | (simp [errW_none, errW_some] <;> rfl) | (simp [*, errW_none, errW_some] <;> rfl), by (with_reducible repeat (first | apply Kd.R_alloc | apply Kd.R_drewN | apply Kd.R_drew)); exact HO156.out, by repeat (first | (with_reducible first | exact HB.out | apply below_alloc | apply pw_below_drewN | apply below_drew1) | exact HB.out)⟩
    ·rw [if_neg c9] at H
     have c9b0 : (t150 == 2) = false := beq_eq_false_iff_ne.mpr c9
     have c9b1 : (t150 != 2) = true := bne_iff_ne.mpr c9
     by_cases c12 : t150 = 3
     ·rw [if_pos c12] at H
      have c12b0 : (t150 == 3) = true := beq_iff_eq.mpr c12
      have c12b1 : (t150 != 3) = false := bne_eq_false_iff_eq.mpr c12
      clear c12
      obtain ⟨y157, hy157⟩ : ∃ y_ : List Int, y_ = (([(wrap32 (224 + (wrap32 (Int.tdiv x0_2 4096)))) % 256, (wrap32 (128 + (Int.tmod (wrap32 (Int.tdiv x0_2 64)) 64))) % 256, (wrap32 (128 + (Int.tmod x0_2 64))) % 256] : List Int)) := ⟨_, rfl⟩
      replace H : (some y157) = some r := by first | (rw [hy157]; with_reducible exact H) | (have H2_ := (Option.bind_some _ _).symm.trans H; rw [hy157]; with_reducible exact H2_) | (have H2_ := (Option.bind_some _ _).symm.trans H; with_reducible exact H2_) | with_reducible exact H | (rw [hy157]; exact H) | exact H
      have Ny157 := Aside0.mk hy157
      clear hy157
      obtain rfl := Option.some.inj H
      go_wp2_with (first | ((with_reducible refine gate_callee (f := 80) rfl ?_); refine goesL_ (some 7) rfl rfl Tryd.func80 (by kernel_rfl) rfl #[.int .i32 x0_2] rfl (by (try simp only [List.map_toArray, List.map_cons, List.map_nil]); first | done | rfl | (simp only [List.length_drop, List.length_take]; rfl) | (simp [*] <;> rfl)) ?_; (with_reducible refine (sieveref01_Width.calls x0_2 t150 _ A5.out).mono ?_); rintro e w' ⟨rfl, ⟨nd, rfl⟩⟩; refine ⟨_, rfl, ?_⟩) | ((with_reducible refine gate_dst (N := 39) rfl ?_); refine Kd.R_lit (Kd.int .u8) _ 5 ?hg (N := 39) ?hd (xs := ([(wrap32 (224 + (wrap32 (Int.tdiv x0_2 4096)))) % 256, (wrap32 (128 + (Int.tmod (wrap32 (Int.tdiv x0_2 64)) 64))) % 256, (wrap32 (128 + (Int.tmod x0_2 64))) % 256] : List Int)) (inner := [.int .u8 ((wrap32 (224 + (wrap32 (Int.tdiv x0_2 4096)))) % 256), .int .u8 ((wrap32 (128 + (Int.tmod (wrap32 (Int.tdiv x0_2 64)) 64))) % 256), .int .u8 ((wrap32 (128 + (Int.tmod x0_2 64))) % 256)]) (ok := fun _ => True) (okp := fun _ => True) ?hr ?hp (fun _ hk => hk) trivial (Below.refl _ _) (Nat.le_refl _) (by simp) ?_; (case hd => rfl); (case hg => rfl); (case hr => first | (go_simp; done) | (go_simp; rfl)); (case hp => exact (Reps.one (show Kd.M (Kd.int .u8) _ _ _ ((wrap32 (224 + (wrap32 (Int.tdiv x0_2 4096)))) % 256) [.int .u8 ((wrap32 (224 + (wrap32 (Int.tdiv x0_2 4096)))) % 256)] from rfl) (Reps.one (show Kd.M (Kd.int .u8) _ _ _ ((wrap32 (128 + (Int.tmod (wrap32 (Int.tdiv x0_2 64)) 64))) % 256) [.int .u8 ((wrap32 (128 + (Int.tmod (wrap32 (Int.tdiv x0_2 64)) 64))) % 256)] from rfl) (Reps.one (show Kd.M (Kd.int .u8) _ _ _ ((wrap32 (128 + (Int.tmod x0_2 64))) % 256) [.int .u8 ((wrap32 (128 + (Int.tmod x0_2 64))) % 256)] from rfl) (Reps.none _ _))))); intro v158 w13 ho14 hb hg_ hnew_; clear hg_ hnew_; (first | rw [← Ny157.out] at ho14 | (simp only [Int.reduceToNat] at ho14; rw [← Ny157.out] at ho14)); have n0_ := Aside0.mk (Kd.R_lower ho14 (below_size (by repeat (first | (with_reducible first | exact HB.out | apply below_alloc | apply pw_below_drewN | apply below_drew1) | exact HB.out)))); have n1_ := Aside0.mk (below_step (by repeat (first | (with_reducible first | exact HB.out | apply below_alloc | apply pw_below_drewN | apply below_drew1) | exact HB.out)) hb); clear HB; have HO159 := n0_; have HB := n1_; clear n0_ n1_; clear hb ho14))
      go_ret
      exact ⟨_, by first | rfl | (simp [errW_none, errW_some] <;> rfl) | (simp [*, errW_none, errW_some] <;> rfl), by (with_reducible repeat (first | apply Kd.R_alloc | apply Kd.R_drewN | apply Kd.R_drew)); exact HO159.out, by repeat (first | (with_reducible first | exact HB.out | apply below_alloc | apply pw_below_drewN | apply below_drew1) | exact HB.out)⟩
     ·rw [if_neg c12] at H
      have c12b0 : (t150 == 3) = false := beq_eq_false_iff_ne.mpr c12
      have c12b1 : (t150 != 3) = true := bne_iff_ne.mpr c12
      obtain ⟨y160, hy160⟩ : ∃ y_ : List Int, y_ = (([(wrap32 (240 + (wrap32 (Int.tdiv x0_2 262144)))) % 256, (wrap32 (128 + (Int.tmod (wrap32 (Int.tdiv x0_2 4096)) 64))) % 256, (wrap32 (128 + (Int.tmod (wrap32 (Int.tdiv x0_2 64)) 64))) % 256, (wrap32 (128 + (Int.tmod x0_2 64))) % 256] : List Int)) := ⟨_, rfl⟩
      replace H : (some y160) = some r := by first | (rw [hy160]; with_reducible exact H) | (have H2_ := (Option.bind_some _ _).symm.trans H; rw [hy160]; with_reducible exact H2_) | (have H2_ := (Option.bind_some _ _).symm.trans H; with_reducible exact H2_) | with_reducible exact H | (rw [hy160]; exact H) | exact H
      have Ny160 := Aside0.mk hy160
      clear hy160
      obtain rfl := Option.some.inj H
      go_wp2_with (first | ((with_reducible refine gate_callee (f := 80) rfl ?_); refine goesL_ (some 7) rfl rfl Tryd.func80 (by kernel_rfl) rfl #[.int .i32 x0_2] rfl (by (try simp only [List.map_toArray, List.map_cons, List.map_nil]); first | done | rfl | (simp only [List.length_drop, List.length_take]; rfl) | (simp [*] <;> rfl)) ?_; (with_reducible refine (sieveref01_Width.calls x0_2 t150 _ A5.out).mono ?_); rintro e w' ⟨rfl, ⟨nd, rfl⟩⟩; refine ⟨_, rfl, ?_⟩) | ((with_reducible refine gate_dst (N := 58) rfl ?_); refine Kd.R_lit (Kd.int .u8) _ 5 ?hg (N := 58) ?hd (xs := ([(wrap32 (240 + (wrap32 (Int.tdiv x0_2 262144)))) % 256, (wrap32 (128 + (Int.tmod (wrap32 (Int.tdiv x0_2 4096)) 64))) % 256, (wrap32 (128 + (Int.tmod (wrap32 (Int.tdiv x0_2 64)) 64))) % 256, (wrap32 (128 + (Int.tmod x0_2 64))) % 256] : List Int)) (inner := [.int .u8 ((wrap32 (240 + (wrap32 (Int.tdiv x0_2 262144)))) % 256), .int .u8 ((wrap32 (128 + (Int.tmod (wrap32 (Int.tdiv x0_2 4096)) 64))) % 256), .int .u8 ((wrap32 (128 + (Int.tmod (wrap32 (Int.tdiv x0_2 64)) 64))) % 256), .int .u8 ((wrap32 (128 + (Int.tmod x0_2 64))) % 256)]) (ok := fun _ => True) (okp := fun _ => True) ?hr ?hp (fun _ hk => hk) trivial (Below.refl _ _) (Nat.le_refl _) (by simp) ?_; (case hd => rfl); (case hg => rfl); (case hr => first | (go_simp; done) | (go_simp; rfl)); (case hp => exact (Reps.one (show Kd.M (Kd.int .u8) _ _ _ ((wrap32 (240 + (wrap32 (Int.tdiv x0_2 262144)))) % 256) [.int .u8 ((wrap32 (240 + (wrap32 (Int.tdiv x0_2 262144)))) % 256)] from rfl) (Reps.one (show Kd.M (Kd.int .u8) _ _ _ ((wrap32 (128 + (Int.tmod (wrap32 (Int.tdiv x0_2 4096)) 64))) % 256) [.int .u8 ((wrap32 (128 + (Int.tmod (wrap32 (Int.tdiv x0_2 4096)) 64))) % 256)] from rfl) (Reps.one (show Kd.M (Kd.int .u8) _ _ _ ((wrap32 (128 + (Int.tmod (wrap32 (Int.tdiv x0_2 64)) 64))) % 256) [.int .u8 ((wrap32 (128 + (Int.tmod (wrap32 (Int.tdiv x0_2 64)) 64))) % 256)] from rfl) (Reps.one (show Kd.M (Kd.int .u8) _ _ _ ((wrap32 (128 + (Int.tmod x0_2 64))) % 256) [.int .u8 ((wrap32 (128 + (Int.tmod x0_2 64))) % 256)] from rfl) (Reps.none _ _)))))); intro v161 w15 ho16 hb hg_ hnew_; clear hg_ hnew_; (first | rw [← Ny160.out] at ho16 | (simp only [Int.reduceToNat] at ho16; rw [← Ny160.out] at ho16)); have n0_ := Aside0.mk (Kd.R_lower ho16 (below_size (by repeat (first | (with_reducible first | exact HB.out | apply below_alloc | apply pw_below_drewN | apply below_drew1) | exact HB.out)))); have n1_ := Aside0.mk (below_step (by repeat (first | (with_reducible first | exact HB.out | apply below_alloc | apply pw_below_drewN | apply below_drew1) | exact HB.out)) hb); clear HB; have HO162 := n0_; have HB := n1_; clear n0_ n1_; clear hb ho16))
      go_ret
      exact ⟨_, by first | rfl | (simp [errW_none, errW_some] <;> rfl) | (simp [*, errW_none, errW_some] <;> rfl), by (with_reducible repeat (first | apply Kd.R_alloc | apply Kd.R_drewN | apply Kd.R_drew)); exact HO162.out, by repeat (first | (with_reducible first | exact HB.out | apply below_alloc | apply pw_below_drewN | apply below_drew1) | exact HB.out)⟩

/-! ### sieveref01_Bytes: function 45 -/
def sieveref01_Bytes.l0 : Nat → List Int → List Int → Int → Int → Option (List Int)
 | 0, _, _, _, _ => none
 | k + 1, x3, x6, x7, x8 => if x8 < x7 then (if 0 ≤ x8 then (if x8 < (x6.length : Int) then ((sieveref01_bytesOf.f k (rd x6 x8)).bind fun t164 => (if x3.length + t164.length < 140737488355328 then (sieveref01_Bytes.l0 k (x3 ++ t164) x6 x7 (wrap64 (x8 + 1))) else (none))) else (none)) else (none)) else (some x3)
def sieveref01_Bytes.f (k : Nat) (l0 : List Int) : Option (List Int) := sieveref01_Bytes.l0 k ([] : List Int) l0 (l0.length : Int) 0
set_option maxHeartbeats 8000000 in
set_option maxRecDepth 100000 in
theorem sieveref01_Bytes.calls (k : Nat) (A0 : Option Addr) (c0 : Nat) (l0 : List Int) (r : List Int) (w : World) (hr0 : Kd.C (Kd.int .i32) w A0 l0.length l0) (hc0 : l0.length ≤ c0) (h : sieveref01_Bytes.f k l0 = some r) :
  Calls Tryd.prog 45 #[.slice A0 l0.length c0] w fun e w' => ∃ v0_ : Value, e = .returned (v0_) ∧ Kd.R (Kd.int .u8) 5 w' w.heap.size (fun _ => True) v0_ r ∧ Below w.heap.size w w' := by
 have HR0 := Aside0.mk hr0
 have HC0 := Aside0.mk hc0
 clear hr0 hc0
 have HB := Aside0.mk (Below.refl w.heap.size w)
 have H : (sieveref01_Bytes.l0 k ([] : List Int) l0 (l0.length : Int) 0) = some r := h
 clear h
 have H' := Aside0.mk H
 clear H
 go_enter Tryd.func45, Tryd.ntmps45
 go_wp2
 go_loopg [3, 8] k (fun kq v3 v8 w' => ∃ (x3_1 : List Int) (x8_1 : Int), v8 = .int .i64 x8_1 ∧ Aside0 (sieveref01_Bytes.l0 kq x3_1 l0 (l0.length : Int) x8_1 = some r) ∧ Aside0 (kq ≤ k) ∧ Aside0 (Kd.R (Kd.int .u8) 5 w' w.heap.size (fun _ => True) v3 x3_1) ∧ Aside0 (Below w.heap.size w w'))
 case atStart => exact ⟨(([] : List Int)), (0), (by first | rfl | (simp; done) | (simp [*]; done) | (unfold bt; split <;> first | rfl | (exfalso; simp_all; done) | (exfalso; simp_all; omega))), H', ⟨Nat.le_refl _⟩, ⟨by first | exact Kd.R_nil _ _ _ _ _ | exact Kd.N_nil _ _ _ _ _ | exact Kd.V_nil _ _ _ _ _ | exact Kd.Q_nil _ _ _ _ _ | exact Kd.S_nil _ _ _ _ _⟩, ⟨by repeat (first | (with_reducible first | exact HB.out | apply below_alloc | apply pw_below_drewN | apply below_drew1) | exact HB.out)⟩⟩
 case round =>
  clear H'
  obtain ⟨x3_1, x8_1, rfl, HA, HK1, HO_3, HB⟩ := hrel
  cases gk with
  | zero => exact absurd HA.out (by simp [sieveref01_Bytes.l0])
  | succ k1 =>
   have H := HA.out
   clear HA
   simp only [sieveref01_Bytes.l0] at H
   by_cases c2 : x8_1 < (l0.length : Int)
   ·rw [if_pos c2] at H
    have c2b0 : decide (x8_1 < (l0.length : Int)) = true := decide_eq_true c2
    clear c2
    by_cases c3 : 0 ≤ x8_1
    ·rw [if_pos c3] at H
     have c3b0 : decide (0 ≤ x8_1) = true := decide_eq_true c3
     clear c3
     by_cases c4 : x8_1 < (l0.length : Int)
     ·rw [if_pos c4] at H
      have c4b0 : decide (x8_1 < (l0.length : Int)) = true := decide_eq_true c4
      clear c4
      replace H := Option.bind_eq_some_iff.mp H
      obtain ⟨t164, A50, H⟩ := H
      replace H : (if x3_1.length + t164.length < 140737488355328 then (sieveref01_Bytes.l0 k1 (x3_1 ++ t164) l0 (l0.length : Int) (wrap64 (x8_1 + 1))) else (none)) = some r := H
      have A5 := Aside0.mk A50
      clear A50
      by_cases c6 : x3_1.length + t164.length < 140737488355328
      ·rw [if_pos c6] at H
       have LMc6 := Aside0.mk c6
       clear c6
       obtain ⟨y167, hy167⟩ : ∃ y_ : List Int, y_ = (x3_1 ++ t164) := ⟨_, rfl⟩
       replace H : (sieveref01_Bytes.l0 k1 y167 l0 (l0.length : Int) (wrap64 (x8_1 + 1))) = some r := by first | (rw [hy167]; with_reducible exact H) | (have H2_ := (Option.bind_some _ _).symm.trans H; rw [hy167]; with_reducible exact H2_) | (have H2_ := (Option.bind_some _ _).symm.trans H; with_reducible exact H2_) | with_reducible exact H | (rw [hy167]; exact H) | exact H
       have Ny167 := Aside0.mk hy167
       clear hy167
       have H' := Aside0.mk H
       clear H
       have p163 : 0 ≤ (x8_1 : Int) := of_decide_eq_true (by first | (with_reducible assumption) | assumption)
       have q163 : x8_1 < (l0.length : Int) := of_decide_eq_true (by first | (with_reducible assumption) | assumption)
       obtain ⟨ad163, e163, hx163_0⟩ := Kd.at_int HR0.out x8_1 p163 q163
       cases e163
       replace hx163_0 := (HB.out.cell (World.block_lt_of_cell? w _ hx163_0)).trans hx163_0
       replace p163 := eq_true p163
       replace q163 := eq_true q163
       go_wp2_with (first | ((with_reducible refine gate_callee (f := 61) rfl ?_); refine goesL_ (some 14) rfl rfl Tryd.func61 (by kernel_rfl) rfl #[.int .i32 (rd l0 x8_1)] rfl (by (try simp only [List.map_toArray, List.map_cons, List.map_nil]); first | done | rfl | (simp only [List.length_drop, List.length_take]; rfl) | (simp [*] <;> rfl)) ?_; (with_reducible refine (sieveref01_bytesOf.calls k1 (rd l0 x8_1) t164 _ A5.out).mono ?_); rintro e w7 ⟨v165, rfl, ho0, hb⟩; refine ⟨_, rfl, ?_⟩; have n0_ := Aside0.mk (Kd.R_elder' (by (with_reducible repeat (first | apply Kd.R_alloc | apply Kd.R_drewN | apply Kd.R_drew)); exact HO_3.out) (Kd.R_base ho0) hb); have n1_ := Aside0.mk (Kd.R_lower (Kd.R_new' ho0 (Kd.R_lt (by (with_reducible repeat (first | apply Kd.R_alloc | apply Kd.R_drewN | apply Kd.R_drew)); exact HO_3.out))) (below_size (by repeat (first | (with_reducible first | exact HB.out | apply below_alloc | apply pw_below_drewN | apply below_drew1) | exact HB.out)))); have n2_ := Aside0.mk (below_step (by repeat (first | (with_reducible first | exact HB.out | apply below_alloc | apply pw_below_drewN | apply below_drew1) | exact HB.out)) hb); clear HO_3; clear HB; have HO_3 := n0_; have HO166 := n1_; have HB := n2_; clear n0_ n1_ n2_; (try clear hb); (try clear hb2); (try clear hk); (try clear hi); (try clear ho0); obtain ⟨Ao9, co9, eo9⟩ := Kd.R_slice HO166.out; subst eo9) | ((with_reducible refine gate_builtin (b := .append) (xs := #[.tmp 12, .tmp 14]) rfl ?_); at_builtin; refine Kd.R_append_rows (Kd.int .u8) (w0 := w) w.heap.size rfl (.tmp 12) (.tmp 14) 46 5 (.int .u8 0) 1 rfl Tryd.underlying46 info5 rfl (by decide) (by omega) u3 x3_1 t164 _ _ _ (fun k_ => some k_ ≠ (.slice Ao9 t164.length co9 : Value).ownBlock) (fun _ => False) rfl rfl ?aO ?aR (fun _ _ h => h) (fun _ h => h.elim) ?aF ?aB ?aS ?aL ?_; (case aR => repeat (first | exact (Kd.R_reads' HO166.out).2.2 | (with_reducible refine Kd.C_alloc ?_ _) | (with_reducible refine Kd.C_drewN ?_ _) | (with_reducible refine Kd.C_drew ?_))); (case aB => exact (by repeat (first | (with_reducible first | exact HB.out | apply below_alloc | apply pw_below_drewN | apply below_drew1) | exact HB.out))); (case aF => exact (fun k_ hk => Kd.fresh' (Kd.R_lt (by (with_reducible repeat (first | apply Kd.R_alloc | apply Kd.R_drewN | apply Kd.R_drew)); exact HO166.out)) k_ hk)); (case aO => exact (by (with_reducible repeat (first | apply Kd.R_alloc | apply Kd.R_drewN | apply Kd.R_drew)); exact Kd.R_mono HO_3.out (fun _ hk => hk.2))); (case aS => exact (below_size (by repeat (first | (with_reducible first | exact HB.out | apply below_alloc | apply pw_below_drewN | apply below_drew1) | exact HB.out)))); (case aL => have := LMc6.out; omega); intro v168 w8 ho hb hg hat; rw [← Ny167.out] at ho; have n0_ := Aside0.mk (Kd.R_after (ok := (fun _ => True)) (by (with_reducible repeat (first | apply Kd.R_alloc | apply Kd.R_drewN | apply Kd.R_drew)); exact HO166.out) hg hat); have n1_ := Aside0.mk (hb); have n2_ := Aside0.mk (ho); clear HO166; clear HB; clear HO_3; have HO166 := n0_; have HB := n1_; have HO169 := n2_; clear n0_ n1_ n2_; clear ho hb hg hat))
       go_roundg k1
       case measure => have := HK1.out; omega
       case rel => exact ⟨(y167), (wrap64 (x8_1 + 1)), (by first | rfl | (simp; done) | (simp [*]; done) | (unfold bt; split <;> first | rfl | (exfalso; simp_all; done) | (exfalso; simp_all; omega))), H', ⟨by have := HK1.out; omega⟩, ⟨by (with_reducible repeat (first | apply Kd.R_alloc | apply Kd.R_drewN | apply Kd.R_drew)); exact Kd.R_mono HO169.out (fun _ hk => trivial)⟩, ⟨by repeat (first | (with_reducible first | exact HB.out | apply below_alloc | apply pw_below_drewN | apply below_drew1) | exact HB.out)⟩⟩
      ·rw [if_neg c6] at H
       exact absurd H (by simp)
     ·rw [if_neg c4] at H
      exact absurd H (by simp)
    ·rw [if_neg c3] at H
     exact absurd H (by simp)
   ·rw [if_neg c2] at H
    have c2b0 : decide (x8_1 < (l0.length : Int)) = false := decide_eq_false c2
    clear c2
    obtain rfl := Option.some.inj H
    go_wp2
    go_ret
    exact ⟨_, by first | rfl | (simp [errW_none, errW_some] <;> rfl) | (simp [*, errW_none, errW_some] <;> rfl), by (with_reducible repeat (first | apply Kd.R_alloc | apply Kd.R_drewN | apply Kd.R_drew)); exact HO_3.out, by repeat (first | (with_reducible first | exact HB.out | apply below_alloc | apply pw_below_drewN | apply below_drew1) | exact HB.out)⟩

/-! ### sieveref01_Text: function 26 -/
def sieveref01_Text.f (k : Nat) (l0 : List Int) : Option (ByteArray) := (sieveref01_Bytes.f k l0).bind fun t170 => (some (strOfNums t170))
set_option maxHeartbeats 8000000 in
set_option maxRecDepth 100000 in
theorem sieveref01_Text.calls (k : Nat) (A0 : Option Addr) (c0 : Nat) (l0 : List Int) (r : ByteArray) (w : World) (hr0 : Kd.C (Kd.int .i32) w A0 l0.length l0) (hc0 : l0.length ≤ c0) (h : sieveref01_Text.f k l0 = some r) :
  Calls Tryd.prog 26 #[.slice A0 l0.length c0] w fun e w' => e = .returned (.string r) ∧ Below w.heap.size w w' := by
 have HR0 := Aside0.mk hr0
 have HC0 := Aside0.mk hc0
 clear hr0 hc0
 have HB := Aside0.mk (Below.refl w.heap.size w)
 have H : ((sieveref01_Bytes.f k l0).bind fun t170 => (some (strOfNums t170))) = some r := h
 clear h
 replace H := Option.bind_eq_some_iff.mp H
 obtain ⟨t170, A20, H⟩ := H
 replace H : (some (strOfNums t170)) = some r := H
 have A2 := Aside0.mk A20
 clear A20
 obtain rfl := Option.some.inj H
 go_enter Tryd.func26, Tryd.ntmps26
 go_wp2_with (first | ((with_reducible refine gate_callee (f := 45) rfl ?_); refine goesL_ (some 4) rfl rfl Tryd.func45 (by kernel_rfl) rfl #[.slice A0 l0.length c0] rfl (by (try simp only [List.map_toArray, List.map_cons, List.map_nil]); first | done | rfl | (simp only [List.length_drop, List.length_take]; rfl) | (simp [*] <;> rfl)) ?_; (with_reducible refine (sieveref01_Bytes.calls k _ _ l0 t170 _ ?side1 ?side2 A2.out).mono ?_); (case side1 => repeat (first | exact HR0.out | (with_reducible refine Kd.C_alloc ?_ _) | (with_reducible refine Kd.C_drewN ?_ _) | (with_reducible refine Kd.C_drew ?_))); (case side2 => exact HC0.out); rintro e w3 ⟨v171, rfl, ho0, hb⟩; refine ⟨_, rfl, ?_⟩; have n0_ := Aside0.mk (Kd.R_lower ho0 (below_size (by repeat (first | (with_reducible first | exact HB.out | apply below_alloc | apply pw_below_drewN | apply below_drew1) | exact HB.out)))); have n1_ := Aside0.mk (below_step (by repeat (first | (with_reducible first | exact HB.out | apply below_alloc | apply pw_below_drewN | apply below_drew1) | exact HB.out)) hb); clear HB; have HO172 := n0_; have HB := n1_; clear n0_ n1_; (try clear hb); (try clear hb2); (try clear hk); (try clear hi); (try clear ho0); have hcv4 := own_string (P := Tryd.prog) Tryd.underlying46 Tryd.underlying5 Tryd.underlying9 (Kd.own_of_R HO172.out)))
 go_ret
 exact ⟨by first | rfl | (simp [errW_none, errW_some] <;> rfl) | (simp [*, errW_none, errW_some] <;> rfl), by repeat (first | (with_reducible first | exact HB.out | apply below_alloc | apply pw_below_drewN | apply below_drew1) | exact HB.out)⟩

/-! ### sieveref01_size: function 81 -/
mutual
def sieveref01_size.j0 : Nat → Int → Bool → Option (Int)
 | 0, _, _ => none
 | k + 1, x0, x6 => if x6 = true then (some 2) else (if x0 ≥ 224 then (sieveref01_size.j1 k x0 (decide (x0 ≤ 239))) else (sieveref01_size.j1 k x0 false))
def sieveref01_size.j1 : Nat → Int → Bool → Option (Int)
 | 0, _, _ => none
 | k + 1, x0, x13 => if x13 = true then (some 3) else (if x0 ≥ 240 then (if x0 ≤ 244 then (some 4) else (some 0)) else (some 0))
end
def sieveref01_size.f (k : Nat) (a0 : Int) : Option (Int) := if a0 < 128 then (some 1) else (if a0 ≥ 194 then (sieveref01_size.j0 k a0 (decide (a0 ≤ 223))) else (sieveref01_size.j0 k a0 false))
theorem sieveref01_size.mono_l : ∀ k, (∀ y0 y1, LeO (sieveref01_size.j0 k y0 y1) (sieveref01_size.j0 (k + 1) y0 y1)) ∧ (∀ y0 y1, LeO (sieveref01_size.j1 k y0 y1) (sieveref01_size.j1 (k + 1) y0 y1))
 | 0 => ⟨fun _ _ r h => by simp [sieveref01_size.j0] at h, fun _ _ r h => by simp [sieveref01_size.j1] at h⟩
 | k + 1 => by
  obtain ⟨ih0, ih1⟩ := sieveref01_size.mono_l k
  refine ⟨?_, ?_⟩
  ·intro y0 y1
   unfold sieveref01_size.j0
   repeat' first
   | (with_reducible exact ih0 _ _)
   | (with_reducible exact ih1 _ _)
   | (with_reducible exact LeO.refl _)
   | (with_reducible exact LeO.none _)
   | (with_reducible refine LeO.ite ?_ ?_)
   | (with_reducible refine LeO.bind ?_ (fun _ => ?_))
   | exact ih0 _ _
   | exact ih1 _ _
   | exact LeO.none _
   | refine LeO.ite ?_ ?_
   | refine LeO.bind ?_ (fun _ => ?_)
  ·intro y0 y1
   unfold sieveref01_size.j1
   repeat' first
   | (with_reducible exact ih0 _ _)
   | (with_reducible exact ih1 _ _)
   | (with_reducible exact LeO.refl _)
   | (with_reducible exact LeO.none _)
   | (with_reducible refine LeO.ite ?_ ?_)
   | (with_reducible refine LeO.bind ?_ (fun _ => ?_))
   | exact ih0 _ _
   | exact ih1 _ _
   | exact LeO.none _
   | refine LeO.ite ?_ ?_
   | refine LeO.bind ?_ (fun _ => ?_)
theorem sieveref01_size.mono : ∀ a0 k, LeO (sieveref01_size.f k a0) (sieveref01_size.f (k + 1) a0) := by
 intro a0 k
 obtain ⟨ih0, ih1⟩ := sieveref01_size.mono_l k
 unfold sieveref01_size.f
 repeat' first
   | (with_reducible exact ih0 _ _)
   | (with_reducible exact ih1 _ _)
   | (with_reducible exact LeO.refl _)
   | (with_reducible exact LeO.none _)
   | (with_reducible refine LeO.ite ?_ ?_)
   | (with_reducible refine LeO.bind ?_ (fun _ => ?_))
   | exact ih0 _ _
   | exact ih1 _ _
   | exact LeO.none _
   | refine LeO.ite ?_ ?_
   | refine LeO.bind ?_ (fun _ => ?_)
set_option maxHeartbeats 8000000 in
set_option maxRecDepth 100000 in
theorem sieveref01_size.calls (k : Nat) (a0 : Int) (r : Int) (w : World) (h : sieveref01_size.f k a0 = some r) :
  Calls Tryd.prog 81 #[.int .u8 a0] w fun e w' => e = .returned (.int .i64 r) ∧ Drawn0 w w' := by
 have H : (if a0 < 128 then (some 1) else (if a0 ≥ 194 then (sieveref01_size.j0 k a0 (decide (a0 ≤ 223))) else (sieveref01_size.j0 k a0 false))) = some r := h
 clear h
 by_cases c2 : a0 < 128
 ·rw [if_pos c2] at H
  have c2b0 : decide (a0 < 128) = true := decide_eq_true c2
  clear c2
  obtain rfl := Option.some.inj H
  go_enter Tryd.func81, Tryd.ntmps81
  go_wp2
  go_ret
  exact ⟨by first | rfl | (simp; done) | (simp [*]; done), by repeat (first | exact Drawn0.refl _ | apply Drawn0.step)⟩
 ·rw [if_neg c2] at H
  have c2b0 : decide (a0 < 128) = false := decide_eq_false c2
  clear c2
  have HC3 := Aside0.mk H
  clear H
  go_enter Tryd.func81, Tryd.ntmps81
  go_upto_region 3 with (fail)
  go_cut [6] (fun v6 wc => ∃ (kq : Nat) (x6_2 : Bool), v6 = .bool x6_2 ∧ Aside0 (sieveref01_size.j0 kq a0 x6_2 = some r) ∧ Aside0 (kq ≤ k) ∧ Drawn0 w wc)
  case first =>
   have H := HC3.out
   clear HC3
   by_cases c4 : a0 ≥ 194
   ·rw [if_pos c4] at H
    have c4b0 : decide (194 ≤ a0) = true := decide_eq_true c4
    clear c4
    (first | rw [c4b0] | (simp only [i64_w, i32_w]; rw [c4b0]) | skip)
    have H' := Aside0.mk H
    clear H
    go_wp2
    go_meet
    case rel => exact ⟨_, (decide (a0 ≤ 223)), (by first | rfl | (simp; done) | (simp [*]; done) | (unfold bt; split <;> first | rfl | (exfalso; simp_all; done) | (exfalso; simp_all; omega))), H', ⟨by first | omega | exact Nat.le_refl _⟩, by repeat (first | exact Drawn0.refl _ | apply Drawn0.step)⟩
   ·rw [if_neg c4] at H
    have c4b0 : decide (194 ≤ a0) = false := decide_eq_false c4
    clear c4
    (first | rw [c4b0] | (simp only [i64_w, i32_w]; rw [c4b0]) | skip)
    have H' := Aside0.mk H
    clear H
    go_wp2
    go_meet
    case rel => exact ⟨_, (false), (by first | rfl | (simp; done) | (simp [*]; done) | (unfold bt; split <;> first | rfl | (exfalso; simp_all; done) | (exfalso; simp_all; omega))), H', ⟨by first | omega | exact Nat.le_refl _⟩, by repeat (first | exact Drawn0.refl _ | apply Drawn0.step)⟩
  case rest =>
   clear HC3
   try clear c2
   try clear c2b0
   try clear p2
   try clear c4
   try clear c4b0
   obtain ⟨kq, x6_2, rfl, HA, HJ2, ⟨mc2, rfl⟩⟩ := hcut
   cases kq with
   | zero => exact absurd HA.out (by simp [sieveref01_size.j0])
   | succ kj2 =>
    have H := HA.out
    clear HA
    simp only [sieveref01_size.j0] at H
    by_cases c5 : x6_2 = true
    ·subst c5
     have H1 : (some 2) = some r := by rw [if_pos rfl] at H; exact H
     clear H
     have H := H1
     clear H1
     obtain rfl := Option.some.inj H
     go_wp2
     go_ret
     exact ⟨by first | rfl | (simp; done) | (simp [*]; done), by repeat (first | exact Drawn0.refl _ | apply Drawn0.step)⟩
    ·replace c5 := Bool.eq_false_iff.mpr c5
     subst c5
     have H1 : (if a0 ≥ 224 then (sieveref01_size.j1 kj2 a0 (decide (a0 ≤ 239))) else (sieveref01_size.j1 kj2 a0 false)) = some r := by rw [if_neg (show ¬ (false = true) by decide)] at H; exact H
     clear H
     have H := H1
     clear H1
     have HC6 := Aside0.mk H
     clear H
     go_upto_region 5 with (fail)
     go_cut [13] (fun v13 wc => ∃ (kq : Nat) (x13_5 : Bool), v13 = .bool x13_5 ∧ Aside0 (sieveref01_size.j1 kq a0 x13_5 = some r) ∧ Aside0 (kq ≤ kj2) ∧ Drawn0 w wc)
     case first =>
      have H := HC6.out
      clear HC6
      by_cases c7 : a0 ≥ 224
      ·rw [if_pos c7] at H
       have c7b0 : decide (224 ≤ a0) = true := decide_eq_true c7
       clear c7
       (first | rw [c7b0] | (simp only [i64_w, i32_w]; rw [c7b0]) | skip)
       have H' := Aside0.mk H
       clear H
       go_wp2
       go_meet
       case rel => exact ⟨_, (decide (a0 ≤ 239)), (by first | rfl | (simp; done) | (simp [*]; done) | (unfold bt; split <;> first | rfl | (exfalso; simp_all; done) | (exfalso; simp_all; omega))), H', ⟨by have := HJ2.out; first | omega | exact Nat.le_refl _⟩, by repeat (first | exact Drawn0.refl _ | apply Drawn0.step)⟩
      ·rw [if_neg c7] at H
       have c7b0 : decide (224 ≤ a0) = false := decide_eq_false c7
       clear c7
       (first | rw [c7b0] | (simp only [i64_w, i32_w]; rw [c7b0]) | skip)
       have H' := Aside0.mk H
       clear H
       go_wp2
       go_meet
       case rel => exact ⟨_, (false), (by first | rfl | (simp; done) | (simp [*]; done) | (unfold bt; split <;> first | rfl | (exfalso; simp_all; done) | (exfalso; simp_all; omega))), H', ⟨by have := HJ2.out; first | omega | exact Nat.le_refl _⟩, by repeat (first | exact Drawn0.refl _ | apply Drawn0.step)⟩
     case rest =>
      clear HC6
      try clear c2
      try clear c2b0
      try clear p2
      try clear c4
      try clear c4b0
      try clear c5
      try clear c7
      try clear c7b0
      try clear p2
      obtain ⟨kq, x13_5, rfl, HA, HJ5, ⟨mc5, rfl⟩⟩ := hcut
      cases kq with
      | zero => exact absurd HA.out (by simp [sieveref01_size.j1])
      | succ kj5 =>
       have H := HA.out
       clear HA
       simp only [sieveref01_size.j1] at H
       by_cases c8 : x13_5 = true
       ·subst c8
        have H1 : (some 3) = some r := by rw [if_pos rfl] at H; exact H
        clear H
        have H := H1
        clear H1
        obtain rfl := Option.some.inj H
        go_wp2
        go_ret
        exact ⟨by first | rfl | (simp; done) | (simp [*]; done), by repeat (first | exact Drawn0.refl _ | apply Drawn0.step)⟩
       ·replace c8 := Bool.eq_false_iff.mpr c8
        subst c8
        have H1 : (if a0 ≥ 240 then (if a0 ≤ 244 then (some 4) else (some 0)) else (some 0)) = some r := by rw [if_neg (show ¬ (false = true) by decide)] at H; exact H
        clear H
        have H := H1
        clear H1
        by_cases c9 : a0 ≥ 240
        ·rw [if_pos c9] at H
         have c9b0 : decide (240 ≤ a0) = true := decide_eq_true c9
         clear c9
         by_cases c10 : a0 ≤ 244
         ·rw [if_pos c10] at H
          have c10b0 : decide (a0 ≤ 244) = true := decide_eq_true c10
          clear c10
          obtain rfl := Option.some.inj H
          go_wp2
          go_ret
          exact ⟨by first | rfl | (simp; done) | (simp [*]; done), by repeat (first | exact Drawn0.refl _ | apply Drawn0.step)⟩
         ·rw [if_neg c10] at H
          have c10b0 : decide (a0 ≤ 244) = false := decide_eq_false c10
          clear c10
          obtain rfl := Option.some.inj H
          go_wp2
          go_ret
          exact ⟨by first | rfl | (simp; done) | (simp [*]; done), by repeat (first | exact Drawn0.refl _ | apply Drawn0.step)⟩
        ·rw [if_neg c9] at H
         have c9b0 : decide (240 ≤ a0) = false := decide_eq_false c9
         clear c9
         obtain rfl := Option.some.inj H
         go_wp2
         go_ret
         exact ⟨by first | rfl | (simp; done) | (simp [*]; done), by repeat (first | exact Drawn0.refl _ | apply Drawn0.step)⟩

/-! ### sieveref01_second: function 82 -/
def sieveref01_second.f (a0 : Int) (a1 : Int) : Option (Bool) := if a0 = 224 then (if a1 ≥ 160 then (some (decide (a1 ≤ 191))) else (some false)) else (if a0 = 237 then (if a1 ≥ 128 then (some (decide (a1 ≤ 159))) else (some false)) else (if a0 = 240 then (if a1 ≥ 144 then (some (decide (a1 ≤ 191))) else (some false)) else (if a0 = 244 then (if a1 ≥ 128 then (some (decide (a1 ≤ 143))) else (some false)) else (if a1 ≥ 128 then (some (decide (a1 ≤ 191))) else (some false)))))
set_option maxHeartbeats 8000000 in
set_option maxRecDepth 100000 in
theorem sieveref01_second.calls (a0 : Int) (a1 : Int) (r : Bool) (w : World) (h : sieveref01_second.f a0 a1 = some r) :
  Calls Tryd.prog 82 #[.int .u8 a0, .int .u8 a1] w fun e w' => e = .returned (.bool r) ∧ Drawn0 w w' := by
 have H : (if a0 = 224 then (if a1 ≥ 160 then (some (decide (a1 ≤ 191))) else (some false)) else (if a0 = 237 then (if a1 ≥ 128 then (some (decide (a1 ≤ 159))) else (some false)) else (if a0 = 240 then (if a1 ≥ 144 then (some (decide (a1 ≤ 191))) else (some false)) else (if a0 = 244 then (if a1 ≥ 128 then (some (decide (a1 ≤ 143))) else (some false)) else (if a1 ≥ 128 then (some (decide (a1 ≤ 191))) else (some false)))))) = some r := h
 clear h
 by_cases c3 : a0 = 224
 ·rw [if_pos c3] at H
  have c3b0 : (a0 == 224) = true := beq_iff_eq.mpr c3
  have c3b1 : (a0 != 224) = false := bne_eq_false_iff_eq.mpr c3
  clear c3
  by_cases c4 : a1 ≥ 160
  ·rw [if_pos c4] at H
   have c4b0 : decide (160 ≤ a1) = true := decide_eq_true c4
   clear c4
   obtain rfl := Option.some.inj H
   go_enter Tryd.func82, Tryd.ntmps82
   go_wp2
   go_ret
   exact ⟨by first | rfl | (simp; done) | (simp [*]; done), by repeat (first | exact Drawn0.refl _ | apply Drawn0.step)⟩
  ·rw [if_neg c4] at H
   have c4b0 : decide (160 ≤ a1) = false := decide_eq_false c4
   clear c4
   obtain rfl := Option.some.inj H
   go_enter Tryd.func82, Tryd.ntmps82
   go_wp2
   go_ret
   exact ⟨by first | rfl | (simp; done) | (simp [*]; done), by repeat (first | exact Drawn0.refl _ | apply Drawn0.step)⟩
 ·rw [if_neg c3] at H
  have c3b0 : (a0 == 224) = false := beq_eq_false_iff_ne.mpr c3
  have c3b1 : (a0 != 224) = true := bne_iff_ne.mpr c3
  by_cases c5 : a0 = 237
  ·rw [if_pos c5] at H
   have c5b0 : (a0 == 237) = true := beq_iff_eq.mpr c5
   have c5b1 : (a0 != 237) = false := bne_eq_false_iff_eq.mpr c5
   clear c5
   by_cases c6 : a1 ≥ 128
   ·rw [if_pos c6] at H
    have c6b0 : decide (128 ≤ a1) = true := decide_eq_true c6
    clear c6
    obtain rfl := Option.some.inj H
    go_enter Tryd.func82, Tryd.ntmps82
    go_wp2
    go_ret
    exact ⟨by first | rfl | (simp; done) | (simp [*]; done), by repeat (first | exact Drawn0.refl _ | apply Drawn0.step)⟩
   ·rw [if_neg c6] at H
    have c6b0 : decide (128 ≤ a1) = false := decide_eq_false c6
    clear c6
    obtain rfl := Option.some.inj H
    go_enter Tryd.func82, Tryd.ntmps82
    go_wp2
    go_ret
    exact ⟨by first | rfl | (simp; done) | (simp [*]; done), by repeat (first | exact Drawn0.refl _ | apply Drawn0.step)⟩
  ·rw [if_neg c5] at H
   have c5b0 : (a0 == 237) = false := beq_eq_false_iff_ne.mpr c5
   have c5b1 : (a0 != 237) = true := bne_iff_ne.mpr c5
   by_cases c7 : a0 = 240
   ·rw [if_pos c7] at H
    have c7b0 : (a0 == 240) = true := beq_iff_eq.mpr c7
    have c7b1 : (a0 != 240) = false := bne_eq_false_iff_eq.mpr c7
    clear c7
    by_cases c8 : a1 ≥ 144
    ·rw [if_pos c8] at H
     have c8b0 : decide (144 ≤ a1) = true := decide_eq_true c8
     clear c8
     obtain rfl := Option.some.inj H
     go_enter Tryd.func82, Tryd.ntmps82
     go_wp2
     go_ret
     exact ⟨by first | rfl | (simp; done) | (simp [*]; done), by repeat (first | exact Drawn0.refl _ | apply Drawn0.step)⟩
    ·rw [if_neg c8] at H
     have c8b0 : decide (144 ≤ a1) = false := decide_eq_false c8
     clear c8
     obtain rfl := Option.some.inj H
     go_enter Tryd.func82, Tryd.ntmps82
     go_wp2
     go_ret
     exact ⟨by first | rfl | (simp; done) | (simp [*]; done), by repeat (first | exact Drawn0.refl _ | apply Drawn0.step)⟩
   ·rw [if_neg c7] at H
    have c7b0 : (a0 == 240) = false := beq_eq_false_iff_ne.mpr c7
    have c7b1 : (a0 != 240) = true := bne_iff_ne.mpr c7
    by_cases c9 : a0 = 244
    ·rw [if_pos c9] at H
     have c9b0 : (a0 == 244) = true := beq_iff_eq.mpr c9
     have c9b1 : (a0 != 244) = false := bne_eq_false_iff_eq.mpr c9
     clear c9
     by_cases c10 : a1 ≥ 128
     ·rw [if_pos c10] at H
      have c10b0 : decide (128 ≤ a1) = true := decide_eq_true c10
      clear c10
      obtain rfl := Option.some.inj H
      go_enter Tryd.func82, Tryd.ntmps82
      go_wp2
      go_ret
      exact ⟨by first | rfl | (simp; done) | (simp [*]; done), by repeat (first | exact Drawn0.refl _ | apply Drawn0.step)⟩
     ·rw [if_neg c10] at H
      have c10b0 : decide (128 ≤ a1) = false := decide_eq_false c10
      clear c10
      obtain rfl := Option.some.inj H
      go_enter Tryd.func82, Tryd.ntmps82
      go_wp2
      go_ret
      exact ⟨by first | rfl | (simp; done) | (simp [*]; done), by repeat (first | exact Drawn0.refl _ | apply Drawn0.step)⟩
    ·rw [if_neg c9] at H
     have c9b0 : (a0 == 244) = false := beq_eq_false_iff_ne.mpr c9
     have c9b1 : (a0 != 244) = true := bne_iff_ne.mpr c9
     by_cases c11 : a1 ≥ 128
     ·rw [if_pos c11] at H
      have c11b0 : decide (128 ≤ a1) = true := decide_eq_true c11
      clear c11
      obtain rfl := Option.some.inj H
      go_enter Tryd.func82, Tryd.ntmps82
      go_wp2
      go_ret
      exact ⟨by first | rfl | (simp; done) | (simp [*]; done), by repeat (first | exact Drawn0.refl _ | apply Drawn0.step)⟩
     ·rw [if_neg c11] at H
      have c11b0 : decide (128 ≤ a1) = false := decide_eq_false c11
      clear c11
      obtain rfl := Option.some.inj H
      go_enter Tryd.func82, Tryd.ntmps82
      go_wp2
      go_ret
      exact ⟨by first | rfl | (simp; done) | (simp [*]; done), by repeat (first | exact Drawn0.refl _ | apply Drawn0.step)⟩

end Go.Proofs.YthmbbkbmlnaghaaDoor.P
end
