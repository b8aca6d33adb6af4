/-
  Part 3 of 7 of the proof's texts, joined: Hnum, PA7, Heach, Hord, HordIn, Shelf, Hbld, Hrep0, HrepC, HwholeC, PA2.
  (Where a joined text began as one that the kit's print.sh printed, it is trimmed here to what this claim uses, by this session's pack.py.)
-/
import Derived.Test.YthmbbkbmlnaghaaQCharrefDecodes0
import Derived.Test.YthmbbkbmlnaghaaQCharrefDecodes1
import Derived.ScopeJumps
import Derived.Orders
import Derived.WalkKit
import Derived.OrdersIn
import Derived.Shelf.Strings.Builder1
import Derived.Shelf.Strings.BuilderF
import Derived.Shelf.Strings.BuilderK
import Derived.Test.YthmbbkbmlnaghaaProg
import Derived.Lib.OthersKept
import Derived.Laws.EntriesVeiled
import Derived.Deep.RegionWith
section
/-
  charref.numeric: what a numeric reference says: a label and a goto.
-/
namespace Go.Proofs.Ythmbbkbmlnaghaa.P
open Go.RowKit Go.Proofs.YthmbbkbmlnaghaaW.PrintWords Go.Proofs.YthmbbkbmlnaghaaW.PrintLast Go.Proofs.YthmbbkbmlnaghaaW.PrintMore
set_option linter.unusedVariables false
set_option linter.unusedSimpArgs false

/-! ### plain -/
def digV (b : Nat) : Int := if 48 ≤ b ∧ b ≤ 57 then (b : Int) - 48 else if 97 ≤ b ∧ b ≤ 102 then (b : Int) - 87 else if 65 ≤ b ∧ b ≤ 70 then (b : Int) - 55 else -1
theorem digV_all : ∀ b : Fin 256, names_Value.f 9 (wrap32 ((b.val : Nat) : Int)) = some (digV b.val) := by decide +kernel
/-- is a byte a digit of a number? -/
def isDig (hex : Bool) (b : UInt8) : Bool := decide (0 ≤ digV b.toNat) && (hex || decide (digV b.toNat < 10))
/-- how many digits stand at the head -/
def nDig (hex : Bool) : List UInt8 → Nat
  | [] => 0
  | b :: t => if isDig hex b = true then nDig hex t + 1 else 0
theorem nDig_le (hex : Bool) : ∀ l : List UInt8, nDig hex l ≤ l.length
  | [] => Nat.le_refl _
  | b :: t => by
    unfold nDig
    have := nDig_le hex t
    split <;> simp only [List.length_cons] <;> omega
def numHex (s : ByteArray) : Bool := (bt s 1 == 120) || (bt s 1 == 88)
def numFrom (s : ByteArray) : Nat := if numHex s = true then 2 else 1
def numAt (s : ByteArray) : Nat := numFrom s + nDig (numHex s) (s.data.toList.drop (numFrom s))

def charref_numeric.f (k : Nat) (s : ByteArray) (e : Bool) : Option (ByteArray × Int × Bool) :=
  if s.size ≤ 35184372088831 ∧ 1 ≤ s.size then
    (if s.size = 1 then some ((⟨#[]⟩ : ByteArray), 0, e)
     else if numAt s = s.size ∧ e = false then some ((⟨#[]⟩ : ByteArray), 0, false)
     else if numAt s = numFrom s then some ((⟨#[]⟩ : ByteArray), 0, true)
     else (charref_Number.f k (s.extract (numFrom s) (numAt s)) (numHex s)).bind fun n =>
       some (Utf8.encode n.1, ((if numAt s < s.size ∧ bt s (numAt s : Nat) = 59 then numAt s + 1 else numAt s : Nat) : Int), true))
  else none
theorem charref_numeric.mono : ∀ s e k, LeO (charref_numeric.f k s e) (charref_numeric.f (k + 1) s e) := by
  intro s e k
  unfold charref_numeric.f
  repeat' first
      | (with_reducible exact charref_Number.mono _ _ _)
      | (with_reducible exact LeO.refl _)
      | (with_reducible exact LeO.none _)
      | (with_reducible refine LeO.ite ?_ ?_)
      | (with_reducible refine LeO.bind ?_ (fun _ => ?_))

theorem nDig_at (s : ByteArray) (hex : Bool) (p : Nat) (h : p < s.size) :
    p + nDig hex (s.data.toList.drop p) = if isDig hex (s.data.toList.getD p 0) = true then (p + 1) + nDig hex (s.data.toList.drop (p + 1)) else p := by
  have hl : p < s.data.toList.length := by simpa using h
  rw [List.drop_eq_getElem_cons hl]
  have : s.data.toList.getD p 0 = s.data.toList[p] := by rw [List.getD_eq_getElem?_getD, List.getElem?_eq_getElem hl]; rfl
  rw [this]
  show p + (if isDig hex s.data.toList[p] = true then nDig hex (s.data.toList.drop (p + 1)) + 1 else 0) = _
  split <;> omega
theorem bt_list (s : ByteArray) (p : Nat) (h : p < s.size) : bt s (p : Int) = ((s.data.toList.getD p 0).toNat : Int) := by
  have hl : p < s.data.toList.length := by simpa using h
  have : s.data.toList.getD p 0 = s.data.toList[p] := by rw [List.getD_eq_getElem?_getD, List.getElem?_eq_getElem hl]; rfl
  rw [this]
  unfold bt
  simp only [Int.toNat_natCast]
  rw [dif_pos h]
  rfl

/-! ### the walk -/
theorem scope_pass {P : Program} {a : Act} {w : World} {Q : Exit → Act → World → Prop} {c rest : Code} (l : Nat) (J : Act → World → Prop) (μ : Act → World → Nat) (hf : findLabel c l = some (Code.skip.seq rest))
    (pass : ∀ a w, J a w → rest.wp P (Exit.jump l (fun a' w' => J a' w' ∧ μ a' w' < μ a w) Q) a w)
    (first : (∀ a w, J a w → rest.wp P (Exit.jump l J Q) a w) → c.wp P (Exit.jump l J Q) a w) : (Code.scope c).wp P Q a w := by
  refine wp_scope_jumps l J μ hf (first fun a w hJ => wp_mono (pass a w hJ) ?_) (fun a w hJ => wp_seq (wp_skip (pass a w hJ)))
  intro e a' w' h
  cases e <;> first | exact h | exact ⟨h.1, h.2.1⟩
def numF (s : ByteArray) (e : Bool) (gb : Nat) (hex : Bool) (q : Nat) (u : Nat → Value) (p : Nat) : Act := { tmps := List.toArray (.string s :: .bool e :: u 2 :: u 3 :: .pointer (some ⟨gb, 0, none⟩) :: .int .i64 (p : Nat) :: .bool hex :: .int .i64 (q : Nat) :: u 8 :: u 9 :: u 10 :: u 11 :: u 12 :: u 13 :: u 14 :: u 15 :: u 16 :: u 17 :: u 18 :: u 19 :: u 20 :: u 21 :: u 22 :: u 23 :: u 24 :: u 25 :: u 26 :: u 27 :: u 28 :: u 29 :: u 30 :: u 31 :: u 32 :: u 33 :: u 34 :: u 35 :: u 36 :: u 37 :: u 38 :: u 39 :: u 40 :: u 41 :: u 42 :: u 43 :: u 44 :: u 45 :: u 46 :: u 47 :: u 48 :: u 49 :: u 50 :: u 51 :: u 52 :: u 53 :: u 54 :: u 55 :: u 56 :: u 57 :: u 58 :: u 59 :: u 60 :: u 61 :: u 62 :: u 63 :: u 64 :: u 65 :: u 66 :: u 67 :: u 68 :: u 69 :: u 70 :: u 71 :: u 72 :: u 73 :: u 74 :: u 75 :: u 76 :: u 77 :: u 78 :: u 79 :: u 80 :: u 81 :: u 82 :: u 83 :: u 84 :: u 85 :: u 86 :: u 87 :: []), defers := [] }
def numJ (s : ByteArray) (e : Bool) (gb : Nat) (w : World) (a : Act) (W : World) : Prop :=
  ∃ (p : Nat) (u : Nat → Value), a = numF s e gb (numHex s) (numFrom s) u p ∧ Aside0 (p ≤ s.size ∧ s.size ≠ 1) ∧ Aside0 (p + nDig (numHex s) (s.data.toList.drop p) = numAt s) ∧
    Aside0 (W.heap[gb]? = some (.cells #[.string (⟨#[]⟩ : ByteArray), .int .i64 0, .bool false] 88 (0, 0))) ∧ Aside0 (Below w.heap.size w W)
theorem numJ_of {s : ByteArray} {e : Bool} {gb : Nat} {w : World} {a : Act} {W : World} (p : Nat) (h : a = numF s e gb (numHex s) (numFrom s) (fun i => a.tmps.getD i undef) p) (h1 : p ≤ s.size ∧ s.size ≠ 1) (h2 : p + nDig (numHex s) (s.data.toList.drop p) = numAt s)
    (h3 : W.heap[gb]? = some (.cells #[.string (⟨#[]⟩ : ByteArray), .int .i64 0, .bool false] 88 (0, 0))) (h4 : Below w.heap.size w W) : numJ s e gb w a W :=
  ⟨p, _, h, ⟨h1⟩, ⟨h2⟩, ⟨h3⟩, ⟨h4⟩⟩
set_option maxRecDepth 100000 in
set_option maxHeartbeats 8000000 in
theorem charref_numeric.calls (k : Nat) (s : ByteArray) (e : Bool) (r1 : ByteArray) (r2 : Int) (r3 : Bool) (w : World) (h : charref_numeric.f k s e = some (r1, r2, r3)) :
    Calls Try.prog 78 #[.string s, .bool e] w fun e w' => e = .returned (.agg #[.string r1, .int .i64 r2, .bool r3]) ∧ Below w.heap.size w w' := by
  unfold charref_numeric.f at h
  by_cases hsz : s.size ≤ 35184372088831 ∧ 1 ≤ s.size
  case neg => rw [if_neg hsz] at h; cases h
  rw [if_pos hsz] at h
  obtain ⟨hs1, hs2⟩ := hsz
  have HH := Aside0.mk h
  clear h
  have hu60 := Try.underlying88
  have HB := Aside0.mk (Below.refl w.heap.size w)
  go_enter Try.func78, Try.ntmps78
  go_wp2_with (first | ((with_reducible refine gate_dst (N := 4) rfl ?_); refine box_event ?hg (N := 4) ?hd (cs := #[.string (⟨#[]⟩ : ByteArray), .int .i64 0, .bool false]) (t := 88) ?hr ?_; (case hd => rfl); (case hg => rfl); (case hr => first | (go_simp; done) | (go_simp; rfl)); intro gb hg w5 hbox hb; have n0_ := Aside0.mk (below_step (by repeat (first | (with_reducible first | exact HB.out | apply below_alloc | apply pw_below_drewN | apply below_drew1) | exact HB.out)) hb); have n1_ := Aside0.mk (hbox); have n2_ := Aside0.mk ((by rw [hg]; exact (below_size (by repeat (first | (with_reducible first | exact HB.out | apply below_alloc | apply pw_below_drewN | apply below_drew1) | exact HB.out))) : w.heap.size ≤ gb)); clear HB; have HB := n0_; have BK := n1_; have GW := n2_; clear n0_ n1_ n2_; clear hb hbox hg))
  refine scope_pass 0 (numJ s e gb w) (fun a _ => s.size - (intOf (a.tmps.getD 5 undef)).toNat) rfl ?pass ?first
  case pass =>
    rintro a W ⟨p, u, rfl, hp, hnd, BK', HB'⟩
    unfold numF
    refine wp_seq_k ?_
    intro K hK
    cases hh : numHex s with
    | true =>
      have HX := Aside0.mk hh
      clear hh
      go_cut [5] (fun v5 wc => v5 = .int .i64 (p : Nat) ∧ Aside0 (p = numAt s) ∧ Aside0 (wc.heap[gb]? = some (.cells #[.string (⟨#[]⟩ : ByteArray), .int .i64 0, .bool false] 88 (0, 0))) ∧ Aside0 (Below w.heap.size w wc))
      case first =>
        by_cases hlt : p < s.size
        · have hx0 : ∀ h : p < s.size, ((s[p]'h).toNat : Int) = bt s (p : Int) := bt_at s (p : Int)
          have hl1 : ((p : Int) < (s.size : Int)) = True := eq_true (by omega)
          have hl2 : ((0 : Int) ≤ (p : Int)) = True := eq_true (by omega)
          have hb := bt_list s p hlt
          have hnd1 := nDig_at s (numHex s) p hlt
          have hw1 : IntKind.i64.wrap ((p : Int) + 1) = ((p + 1 : Nat) : Int) := by rw [IntWalk.i64_in _ (by omega)]; omega
          have hval : names_Value.f 9 (wrap32 (bt s (p : Int))) = some (digV (s.data.toList.getD p 0).toNat) := by rw [hb]; exact digV_all ⟨_, UInt8.toNat_lt _⟩
          have hdig : isDig (numHex s) (s.data.toList.getD p 0) = (decide (0 ≤ digV (s.data.toList.getD p 0).toNat) && (numHex s || decide (digV (s.data.toList.getD p 0).toNat < 10))) := rfl
          generalize digV (s.data.toList.getD p 0).toNat = v at hval hdig
          have HVAL := Aside0.mk hval
          have HND1 := Aside0.mk hnd1
          have HDIG := Aside0.mk hdig
          clear hval hnd1 hdig hb
          by_cases cv : 0 ≤ v
          · have cv1 : decide (v ≥ 0) = true := decide_eq_true cv
            have cv2 : decide (0 ≤ v) = true := decide_eq_true cv
            have hd : isDig (numHex s) (s.data.toList.getD p 0) = true := by rw [HDIG.out, cv2, HX.out]; rfl
            have hpp := HND1.out
            rw [if_pos hd] at hpp
            have HPP := Aside0.mk hpp
            clear hpp hd
            go_wp2_with (go_at_call 82; refine (names_Value.calls 9 (wrap32 (bt s (p : Int))) v _ HVAL.out).mono ?_; rintro e1 w' ⟨rfl, ⟨nd, rfl⟩⟩)
            go_step3
            refine ⟨rfl, ?_, ?_⟩
            · refine numJ_of (p + 1) ?_ ⟨by omega, hp.out.2⟩ ?_ BK'.out (pw_below_drewN HB'.out nd)
              · rw [HX.out]
                rfl
              · rw [← hnd.out, HPP.out]
            · simp [intOf]
              omega
          · have cv1 : decide (v ≥ 0) = false := decide_eq_false cv
            have cv2 : decide (0 ≤ v) = false := decide_eq_false cv
            have hd : isDig (numHex s) (s.data.toList.getD p 0) = false := by rw [HDIG.out, cv2, Bool.false_and]
            have hpp := HND1.out
            rw [hd, if_neg (by decide), hnd.out] at hpp
            have HPE := Aside0.mk hpp.symm
            clear hpp hd
            go_wp2_with (go_at_call 82; refine (names_Value.calls 9 (wrap32 (bt s (p : Int))) v _ HVAL.out).mono ?_; rintro e1 w' ⟨rfl, ⟨nd, rfl⟩⟩)
            go_meet
            case rel => exact ⟨rfl, ⟨HPE.out⟩, ⟨BK'.out⟩, ⟨pw_below_drewN HB'.out nd⟩⟩
        · have hpe : p = s.size := by have := hp.out.1; omega
          have hpp := hnd.out
          rw [hpe, List.drop_eq_nil_of_le (by simp), nDig] at hpp
          have HPE := Aside0.mk ((hpe.trans hpp : p = numAt s))
          clear hpp hpe
          have hl1 : ((p : Int) < (s.size : Int)) = False := eq_false (by omega)
          go_wp2
          go_meet
          case rel => exact ⟨rfl, ⟨HPE.out⟩, BK', HB'⟩
      case rest =>
        obtain ⟨rfl, hpe, BK2, HB2⟩ := hcut
        have hpe := hpe.out
        have hp := hp.out
        subst hpe
        have HH' := HH.out
        rw [if_neg hp.2] at HH'
        clear HH
        refine hK _ _ ?_
        by_cases c1 : numAt s = s.size
        · have k1 : ((numAt s : Int) == (s.size : Int)) = true := beq_iff_eq.2 (by omega)
          have k3 : ((numAt s : Int) < (s.size : Int)) = False := eq_false (by omega)
          cases e with
          | false =>
            rw [if_pos ⟨c1, rfl⟩] at HH'
            simp only [Option.some.injEq, Prod.mk.injEq] at HH'
            obtain ⟨rfl, rfl, rfl⟩ := HH'
            clear c1
            have hcz0 : wc.cell? ⟨gb, 0, none⟩ = some (.string (⟨#[]⟩ : ByteArray)) := (blk_cell BK2.out 0).trans rfl
            have hcz1 : wc.cell? ⟨gb, 1, none⟩ = some (.int .i64 0) := (blk_cell BK2.out 1).trans rfl
            have hcz2 : wc.cell? ⟨gb, 2, none⟩ = some (.bool false) := (blk_cell BK2.out 2).trans rfl
            have hfz0 := blk_frozen BK2.out 0
            have hfz1 := blk_frozen BK2.out 1
            have hfz2 := blk_frozen BK2.out 2
            go_wp2
            (try simp only [Exit.jump])
            refine bodyPost_ret (results_cell_row rfl _ _ gb 88 #[.string (⟨#[]⟩ : ByteArray), .int .i64 0, .bool false] (0, 0) _ rfl (by (with_reducible repeat (first | refine blk_drewN ?_ _ | refine blk_drew ?_ | refine blk_alloc ?_ _)); refine blk_put (cs := #[.string (⟨#[]⟩ : ByteArray), .int .i64 0, .bool false]) ?_ 2 _ rfl; (with_reducible repeat (first | refine blk_drewN ?_ _ | refine blk_drew ?_ | refine blk_alloc ?_ _)); refine blk_put (cs := #[.string (⟨#[]⟩ : ByteArray), .int .i64 0, .bool false]) ?_ 1 _ rfl; (with_reducible repeat (first | refine blk_drewN ?_ _ | refine blk_drew ?_ | refine blk_alloc ?_ _)); refine blk_put (cs := #[.string (⟨#[]⟩ : ByteArray), .int .i64 0, .bool false]) ?_ 0 _ rfl; (with_reducible repeat (first | refine blk_drewN ?_ _ | refine blk_drew ?_ | refine blk_alloc ?_ _)); exact BK2.out) Try.underlying88 rfl (by kernel_rfl)) rfl ?_
            exact ⟨rfl, by repeat (first | (with_reducible first | exact HB2.out | apply below_alloc | apply pw_below_drewN | apply below_drew1 | refine below_set ?_ GW.out) | exact HB2.out)⟩
          | true =>
            rw [if_neg (by rintro ⟨_, h⟩; cases h)] at HH'
            by_cases c2 : numAt s = numFrom s
            · have k4 : ((numAt s : Int) == (numFrom s : Int)) = true := beq_iff_eq.2 (by omega)
              rw [if_pos c2] at HH'
              simp only [Option.some.injEq, Prod.mk.injEq] at HH'
              obtain ⟨rfl, rfl, rfl⟩ := HH'
              clear c2
              have hcz0 : wc.cell? ⟨gb, 0, none⟩ = some (.string (⟨#[]⟩ : ByteArray)) := (blk_cell BK2.out 0).trans rfl
              have hcz1 : wc.cell? ⟨gb, 1, none⟩ = some (.int .i64 0) := (blk_cell BK2.out 1).trans rfl
              have hcz2 : wc.cell? ⟨gb, 2, none⟩ = some (.bool false) := (blk_cell BK2.out 2).trans rfl
              have hfz0 := blk_frozen BK2.out 0
              have hfz1 := blk_frozen BK2.out 1
              have hfz2 := blk_frozen BK2.out 2
              go_wp2
              (try simp only [Exit.jump])
              refine bodyPost_ret (results_cell_row rfl _ _ gb 88 #[.string (⟨#[]⟩ : ByteArray), .int .i64 0, .bool true] (0, 0) _ rfl (by (with_reducible repeat (first | refine blk_drewN ?_ _ | refine blk_drew ?_ | refine blk_alloc ?_ _)); refine blk_put (cs := #[.string (⟨#[]⟩ : ByteArray), .int .i64 0, .bool false]) ?_ 2 _ rfl; (with_reducible repeat (first | refine blk_drewN ?_ _ | refine blk_drew ?_ | refine blk_alloc ?_ _)); refine blk_put (cs := #[.string (⟨#[]⟩ : ByteArray), .int .i64 0, .bool false]) ?_ 1 _ rfl; (with_reducible repeat (first | refine blk_drewN ?_ _ | refine blk_drew ?_ | refine blk_alloc ?_ _)); refine blk_put (cs := #[.string (⟨#[]⟩ : ByteArray), .int .i64 0, .bool false]) ?_ 0 _ rfl; (with_reducible repeat (first | refine blk_drewN ?_ _ | refine blk_drew ?_ | refine blk_alloc ?_ _)); exact BK2.out) Try.underlying88 rfl (by kernel_rfl)) rfl ?_
              exact ⟨rfl, by repeat (first | (with_reducible first | exact HB2.out | apply below_alloc | apply pw_below_drewN | apply below_drew1 | refine below_set ?_ GW.out) | exact HB2.out)⟩
            · have k4 : ((numAt s : Int) == (numFrom s : Int)) = false := beq_eq_false_iff_ne.2 (by omega)
              rw [if_neg c2, HX.out] at HH'
              obtain ⟨⟨n1, n2⟩, hN, heq⟩ := Option.bind_eq_some_iff.1 HH'
              clear HH' c2
              have HN := Aside0.mk hN
              clear hN
              simp only [Option.some.injEq, Prod.mk.injEq] at heq
              obtain ⟨rfl, he2, rfl⟩ := heq
              have hfa : numFrom s ≤ numAt s := by unfold numAt; omega
              have j1 : ((0 : Int) ≤ (numFrom s : Int)) = True := eq_true (by omega)
              have j2 : ((numFrom s : Int) ≤ (numAt s : Int)) = True := eq_true (by omega)
              have j3 : ((numAt s : Int) ≤ (s.size : Int)) = True := eq_true (by omega)
              have hat : ((if numAt s < s.size ∧ bt s (numAt s : Nat) = 59 then numAt s + 1 else numAt s : Nat) : Int) = (numAt s : Int) := by rw [if_neg (fun h => absurd h.1 (by omega))]
              rw [hat] at he2
              subst he2
              clear hat c1
              go_wp2_with (go_at_call 83; refine (charref_Number.calls k (s.extract (numFrom s) (numAt s)) true n1 n2 _ HN.out).mono ?_; rintro e1 w7 ⟨rfl, hb⟩; have BK3 := Aside0.mk (blk_below (g := gb) (o := .cells #[.string (⟨#[]⟩ : ByteArray), .int .i64 0, .bool false] 88 (0, 0)) BK2.out hb); have HB3 := Aside0.mk (below_step HB2.out hb); clear hb; have hcz0 : w7.cell? ⟨gb, 0, none⟩ = some (.string (⟨#[]⟩ : ByteArray)) := (blk_cell BK3.out 0).trans rfl; have hcz1 : w7.cell? ⟨gb, 1, none⟩ = some (.int .i64 0) := (blk_cell BK3.out 1).trans rfl; have hcz2 : w7.cell? ⟨gb, 2, none⟩ = some (.bool false) := (blk_cell BK3.out 2).trans rfl; have hfz0 := blk_frozen BK3.out 0; have hfz1 := blk_frozen BK3.out 1; have hfz2 := blk_frozen BK3.out 2)
              (try simp only [Exit.jump])
              refine bodyPost_ret (results_cell_row rfl _ _ gb 88 #[.string (Utf8.encode n1), .int .i64 ((numAt s : Nat) : Int), .bool true] (0, 0) _ rfl (by (with_reducible repeat (first | refine blk_drewN ?_ _ | refine blk_drew ?_ | refine blk_alloc ?_ _)); refine blk_put (cs := #[.string (Utf8.encode n1), .int .i64 ((numAt s : Nat) : Int), .bool false]) ?_ 2 _ rfl; (with_reducible repeat (first | refine blk_drewN ?_ _ | refine blk_drew ?_ | refine blk_alloc ?_ _)); refine blk_put (cs := #[.string (Utf8.encode n1), .int .i64 0, .bool false]) ?_ 1 _ rfl; (with_reducible repeat (first | refine blk_drewN ?_ _ | refine blk_drew ?_ | refine blk_alloc ?_ _)); refine blk_put (cs := #[.string (⟨#[]⟩ : ByteArray), .int .i64 0, .bool false]) ?_ 0 _ rfl; (with_reducible repeat (first | refine blk_drewN ?_ _ | refine blk_drew ?_ | refine blk_alloc ?_ _)); exact BK3.out) Try.underlying88 rfl (by kernel_rfl)) rfl ?_
              exact ⟨rfl, by repeat (first | (with_reducible first | exact HB3.out | apply below_alloc | apply pw_below_drewN | apply below_drew1 | refine below_set ?_ GW.out) | exact HB3.out)⟩
        · have k1 : ((numAt s : Int) == (s.size : Int)) = false := beq_eq_false_iff_ne.2 (by omega)
          have k3 : ((numAt s : Int) < (s.size : Int)) = True := eq_true (by omega)
          have k3' : (numAt s < s.size) = True := eq_true (by omega)
          rw [if_neg (fun h => c1 h.1)] at HH'
          by_cases c2 : numAt s = numFrom s
          · have k4 : ((numAt s : Int) == (numFrom s : Int)) = true := beq_iff_eq.2 (by omega)
            rw [if_pos c2] at HH'
            simp only [Option.some.injEq, Prod.mk.injEq] at HH'
            obtain ⟨rfl, rfl, rfl⟩ := HH'
            clear c2
            have hcz0 : wc.cell? ⟨gb, 0, none⟩ = some (.string (⟨#[]⟩ : ByteArray)) := (blk_cell BK2.out 0).trans rfl
            have hcz1 : wc.cell? ⟨gb, 1, none⟩ = some (.int .i64 0) := (blk_cell BK2.out 1).trans rfl
            have hcz2 : wc.cell? ⟨gb, 2, none⟩ = some (.bool false) := (blk_cell BK2.out 2).trans rfl
            have hfz0 := blk_frozen BK2.out 0
            have hfz1 := blk_frozen BK2.out 1
            have hfz2 := blk_frozen BK2.out 2
            go_wp2
            (try simp only [Exit.jump])
            refine bodyPost_ret (results_cell_row rfl _ _ gb 88 #[.string (⟨#[]⟩ : ByteArray), .int .i64 0, .bool true] (0, 0) _ rfl (by (with_reducible repeat (first | refine blk_drewN ?_ _ | refine blk_drew ?_ | refine blk_alloc ?_ _)); refine blk_put (cs := #[.string (⟨#[]⟩ : ByteArray), .int .i64 0, .bool false]) ?_ 2 _ rfl; (with_reducible repeat (first | refine blk_drewN ?_ _ | refine blk_drew ?_ | refine blk_alloc ?_ _)); refine blk_put (cs := #[.string (⟨#[]⟩ : ByteArray), .int .i64 0, .bool false]) ?_ 1 _ rfl; (with_reducible repeat (first | refine blk_drewN ?_ _ | refine blk_drew ?_ | refine blk_alloc ?_ _)); refine blk_put (cs := #[.string (⟨#[]⟩ : ByteArray), .int .i64 0, .bool false]) ?_ 0 _ rfl; (with_reducible repeat (first | refine blk_drewN ?_ _ | refine blk_drew ?_ | refine blk_alloc ?_ _)); exact BK2.out) Try.underlying88 rfl (by kernel_rfl)) rfl ?_
            exact ⟨rfl, by repeat (first | (with_reducible first | exact HB2.out | apply below_alloc | apply pw_below_drewN | apply below_drew1 | refine below_set ?_ GW.out) | exact HB2.out)⟩
          · have k4 : ((numAt s : Int) == (numFrom s : Int)) = false := beq_eq_false_iff_ne.2 (by omega)
            rw [if_neg c2, HX.out] at HH'
            obtain ⟨⟨n1, n2⟩, hN, heq⟩ := Option.bind_eq_some_iff.1 HH'
            clear HH' c2
            have HN := Aside0.mk hN
            clear hN
            simp only [Option.some.injEq, Prod.mk.injEq] at heq
            obtain ⟨rfl, he2, rfl⟩ := heq
            have hfa : numFrom s ≤ numAt s := by unfold numAt; omega
            have j1 : ((0 : Int) ≤ (numFrom s : Int)) = True := eq_true (by omega)
            have j2 : ((numFrom s : Int) ≤ (numAt s : Int)) = True := eq_true (by omega)
            have j3 : ((numAt s : Int) ≤ (s.size : Int)) = True := eq_true (by omega)
            have hx0 : ∀ h : numAt s < s.size, ((s[numAt s]'h).toNat : Int) = bt s (numAt s : Int) := bt_at s (numAt s : Int)
            have j4 : ((0 : Int) ≤ (numAt s : Int)) = True := eq_true (by omega)
            have hw2 : IntKind.i64.wrap ((numAt s : Int) + 1) = (numAt s : Int) + 1 := IntWalk.i64_in _ (by omega)
            by_cases c4 : bt s (numAt s : Int) = 59
            · have k5 : (bt s (numAt s : Int) == 59) = true := beq_iff_eq.2 c4
              have hat : ((if numAt s < s.size ∧ bt s (numAt s : Nat) = 59 then numAt s + 1 else numAt s : Nat) : Int) = (numAt s : Int) + 1 := by rw [if_pos ⟨by omega, c4⟩]; omega
              rw [hat] at he2
              subst he2
              clear hat
              go_wp2_with (go_at_call 83; refine (charref_Number.calls k (s.extract (numFrom s) (numAt s)) true n1 n2 _ HN.out).mono ?_; rintro e1 w7 ⟨rfl, hb⟩; have BK3 := Aside0.mk (blk_below (g := gb) (o := .cells #[.string (⟨#[]⟩ : ByteArray), .int .i64 0, .bool false] 88 (0, 0)) BK2.out hb); have HB3 := Aside0.mk (below_step HB2.out hb); clear hb; have hcz0 : w7.cell? ⟨gb, 0, none⟩ = some (.string (⟨#[]⟩ : ByteArray)) := (blk_cell BK3.out 0).trans rfl; have hcz1 : w7.cell? ⟨gb, 1, none⟩ = some (.int .i64 0) := (blk_cell BK3.out 1).trans rfl; have hcz2 : w7.cell? ⟨gb, 2, none⟩ = some (.bool false) := (blk_cell BK3.out 2).trans rfl; have hfz0 := blk_frozen BK3.out 0; have hfz1 := blk_frozen BK3.out 1; have hfz2 := blk_frozen BK3.out 2)
              (try simp only [Exit.jump])
              refine bodyPost_ret (results_cell_row rfl _ _ gb 88 #[.string (Utf8.encode n1), .int .i64 ((numAt s : Int) + 1), .bool true] (0, 0) _ rfl (by (with_reducible repeat (first | refine blk_drewN ?_ _ | refine blk_drew ?_ | refine blk_alloc ?_ _)); refine blk_put (cs := #[.string (Utf8.encode n1), .int .i64 ((numAt s : Int) + 1), .bool false]) ?_ 2 _ rfl; (with_reducible repeat (first | refine blk_drewN ?_ _ | refine blk_drew ?_ | refine blk_alloc ?_ _)); refine blk_put (cs := #[.string (Utf8.encode n1), .int .i64 0, .bool false]) ?_ 1 _ rfl; (with_reducible repeat (first | refine blk_drewN ?_ _ | refine blk_drew ?_ | refine blk_alloc ?_ _)); refine blk_put (cs := #[.string (⟨#[]⟩ : ByteArray), .int .i64 0, .bool false]) ?_ 0 _ rfl; (with_reducible repeat (first | refine blk_drewN ?_ _ | refine blk_drew ?_ | refine blk_alloc ?_ _)); exact BK3.out) Try.underlying88 rfl (by kernel_rfl)) rfl ?_
              exact ⟨rfl, by repeat (first | (with_reducible first | exact HB3.out | apply below_alloc | apply pw_below_drewN | apply below_drew1 | refine below_set ?_ GW.out) | exact HB3.out)⟩
            · have k5 : (bt s (numAt s : Int) == 59) = false := beq_eq_false_iff_ne.2 c4
              have hat : ((if numAt s < s.size ∧ bt s (numAt s : Nat) = 59 then numAt s + 1 else numAt s : Nat) : Int) = (numAt s : Int) := by rw [if_neg (fun h => c4 h.2)]
              rw [hat] at he2
              subst he2
              clear hat
              go_wp2_with (go_at_call 83; refine (charref_Number.calls k (s.extract (numFrom s) (numAt s)) true n1 n2 _ HN.out).mono ?_; rintro e1 w7 ⟨rfl, hb⟩; have BK3 := Aside0.mk (blk_below (g := gb) (o := .cells #[.string (⟨#[]⟩ : ByteArray), .int .i64 0, .bool false] 88 (0, 0)) BK2.out hb); have HB3 := Aside0.mk (below_step HB2.out hb); clear hb; have hcz0 : w7.cell? ⟨gb, 0, none⟩ = some (.string (⟨#[]⟩ : ByteArray)) := (blk_cell BK3.out 0).trans rfl; have hcz1 : w7.cell? ⟨gb, 1, none⟩ = some (.int .i64 0) := (blk_cell BK3.out 1).trans rfl; have hcz2 : w7.cell? ⟨gb, 2, none⟩ = some (.bool false) := (blk_cell BK3.out 2).trans rfl; have hfz0 := blk_frozen BK3.out 0; have hfz1 := blk_frozen BK3.out 1; have hfz2 := blk_frozen BK3.out 2)
              (try simp only [Exit.jump])
              refine bodyPost_ret (results_cell_row rfl _ _ gb 88 #[.string (Utf8.encode n1), .int .i64 ((numAt s : Nat) : Int), .bool true] (0, 0) _ rfl (by (with_reducible repeat (first | refine blk_drewN ?_ _ | refine blk_drew ?_ | refine blk_alloc ?_ _)); refine blk_put (cs := #[.string (Utf8.encode n1), .int .i64 ((numAt s : Nat) : Int), .bool false]) ?_ 2 _ rfl; (with_reducible repeat (first | refine blk_drewN ?_ _ | refine blk_drew ?_ | refine blk_alloc ?_ _)); refine blk_put (cs := #[.string (Utf8.encode n1), .int .i64 0, .bool false]) ?_ 1 _ rfl; (with_reducible repeat (first | refine blk_drewN ?_ _ | refine blk_drew ?_ | refine blk_alloc ?_ _)); refine blk_put (cs := #[.string (⟨#[]⟩ : ByteArray), .int .i64 0, .bool false]) ?_ 0 _ rfl; (with_reducible repeat (first | refine blk_drewN ?_ _ | refine blk_drew ?_ | refine blk_alloc ?_ _)); exact BK3.out) Try.underlying88 rfl (by kernel_rfl)) rfl ?_
              exact ⟨rfl, by repeat (first | (with_reducible first | exact HB3.out | apply below_alloc | apply pw_below_drewN | apply below_drew1 | refine below_set ?_ GW.out) | exact HB3.out)⟩
    | false =>
      have HX := Aside0.mk hh
      clear hh
      go_cut [5] (fun v5 wc => v5 = .int .i64 (p : Nat) ∧ Aside0 (p = numAt s) ∧ Aside0 (wc.heap[gb]? = some (.cells #[.string (⟨#[]⟩ : ByteArray), .int .i64 0, .bool false] 88 (0, 0))) ∧ Aside0 (Below w.heap.size w wc))
      case first =>
        by_cases hlt : p < s.size
        · have hx0 : ∀ h : p < s.size, ((s[p]'h).toNat : Int) = bt s (p : Int) := bt_at s (p : Int)
          have hl1 : ((p : Int) < (s.size : Int)) = True := eq_true (by omega)
          have hl2 : ((0 : Int) ≤ (p : Int)) = True := eq_true (by omega)
          have hb := bt_list s p hlt
          have hnd1 := nDig_at s (numHex s) p hlt
          have hw1 : IntKind.i64.wrap ((p : Int) + 1) = ((p + 1 : Nat) : Int) := by rw [IntWalk.i64_in _ (by omega)]; omega
          have hval : names_Value.f 9 (wrap32 (bt s (p : Int))) = some (digV (s.data.toList.getD p 0).toNat) := by rw [hb]; exact digV_all ⟨_, UInt8.toNat_lt _⟩
          have hdig : isDig (numHex s) (s.data.toList.getD p 0) = (decide (0 ≤ digV (s.data.toList.getD p 0).toNat) && (numHex s || decide (digV (s.data.toList.getD p 0).toNat < 10))) := rfl
          generalize digV (s.data.toList.getD p 0).toNat = v at hval hdig
          have HVAL := Aside0.mk hval
          have HND1 := Aside0.mk hnd1
          have HDIG := Aside0.mk hdig
          clear hval hnd1 hdig hb
          by_cases cv : 0 ≤ v
          · have cv1 : decide (v ≥ 0) = true := decide_eq_true cv
            have cv2 : decide (0 ≤ v) = true := decide_eq_true cv
            by_cases cx : v < 10
            · have cx1 : decide (v < 10) = true := decide_eq_true cx
              have hd : isDig (numHex s) (s.data.toList.getD p 0) = true := by rw [HDIG.out, cv2, HX.out, cx1]; rfl
              have hpp := HND1.out
              rw [if_pos hd] at hpp
              have HPP := Aside0.mk hpp
              clear hpp hd
              go_wp2_with (go_at_call 82; refine (names_Value.calls 9 (wrap32 (bt s (p : Int))) v _ HVAL.out).mono ?_; rintro e1 w' ⟨rfl, ⟨nd, rfl⟩⟩)
              go_step3
              refine ⟨rfl, ?_, ?_⟩
              · refine numJ_of (p + 1) ?_ ⟨by omega, hp.out.2⟩ ?_ BK'.out (pw_below_drewN HB'.out nd)
                · rw [HX.out]
                  rfl
                · rw [← hnd.out, HPP.out]
              · simp [intOf]
                omega
            · have cx1 : decide (v < 10) = false := decide_eq_false cx
              have hd : isDig (numHex s) (s.data.toList.getD p 0) = false := by rw [HDIG.out, cv2, HX.out, cx1]; rfl
              have hpp := HND1.out
              rw [hd, if_neg (by decide), hnd.out] at hpp
              have HPE := Aside0.mk hpp.symm
              clear hpp hd
              go_wp2_with (go_at_call 82; refine (names_Value.calls 9 (wrap32 (bt s (p : Int))) v _ HVAL.out).mono ?_; rintro e1 w' ⟨rfl, ⟨nd, rfl⟩⟩)
              go_meet
              case rel => exact ⟨rfl, ⟨HPE.out⟩, ⟨BK'.out⟩, ⟨pw_below_drewN HB'.out nd⟩⟩
          · have cv1 : decide (v ≥ 0) = false := decide_eq_false cv
            have cv2 : decide (0 ≤ v) = false := decide_eq_false cv
            have hd : isDig (numHex s) (s.data.toList.getD p 0) = false := by rw [HDIG.out, cv2, Bool.false_and]
            have hpp := HND1.out
            rw [hd, if_neg (by decide), hnd.out] at hpp
            have HPE := Aside0.mk hpp.symm
            clear hpp hd
            go_wp2_with (go_at_call 82; refine (names_Value.calls 9 (wrap32 (bt s (p : Int))) v _ HVAL.out).mono ?_; rintro e1 w' ⟨rfl, ⟨nd, rfl⟩⟩)
            go_meet
            case rel => exact ⟨rfl, ⟨HPE.out⟩, ⟨BK'.out⟩, ⟨pw_below_drewN HB'.out nd⟩⟩
        · have hpe : p = s.size := by have := hp.out.1; omega
          have hpp := hnd.out
          rw [hpe, List.drop_eq_nil_of_le (by simp), nDig] at hpp
          have HPE := Aside0.mk ((hpe.trans hpp : p = numAt s))
          clear hpp hpe
          have hl1 : ((p : Int) < (s.size : Int)) = False := eq_false (by omega)
          go_wp2
          go_meet
          case rel => exact ⟨rfl, ⟨HPE.out⟩, BK', HB'⟩
      case rest =>
        obtain ⟨rfl, hpe, BK2, HB2⟩ := hcut
        have hpe := hpe.out
        have hp := hp.out
        subst hpe
        have HH' := HH.out
        rw [if_neg hp.2] at HH'
        clear HH
        refine hK _ _ ?_
        by_cases c1 : numAt s = s.size
        · have k1 : ((numAt s : Int) == (s.size : Int)) = true := beq_iff_eq.2 (by omega)
          have k3 : ((numAt s : Int) < (s.size : Int)) = False := eq_false (by omega)
          cases e with
          | false =>
            rw [if_pos ⟨c1, rfl⟩] at HH'
            simp only [Option.some.injEq, Prod.mk.injEq] at HH'
            obtain ⟨rfl, rfl, rfl⟩ := HH'
            clear c1
            have hcz0 : wc.cell? ⟨gb, 0, none⟩ = some (.string (⟨#[]⟩ : ByteArray)) := (blk_cell BK2.out 0).trans rfl
            have hcz1 : wc.cell? ⟨gb, 1, none⟩ = some (.int .i64 0) := (blk_cell BK2.out 1).trans rfl
            have hcz2 : wc.cell? ⟨gb, 2, none⟩ = some (.bool false) := (blk_cell BK2.out 2).trans rfl
            have hfz0 := blk_frozen BK2.out 0
            have hfz1 := blk_frozen BK2.out 1
            have hfz2 := blk_frozen BK2.out 2
            go_wp2
            (try simp only [Exit.jump])
            refine bodyPost_ret (results_cell_row rfl _ _ gb 88 #[.string (⟨#[]⟩ : ByteArray), .int .i64 0, .bool false] (0, 0) _ rfl (by (with_reducible repeat (first | refine blk_drewN ?_ _ | refine blk_drew ?_ | refine blk_alloc ?_ _)); refine blk_put (cs := #[.string (⟨#[]⟩ : ByteArray), .int .i64 0, .bool false]) ?_ 2 _ rfl; (with_reducible repeat (first | refine blk_drewN ?_ _ | refine blk_drew ?_ | refine blk_alloc ?_ _)); refine blk_put (cs := #[.string (⟨#[]⟩ : ByteArray), .int .i64 0, .bool false]) ?_ 1 _ rfl; (with_reducible repeat (first | refine blk_drewN ?_ _ | refine blk_drew ?_ | refine blk_alloc ?_ _)); refine blk_put (cs := #[.string (⟨#[]⟩ : ByteArray), .int .i64 0, .bool false]) ?_ 0 _ rfl; (with_reducible repeat (first | refine blk_drewN ?_ _ | refine blk_drew ?_ | refine blk_alloc ?_ _)); exact BK2.out) Try.underlying88 rfl (by kernel_rfl)) rfl ?_
            exact ⟨rfl, by repeat (first | (with_reducible first | exact HB2.out | apply below_alloc | apply pw_below_drewN | apply below_drew1 | refine below_set ?_ GW.out) | exact HB2.out)⟩
          | true =>
            rw [if_neg (by rintro ⟨_, h⟩; cases h)] at HH'
            by_cases c2 : numAt s = numFrom s
            · have k4 : ((numAt s : Int) == (numFrom s : Int)) = true := beq_iff_eq.2 (by omega)
              rw [if_pos c2] at HH'
              simp only [Option.some.injEq, Prod.mk.injEq] at HH'
              obtain ⟨rfl, rfl, rfl⟩ := HH'
              clear c2
              have hcz0 : wc.cell? ⟨gb, 0, none⟩ = some (.string (⟨#[]⟩ : ByteArray)) := (blk_cell BK2.out 0).trans rfl
              have hcz1 : wc.cell? ⟨gb, 1, none⟩ = some (.int .i64 0) := (blk_cell BK2.out 1).trans rfl
              have hcz2 : wc.cell? ⟨gb, 2, none⟩ = some (.bool false) := (blk_cell BK2.out 2).trans rfl
              have hfz0 := blk_frozen BK2.out 0
              have hfz1 := blk_frozen BK2.out 1
              have hfz2 := blk_frozen BK2.out 2
              go_wp2
              (try simp only [Exit.jump])
              refine bodyPost_ret (results_cell_row rfl _ _ gb 88 #[.string (⟨#[]⟩ : ByteArray), .int .i64 0, .bool true] (0, 0) _ rfl (by (with_reducible repeat (first | refine blk_drewN ?_ _ | refine blk_drew ?_ | refine blk_alloc ?_ _)); refine blk_put (cs := #[.string (⟨#[]⟩ : ByteArray), .int .i64 0, .bool false]) ?_ 2 _ rfl; (with_reducible repeat (first | refine blk_drewN ?_ _ | refine blk_drew ?_ | refine blk_alloc ?_ _)); refine blk_put (cs := #[.string (⟨#[]⟩ : ByteArray), .int .i64 0, .bool false]) ?_ 1 _ rfl; (with_reducible repeat (first | refine blk_drewN ?_ _ | refine blk_drew ?_ | refine blk_alloc ?_ _)); refine blk_put (cs := #[.string (⟨#[]⟩ : ByteArray), .int .i64 0, .bool false]) ?_ 0 _ rfl; (with_reducible repeat (first | refine blk_drewN ?_ _ | refine blk_drew ?_ | refine blk_alloc ?_ _)); exact BK2.out) Try.underlying88 rfl (by kernel_rfl)) rfl ?_
              exact ⟨rfl, by repeat (first | (with_reducible first | exact HB2.out | apply below_alloc | apply pw_below_drewN | apply below_drew1 | refine below_set ?_ GW.out) | exact HB2.out)⟩
            · have k4 : ((numAt s : Int) == (numFrom s : Int)) = false := beq_eq_false_iff_ne.2 (by omega)
              rw [if_neg c2, HX.out] at HH'
              obtain ⟨⟨n1, n2⟩, hN, heq⟩ := Option.bind_eq_some_iff.1 HH'
              clear HH' c2
              have HN := Aside0.mk hN
              clear hN
              simp only [Option.some.injEq, Prod.mk.injEq] at heq
              obtain ⟨rfl, he2, rfl⟩ := heq
              have hfa : numFrom s ≤ numAt s := by unfold numAt; omega
              have j1 : ((0 : Int) ≤ (numFrom s : Int)) = True := eq_true (by omega)
              have j2 : ((numFrom s : Int) ≤ (numAt s : Int)) = True := eq_true (by omega)
              have j3 : ((numAt s : Int) ≤ (s.size : Int)) = True := eq_true (by omega)
              have hat : ((if numAt s < s.size ∧ bt s (numAt s : Nat) = 59 then numAt s + 1 else numAt s : Nat) : Int) = (numAt s : Int) := by rw [if_neg (fun h => absurd h.1 (by omega))]
              rw [hat] at he2
              subst he2
              clear hat c1
              go_wp2_with (go_at_call 83; refine (charref_Number.calls k (s.extract (numFrom s) (numAt s)) false n1 n2 _ HN.out).mono ?_; rintro e1 w7 ⟨rfl, hb⟩; have BK3 := Aside0.mk (blk_below (g := gb) (o := .cells #[.string (⟨#[]⟩ : ByteArray), .int .i64 0, .bool false] 88 (0, 0)) BK2.out hb); have HB3 := Aside0.mk (below_step HB2.out hb); clear hb; have hcz0 : w7.cell? ⟨gb, 0, none⟩ = some (.string (⟨#[]⟩ : ByteArray)) := (blk_cell BK3.out 0).trans rfl; have hcz1 : w7.cell? ⟨gb, 1, none⟩ = some (.int .i64 0) := (blk_cell BK3.out 1).trans rfl; have hcz2 : w7.cell? ⟨gb, 2, none⟩ = some (.bool false) := (blk_cell BK3.out 2).trans rfl; have hfz0 := blk_frozen BK3.out 0; have hfz1 := blk_frozen BK3.out 1; have hfz2 := blk_frozen BK3.out 2)
              (try simp only [Exit.jump])
              refine bodyPost_ret (results_cell_row rfl _ _ gb 88 #[.string (Utf8.encode n1), .int .i64 ((numAt s : Nat) : Int), .bool true] (0, 0) _ rfl (by (with_reducible repeat (first | refine blk_drewN ?_ _ | refine blk_drew ?_ | refine blk_alloc ?_ _)); refine blk_put (cs := #[.string (Utf8.encode n1), .int .i64 ((numAt s : Nat) : Int), .bool false]) ?_ 2 _ rfl; (with_reducible repeat (first | refine blk_drewN ?_ _ | refine blk_drew ?_ | refine blk_alloc ?_ _)); refine blk_put (cs := #[.string (Utf8.encode n1), .int .i64 0, .bool false]) ?_ 1 _ rfl; (with_reducible repeat (first | refine blk_drewN ?_ _ | refine blk_drew ?_ | refine blk_alloc ?_ _)); refine blk_put (cs := #[.string (⟨#[]⟩ : ByteArray), .int .i64 0, .bool false]) ?_ 0 _ rfl; (with_reducible repeat (first | refine blk_drewN ?_ _ | refine blk_drew ?_ | refine blk_alloc ?_ _)); exact BK3.out) Try.underlying88 rfl (by kernel_rfl)) rfl ?_
              exact ⟨rfl, by repeat (first | (with_reducible first | exact HB3.out | apply below_alloc | apply pw_below_drewN | apply below_drew1 | refine below_set ?_ GW.out) | exact HB3.out)⟩
        · have k1 : ((numAt s : Int) == (s.size : Int)) = false := beq_eq_false_iff_ne.2 (by omega)
          have k3 : ((numAt s : Int) < (s.size : Int)) = True := eq_true (by omega)
          have k3' : (numAt s < s.size) = True := eq_true (by omega)
          rw [if_neg (fun h => c1 h.1)] at HH'
          by_cases c2 : numAt s = numFrom s
          · have k4 : ((numAt s : Int) == (numFrom s : Int)) = true := beq_iff_eq.2 (by omega)
            rw [if_pos c2] at HH'
            simp only [Option.some.injEq, Prod.mk.injEq] at HH'
            obtain ⟨rfl, rfl, rfl⟩ := HH'
            clear c2
            have hcz0 : wc.cell? ⟨gb, 0, none⟩ = some (.string (⟨#[]⟩ : ByteArray)) := (blk_cell BK2.out 0).trans rfl
            have hcz1 : wc.cell? ⟨gb, 1, none⟩ = some (.int .i64 0) := (blk_cell BK2.out 1).trans rfl
            have hcz2 : wc.cell? ⟨gb, 2, none⟩ = some (.bool false) := (blk_cell BK2.out 2).trans rfl
            have hfz0 := blk_frozen BK2.out 0
            have hfz1 := blk_frozen BK2.out 1
            have hfz2 := blk_frozen BK2.out 2
            go_wp2
            (try simp only [Exit.jump])
            refine bodyPost_ret (results_cell_row rfl _ _ gb 88 #[.string (⟨#[]⟩ : ByteArray), .int .i64 0, .bool true] (0, 0) _ rfl (by (with_reducible repeat (first | refine blk_drewN ?_ _ | refine blk_drew ?_ | refine blk_alloc ?_ _)); refine blk_put (cs := #[.string (⟨#[]⟩ : ByteArray), .int .i64 0, .bool false]) ?_ 2 _ rfl; (with_reducible repeat (first | refine blk_drewN ?_ _ | refine blk_drew ?_ | refine blk_alloc ?_ _)); refine blk_put (cs := #[.string (⟨#[]⟩ : ByteArray), .int .i64 0, .bool false]) ?_ 1 _ rfl; (with_reducible repeat (first | refine blk_drewN ?_ _ | refine blk_drew ?_ | refine blk_alloc ?_ _)); refine blk_put (cs := #[.string (⟨#[]⟩ : ByteArray), .int .i64 0, .bool false]) ?_ 0 _ rfl; (with_reducible repeat (first | refine blk_drewN ?_ _ | refine blk_drew ?_ | refine blk_alloc ?_ _)); exact BK2.out) Try.underlying88 rfl (by kernel_rfl)) rfl ?_
            exact ⟨rfl, by repeat (first | (with_reducible first | exact HB2.out | apply below_alloc | apply pw_below_drewN | apply below_drew1 | refine below_set ?_ GW.out) | exact HB2.out)⟩
          · have k4 : ((numAt s : Int) == (numFrom s : Int)) = false := beq_eq_false_iff_ne.2 (by omega)
            rw [if_neg c2, HX.out] at HH'
            obtain ⟨⟨n1, n2⟩, hN, heq⟩ := Option.bind_eq_some_iff.1 HH'
            clear HH' c2
            have HN := Aside0.mk hN
            clear hN
            simp only [Option.some.injEq, Prod.mk.injEq] at heq
            obtain ⟨rfl, he2, rfl⟩ := heq
            have hfa : numFrom s ≤ numAt s := by unfold numAt; omega
            have j1 : ((0 : Int) ≤ (numFrom s : Int)) = True := eq_true (by omega)
            have j2 : ((numFrom s : Int) ≤ (numAt s : Int)) = True := eq_true (by omega)
            have j3 : ((numAt s : Int) ≤ (s.size : Int)) = True := eq_true (by omega)
            have hx0 : ∀ h : numAt s < s.size, ((s[numAt s]'h).toNat : Int) = bt s (numAt s : Int) := bt_at s (numAt s : Int)
            have j4 : ((0 : Int) ≤ (numAt s : Int)) = True := eq_true (by omega)
            have hw2 : IntKind.i64.wrap ((numAt s : Int) + 1) = (numAt s : Int) + 1 := IntWalk.i64_in _ (by omega)
            by_cases c4 : bt s (numAt s : Int) = 59
            · have k5 : (bt s (numAt s : Int) == 59) = true := beq_iff_eq.2 c4
              have hat : ((if numAt s < s.size ∧ bt s (numAt s : Nat) = 59 then numAt s + 1 else numAt s : Nat) : Int) = (numAt s : Int) + 1 := by rw [if_pos ⟨by omega, c4⟩]; omega
              rw [hat] at he2
              subst he2
              clear hat
              go_wp2_with (go_at_call 83; refine (charref_Number.calls k (s.extract (numFrom s) (numAt s)) false n1 n2 _ HN.out).mono ?_; rintro e1 w7 ⟨rfl, hb⟩; have BK3 := Aside0.mk (blk_below (g := gb) (o := .cells #[.string (⟨#[]⟩ : ByteArray), .int .i64 0, .bool false] 88 (0, 0)) BK2.out hb); have HB3 := Aside0.mk (below_step HB2.out hb); clear hb; have hcz0 : w7.cell? ⟨gb, 0, none⟩ = some (.string (⟨#[]⟩ : ByteArray)) := (blk_cell BK3.out 0).trans rfl; have hcz1 : w7.cell? ⟨gb, 1, none⟩ = some (.int .i64 0) := (blk_cell BK3.out 1).trans rfl; have hcz2 : w7.cell? ⟨gb, 2, none⟩ = some (.bool false) := (blk_cell BK3.out 2).trans rfl; have hfz0 := blk_frozen BK3.out 0; have hfz1 := blk_frozen BK3.out 1; have hfz2 := blk_frozen BK3.out 2)
              (try simp only [Exit.jump])
              refine bodyPost_ret (results_cell_row rfl _ _ gb 88 #[.string (Utf8.encode n1), .int .i64 ((numAt s : Int) + 1), .bool true] (0, 0) _ rfl (by (with_reducible repeat (first | refine blk_drewN ?_ _ | refine blk_drew ?_ | refine blk_alloc ?_ _)); refine blk_put (cs := #[.string (Utf8.encode n1), .int .i64 ((numAt s : Int) + 1), .bool false]) ?_ 2 _ rfl; (with_reducible repeat (first | refine blk_drewN ?_ _ | refine blk_drew ?_ | refine blk_alloc ?_ _)); refine blk_put (cs := #[.string (Utf8.encode n1), .int .i64 0, .bool false]) ?_ 1 _ rfl; (with_reducible repeat (first | refine blk_drewN ?_ _ | refine blk_drew ?_ | refine blk_alloc ?_ _)); refine blk_put (cs := #[.string (⟨#[]⟩ : ByteArray), .int .i64 0, .bool false]) ?_ 0 _ rfl; (with_reducible repeat (first | refine blk_drewN ?_ _ | refine blk_drew ?_ | refine blk_alloc ?_ _)); exact BK3.out) Try.underlying88 rfl (by kernel_rfl)) rfl ?_
              exact ⟨rfl, by repeat (first | (with_reducible first | exact HB3.out | apply below_alloc | apply pw_below_drewN | apply below_drew1 | refine below_set ?_ GW.out) | exact HB3.out)⟩
            · have k5 : (bt s (numAt s : Int) == 59) = false := beq_eq_false_iff_ne.2 c4
              have hat : ((if numAt s < s.size ∧ bt s (numAt s : Nat) = 59 then numAt s + 1 else numAt s : Nat) : Int) = (numAt s : Int) := by rw [if_neg (fun h => c4 h.2)]
              rw [hat] at he2
              subst he2
              clear hat
              go_wp2_with (go_at_call 83; refine (charref_Number.calls k (s.extract (numFrom s) (numAt s)) false n1 n2 _ HN.out).mono ?_; rintro e1 w7 ⟨rfl, hb⟩; have BK3 := Aside0.mk (blk_below (g := gb) (o := .cells #[.string (⟨#[]⟩ : ByteArray), .int .i64 0, .bool false] 88 (0, 0)) BK2.out hb); have HB3 := Aside0.mk (below_step HB2.out hb); clear hb; have hcz0 : w7.cell? ⟨gb, 0, none⟩ = some (.string (⟨#[]⟩ : ByteArray)) := (blk_cell BK3.out 0).trans rfl; have hcz1 : w7.cell? ⟨gb, 1, none⟩ = some (.int .i64 0) := (blk_cell BK3.out 1).trans rfl; have hcz2 : w7.cell? ⟨gb, 2, none⟩ = some (.bool false) := (blk_cell BK3.out 2).trans rfl; have hfz0 := blk_frozen BK3.out 0; have hfz1 := blk_frozen BK3.out 1; have hfz2 := blk_frozen BK3.out 2)
              (try simp only [Exit.jump])
              refine bodyPost_ret (results_cell_row rfl _ _ gb 88 #[.string (Utf8.encode n1), .int .i64 ((numAt s : Nat) : Int), .bool true] (0, 0) _ rfl (by (with_reducible repeat (first | refine blk_drewN ?_ _ | refine blk_drew ?_ | refine blk_alloc ?_ _)); refine blk_put (cs := #[.string (Utf8.encode n1), .int .i64 ((numAt s : Nat) : Int), .bool false]) ?_ 2 _ rfl; (with_reducible repeat (first | refine blk_drewN ?_ _ | refine blk_drew ?_ | refine blk_alloc ?_ _)); refine blk_put (cs := #[.string (Utf8.encode n1), .int .i64 0, .bool false]) ?_ 1 _ rfl; (with_reducible repeat (first | refine blk_drewN ?_ _ | refine blk_drew ?_ | refine blk_alloc ?_ _)); refine blk_put (cs := #[.string (⟨#[]⟩ : ByteArray), .int .i64 0, .bool false]) ?_ 0 _ rfl; (with_reducible repeat (first | refine blk_drewN ?_ _ | refine blk_drew ?_ | refine blk_alloc ?_ _)); exact BK3.out) Try.underlying88 rfl (by kernel_rfl)) rfl ?_
              exact ⟨rfl, by repeat (first | (with_reducible first | exact HB3.out | apply below_alloc | apply pw_below_drewN | apply below_drew1 | refine below_set ?_ GW.out) | exact HB3.out)⟩
  case first =>
    intro PASS
    have PASS' := Aside0.mk PASS
    clear PASS
    by_cases h1 : s.size = 1
    · have HH' := HH.out
      rw [if_pos h1] at HH'
      simp only [Option.some.injEq, Prod.mk.injEq] at HH'
      obtain ⟨rfl, rfl, rfl⟩ := HH'
      clear HH
      have hcz0 : w5.cell? ⟨gb, 0, none⟩ = some (.string (⟨#[]⟩ : ByteArray)) := (blk_cell BK.out 0).trans rfl
      have hcz1 : w5.cell? ⟨gb, 1, none⟩ = some (.int .i64 0) := (blk_cell BK.out 1).trans rfl
      have hcz2 : w5.cell? ⟨gb, 2, none⟩ = some (.bool false) := (blk_cell BK.out 2).trans rfl
      have hfz0 := blk_frozen BK.out 0
      have hfz1 := blk_frozen BK.out 1
      have hfz2 := blk_frozen BK.out 2
      have hk : ((1 : Int) == (s.size : Int)) = true := beq_iff_eq.2 (by omega)
      go_wp2
      (try simp only [Exit.jump])
      refine bodyPost_ret (results_cell_row rfl _ _ gb 88 #[.string (⟨#[]⟩ : ByteArray), .int .i64 0, .bool e] (0, 0) _ rfl (by (with_reducible repeat (first | refine blk_drewN ?_ _ | refine blk_drew ?_ | refine blk_alloc ?_ _)); refine blk_put (cs := #[.string (⟨#[]⟩ : ByteArray), .int .i64 0, .bool false]) ?_ 2 _ rfl; (with_reducible repeat (first | refine blk_drewN ?_ _ | refine blk_drew ?_ | refine blk_alloc ?_ _)); refine blk_put (cs := #[.string (⟨#[]⟩ : ByteArray), .int .i64 0, .bool false]) ?_ 1 _ rfl; (with_reducible repeat (first | refine blk_drewN ?_ _ | refine blk_drew ?_ | refine blk_alloc ?_ _)); refine blk_put (cs := #[.string (⟨#[]⟩ : ByteArray), .int .i64 0, .bool false]) ?_ 0 _ rfl; (with_reducible repeat (first | refine blk_drewN ?_ _ | refine blk_drew ?_ | refine blk_alloc ?_ _)); exact BK.out) Try.underlying88 rfl (by kernel_rfl)) rfl ?_
      exact ⟨rfl, by repeat (first | (with_reducible first | exact HB.out | apply below_alloc | apply pw_below_drewN | apply below_drew1 | refine below_set ?_ GW.out) | exact HB.out)⟩
    · have hk : ((1 : Int) == (s.size : Int)) = false := beq_eq_false_iff_ne.2 (by omega)
      have hx0 : ∀ h : 1 < s.size, ((s[1]'h).toNat : Int) = bt s 1 := bt_at s 1
      have hlt : ((1 : Int) < (s.size : Int)) = True := eq_true (by omega)
      have hlt' : (1 < s.size) = True := eq_true (by omega)
      by_cases c1 : bt s 1 = 120
      · have hh : numHex s = true := by simp [numHex, c1]
        have hf : numFrom s = 2 := by simp [numFrom, hh]
        have k1 : (bt s 1 == 120) = true := beq_iff_eq.2 c1
        go_wp2
        go_step3
        simp only [Exit.then]
        apply_assumption
        refine PASS'.out _ _ ?_
        refine numJ_of 2 ?_ ⟨by omega, h1⟩ (by unfold numAt; rw [hf]) BK.out HB.out
        rw [hh, hf]
        rfl
      have k1 : (bt s 1 == 120) = false := beq_eq_false_iff_ne.2 c1
      by_cases c2 : bt s 1 = 88
      · have hh : numHex s = true := by simp [numHex, c2]
        have hf : numFrom s = 2 := by simp [numFrom, hh]
        have k2 : (bt s 1 == 88) = true := beq_iff_eq.2 c2
        go_wp2
        go_step3
        simp only [Exit.then]
        apply_assumption
        refine PASS'.out _ _ ?_
        refine numJ_of 2 ?_ ⟨by omega, h1⟩ (by unfold numAt; rw [hf]) BK.out HB.out
        rw [hh, hf]
        rfl
      · have k2 : (bt s 1 == 88) = false := beq_eq_false_iff_ne.2 c2
        have hh : numHex s = false := by simp [numHex, c1, c2]
        have hf : numFrom s = 1 := by simp [numFrom, hh]
        go_wp2
        go_step3
        simp only [Exit.then]
        apply_assumption
        refine PASS'.out _ _ ?_
        refine numJ_of 1 ?_ ⟨by omega, h1⟩ (by unfold numAt; rw [hf]) BK.out HB.out
        rw [hh, hf]
        rfl
end Go.Proofs.Ythmbbkbmlnaghaa.P
end
section
namespace Go.Proofs.Ythmbbkbmlnaghaa.P
open Go.RowKit Go.Proofs.YthmbbkbmlnaghaaW.PrintWords Go.Proofs.YthmbbkbmlnaghaaW.PrintLast Go.Proofs.YthmbbkbmlnaghaaW.PrintMore
attribute [local go_sem] max2_int min2_int max_two min_two max_three min_three max_four min_four   -- for this text's walks alone
set_option linter.unusedVariables false
set_option linter.unusedSimpArgs false

/-! ### charref_next: function 66 -/
def charref_next.j0 : Nat → ByteArray → Bool → Bool → Bool → Option (ByteArray × Int × Bool)
 | 0, _, _, _, _ => none
 | k + 1, x0, x1, x2, x13 => if x13 = true then ((charref_numeric.f k x0 x2).bind fun bt273 => (some (bt273.1, bt273.2.1, bt273.2.2))) else ((charref_named.f k x0 x1 x2).bind fun bt276 => (some (bt276.1, bt276.2.1, bt276.2.2)))
def charref_next.f (k : Nat) (a0 : ByteArray) (a1 : Bool) (a2 : Bool) : Option (ByteArray × Int × Bool) := if a0.toList = ([] : List UInt8) then (charref_next.j0 k a0 a1 a2 false) else (if 0 < (a0.size : Int) then (charref_next.j0 k a0 a1 a2 ((bt a0 0) == 35)) else (none))
theorem charref_next.mono_l : ∀ k, (∀ y0 y1 y2 y3, LeO (charref_next.j0 k y0 y1 y2 y3) (charref_next.j0 (k + 1) y0 y1 y2 y3))
 | 0 => fun _ _ _ _ r h => by simp [charref_next.j0] at h
 | k + 1 => by
  have ih0 := charref_next.mono_l k
  ·intro y0 y1 y2 y3
   unfold charref_next.j0
   repeat' first
   | (with_reducible exact ih0 _ _ _ _)
   | (with_reducible exact charref_named.mono _ _ _ _)
   | (with_reducible exact charref_numeric.mono _ _ _)
   | (with_reducible exact LeO.refl _)
   | (with_reducible exact LeO.none _)
   | (with_reducible refine LeO.ite ?_ ?_)
   | (with_reducible refine LeO.bind ?_ (fun _ => ?_))
   | exact ih0 _ _ _ _
   | exact charref_named.mono _ _ _ _
   | exact charref_numeric.mono _ _ _
   | exact LeO.none _
   | refine LeO.ite ?_ ?_
   | refine LeO.bind ?_ (fun _ => ?_)
theorem charref_next.mono : ∀ a0 a1 a2 k, LeO (charref_next.f k a0 a1 a2) (charref_next.f (k + 1) a0 a1 a2) := by
 intro a0 a1 a2 k
 have ih0 := charref_next.mono_l k
 unfold charref_next.f
 repeat' first
   | (with_reducible exact ih0 _ _ _ _)
   | (with_reducible exact charref_named.mono _ _ _ _)
   | (with_reducible exact charref_numeric.mono _ _ _)
   | (with_reducible exact LeO.refl _)
   | (with_reducible exact LeO.none _)
   | (with_reducible refine LeO.ite ?_ ?_)
   | (with_reducible refine LeO.bind ?_ (fun _ => ?_))
   | exact ih0 _ _ _ _
   | exact charref_named.mono _ _ _ _
   | exact charref_numeric.mono _ _ _
   | exact LeO.none _
   | refine LeO.ite ?_ ?_
   | refine LeO.bind ?_ (fun _ => ?_)
set_option maxHeartbeats 8000000 in
set_option maxRecDepth 100000 in
theorem charref_next.calls (k : Nat) (a0 : ByteArray) (a1 : Bool) (a2 : Bool) (r1 : ByteArray) (r2 : Int) (r3 : Bool) (w : World) (h : charref_next.f k a0 a1 a2 = some (r1, r2, r3)) :
  Calls Try.prog 66 #[.string a0, .bool a1, .bool a2] w fun e w' => e = .returned (.agg #[.string r1, .int .i64 r2, .bool r3]) ∧ Below w.heap.size w w' := by
 have hu88 := Try.underlying88
 have HB := Aside0.mk (Below.refl w.heap.size w)
 have H : (if a0.toList = ([] : List UInt8) then (charref_next.j0 k a0 a1 a2 false) else (if 0 < (a0.size : Int) then (charref_next.j0 k a0 a1 a2 ((bt a0 0) == 35)) else (none))) = some (r1, r2, r3) := h
 clear h
 have HC4 := Aside0.mk H
 clear H
 go_enter Try.func66, Try.ntmps66
 go_upto_region 1 with (first | ((with_reducible refine gate_dst (N := 6) rfl ?_); refine box_event ?hg (N := 6) ?hd (cs := #[.string (⟨#[]⟩ : ByteArray), .int .i64 0, .bool false]) (t := 88) ?hr ?_; (case hd => rfl); (case hg => rfl); (case hr => first | (go_simp; done) | (go_simp; rfl)); intro gb272 hg w5 hbox hb; have n0_ := Aside0.mk (below_step (by repeat (first | (with_reducible first | exact HB.out | apply below_alloc | apply pw_below_drewN | apply below_drew1) | exact HB.out)) hb); have n1_ := Aside0.mk (hbox); have n2_ := Aside0.mk ((by rw [hg]; exact (below_size (by repeat (first | (with_reducible first | exact HB.out | apply below_alloc | apply pw_below_drewN | apply below_drew1) | exact HB.out))) : w.heap.size ≤ gb272)); have n3_ := Aside0.mk ((by rw [hg]; exact (below_size (by repeat (first | (with_reducible first | exact HB.out | apply below_alloc | apply pw_below_drewN | apply below_drew1) | exact HB.out))) : w.heap.size ≤ gb272)); clear HB; have HB := n0_; have BK272 := n1_; have GW272 := n2_; have GE272 := n3_; clear n0_ n1_ n2_ n3_; clear hb hbox hg))
 (try simp only [Act.put, List.setIfInBounds_toArray, List.set_cons_zero, List.set_cons_succ])
 go_cut [13] (fun v13 wc => ∃ (kq : Nat) (x13_3 : Bool), v13 = .bool x13_3 ∧ Aside0 (charref_next.j0 kq a0 a1 a2 x13_3 = some (r1, r2, r3)) ∧ Aside0 (kq ≤ k) ∧ Aside0 (wc.heap[gb272]? = some (.cells #[.string (⟨#[]⟩ : ByteArray), .int .i64 0, .bool false] 88 (0, 0))) ∧ Aside0 (Below w.heap.size w wc))
 case first =>
  have H := HC4.out
  clear HC4
  by_cases c6 : a0.toList = ([] : List UInt8)
  ·rw [if_pos c6] at H
   have c6b0 : (a0.toList == ([] : List UInt8)) = true := beq_iff_eq.mpr c6
   have c6b1 : (a0.toList != ([] : List UInt8)) = false := bne_eq_false_iff_eq.mpr c6
   clear c6
   (first | rw [c6b0] | (simp only [i64_w, i32_w]; rw [c6b0]) | skip)
   have H' := Aside0.mk H
   clear H
   go_wp2
   go_meet
   case rel => exact ⟨_, (false), (by first | rfl | (simp; done) | (simp [*]; done) | (unfold bt; split <;> first | rfl | (exfalso; simp_all; done) | (exfalso; simp_all; omega))), H', ⟨by first | omega | exact Nat.le_refl _⟩, ⟨by (with_reducible repeat (first | refine blk_drewN ?_ _ | refine blk_drew ?_ | refine blk_alloc ?_ _)); exact BK272.out⟩, ⟨by repeat (first | (with_reducible first | exact HB.out | apply below_alloc | apply pw_below_drewN | apply below_drew1 | refine below_set ?_ GE272.out) | exact HB.out)⟩⟩
  ·rw [if_neg c6] at H
   have c6b0 : (a0.toList == ([] : List UInt8)) = false := beq_eq_false_iff_ne.mpr c6
   have c6b1 : (a0.toList != ([] : List UInt8)) = true := bne_iff_ne.mpr c6
   (first | rw [c6b0] | (simp only [i64_w, i32_w]; rw [c6b0]) | skip)
   by_cases c7 : 0 < (a0.size : Int)
   ·rw [if_pos c7] at H
    have c7b0 : decide (0 < (a0.size : Int)) = true := decide_eq_true c7
    have c7b1 : decide (0 < a0.size) = true := decide_eq_true (by omega)
    clear c7
    have H' := Aside0.mk H
    clear H
    have p8 : 0 ≤ (0 : Int) := (by omega)
    have q8 : 0 < a0.size := (by have : (0 : Int) < (a0.size : Int) := of_decide_eq_true (by first | (with_reducible assumption) | assumption); omega)
    have hx8 : ∀ h : 0 < a0.size, ((a0[0]'h).toNat : Int) = bt a0 0 := bt_at a0 0
    clear p8
    have qi8 : (0 < (a0.size : Int)) = True := eq_true (of_decide_eq_true (by first | (with_reducible assumption) | assumption))
    replace q8 := eq_true q8
    go_wp2
    go_meet
    case rel => exact ⟨_, (((bt a0 0) == 35)), (by first | rfl | (simp; done) | (simp [*]; done) | (unfold bt; split <;> first | rfl | (exfalso; simp_all; done) | (exfalso; simp_all; omega))), H', ⟨by first | omega | exact Nat.le_refl _⟩, ⟨by (with_reducible repeat (first | refine blk_drewN ?_ _ | refine blk_drew ?_ | refine blk_alloc ?_ _)); exact BK272.out⟩, ⟨by repeat (first | (with_reducible first | exact HB.out | apply below_alloc | apply pw_below_drewN | apply below_drew1 | refine below_set ?_ GE272.out) | exact HB.out)⟩⟩
   ·rw [if_neg c7] at H
    exact absurd H (by simp)
 case rest =>
  clear HC4
  try clear p2
  try clear c6
  try clear c6b0
  try clear c6b1
  try clear c7
  try clear c7b0
  try clear c7b1
  try clear p8
  try clear q8
  try clear hx8
  try clear qi8
  try clear p8
  try clear q8
  obtain ⟨kq, x13_3, rfl, HA, HJ3, BK272, HB⟩ := hcut
  cases kq with
  | zero => exact absurd HA.out (by simp [charref_next.j0])
  | succ kj3 =>
   have H := HA.out
   clear HA
   simp only [charref_next.j0] at H
   by_cases c9 : x13_3 = true
   ·subst c9
    have H1 : ((charref_numeric.f kj3 a0 a2).bind fun bt273 => (some (bt273.1, bt273.2.1, bt273.2.2))) = some (r1, r2, r3) := by rw [if_pos rfl] at H; exact H
    clear H
    have H := H1
    clear H1
    replace H := Option.bind_eq_some_iff.mp H
    obtain ⟨⟨t273, t274, t275⟩, A100, H⟩ := H
    replace H : (some (t273, t274, t275)) = some (r1, r2, r3) := H
    have A10 := Aside0.mk A100
    clear A100
    simp only [Option.some.injEq, Prod.mk.injEq] at H
    obtain ⟨rfl, rfl, rfl⟩ := H
    go_wp2_with (first | ((with_reducible refine gate_callee (f := 78) rfl ?_); refine goesL_ (some 16) rfl rfl Try.func78 (by kernel_rfl) rfl #[.string a0, .bool a2] rfl (by (try simp only [List.map_toArray, List.map_cons, List.map_nil]); first | done | rfl | (simp only [List.length_drop, List.length_take]; rfl) | (simp [*] <;> rfl)) ?_; (with_reducible refine (charref_numeric.calls kj3 a0 a2 t273 t274 t275 _ A10.out).mono ?_); rintro e w11 ⟨rfl, hb⟩; refine ⟨_, rfl, ?_⟩; have n0_ := Aside0.mk (blk_below (g := gb272) (o := .cells #[.string (⟨#[]⟩ : ByteArray), .int .i64 0, .bool false] 88 (0, 0)) (by (with_reducible repeat (first | refine blk_drewN ?_ _ | refine blk_drew ?_ | refine blk_alloc ?_ _)); exact BK272.out) hb); have n1_ := Aside0.mk (below_step (by repeat (first | (with_reducible first | exact HB.out | apply below_alloc | apply pw_below_drewN | apply below_drew1 | refine below_set ?_ GE272.out) | exact HB.out)) hb); clear BK272; clear HB; have BK272 := n0_; have HB := n1_; clear n0_ n1_; (try clear hb); (try clear hb2); (try clear hk); (try clear hi); have hcz12_0 : w11.cell? ⟨gb272, 0, none⟩ = some (.string (⟨#[]⟩ : ByteArray)) := (blk_cell BK272.out 0).trans rfl; have hcz12_1 : w11.cell? ⟨gb272, 1, none⟩ = some (.int .i64 0) := (blk_cell BK272.out 1).trans rfl; have hcz12_2 : w11.cell? ⟨gb272, 2, none⟩ = some (.bool false) := (blk_cell BK272.out 2).trans rfl; have hfz12_0 := blk_frozen BK272.out 0; have hfz12_1 := blk_frozen BK272.out 1; have hfz12_2 := blk_frozen BK272.out 2))
    refine bodyPost_ret (results_cell_row rfl _ _ gb272 88 #[.string t273, .int .i64 t274, .bool t275] (0, 0) _ rfl (by (with_reducible repeat (first | refine blk_drewN ?_ _ | refine blk_drew ?_ | refine blk_alloc ?_ _)); refine blk_put (cs := #[.string t273, .int .i64 t274, .bool false]) ?_ 2 _ rfl; (with_reducible repeat (first | refine blk_drewN ?_ _ | refine blk_drew ?_ | refine blk_alloc ?_ _)); refine blk_put (cs := #[.string t273, .int .i64 0, .bool false]) ?_ 1 _ rfl; (with_reducible repeat (first | refine blk_drewN ?_ _ | refine blk_drew ?_ | refine blk_alloc ?_ _)); refine blk_put (cs := #[.string (⟨#[]⟩ : ByteArray), .int .i64 0, .bool false]) ?_ 0 _ rfl; (with_reducible repeat (first | refine blk_drewN ?_ _ | refine blk_drew ?_ | refine blk_alloc ?_ _)); exact BK272.out) Try.underlying88 rfl (by kernel_rfl)) rfl ?_
    exact ⟨by first | rfl | (simp [errW_none, errW_some] <;> rfl) | (simp [*, errW_none, errW_some] <;> rfl), by repeat (first | (with_reducible first | exact HB.out | apply below_alloc | apply pw_below_drewN | apply below_drew1 | refine below_set ?_ GE272.out) | exact HB.out)⟩
   ·replace c9 := Bool.eq_false_iff.mpr c9
    subst c9
    have H1 : ((charref_named.f kj3 a0 a1 a2).bind fun bt276 => (some (bt276.1, bt276.2.1, bt276.2.2))) = some (r1, r2, r3) := by rw [if_neg (show ¬ (false = true) by decide)] at H; exact H
    clear H
    have H := H1
    clear H1
    replace H := Option.bind_eq_some_iff.mp H
    obtain ⟨⟨t276, t277, t278⟩, A130, H⟩ := H
    replace H : (some (t276, t277, t278)) = some (r1, r2, r3) := H
    have A13 := Aside0.mk A130
    clear A130
    simp only [Option.some.injEq, Prod.mk.injEq] at H
    obtain ⟨rfl, rfl, rfl⟩ := H
    go_wp2_with (first | ((with_reducible refine gate_callee (f := 79) rfl ?_); refine goesL_ (some 20) rfl rfl Try.func79 (by kernel_rfl) rfl #[.string a0, .bool a1, .bool a2] rfl (by (try simp only [List.map_toArray, List.map_cons, List.map_nil]); first | done | rfl | (simp only [List.length_drop, List.length_take]; rfl) | (simp [*] <;> rfl)) ?_; (with_reducible refine (charref_named.calls kj3 a0 a1 a2 t276 t277 t278 _ A13.out).mono ?_); rintro e w14 ⟨rfl, hb⟩; refine ⟨_, rfl, ?_⟩; have n0_ := Aside0.mk (blk_below (g := gb272) (o := .cells #[.string (⟨#[]⟩ : ByteArray), .int .i64 0, .bool false] 88 (0, 0)) (by (with_reducible repeat (first | refine blk_drewN ?_ _ | refine blk_drew ?_ | refine blk_alloc ?_ _)); exact BK272.out) hb); have n1_ := Aside0.mk (below_step (by repeat (first | (with_reducible first | exact HB.out | apply below_alloc | apply pw_below_drewN | apply below_drew1 | refine below_set ?_ GE272.out) | exact HB.out)) hb); clear BK272; clear HB; have BK272 := n0_; have HB := n1_; clear n0_ n1_; (try clear hb); (try clear hb2); (try clear hk); (try clear hi); have hcz15_0 : w14.cell? ⟨gb272, 0, none⟩ = some (.string (⟨#[]⟩ : ByteArray)) := (blk_cell BK272.out 0).trans rfl; have hcz15_1 : w14.cell? ⟨gb272, 1, none⟩ = some (.int .i64 0) := (blk_cell BK272.out 1).trans rfl; have hcz15_2 : w14.cell? ⟨gb272, 2, none⟩ = some (.bool false) := (blk_cell BK272.out 2).trans rfl; have hfz15_0 := blk_frozen BK272.out 0; have hfz15_1 := blk_frozen BK272.out 1; have hfz15_2 := blk_frozen BK272.out 2))
    refine bodyPost_ret (results_cell_row rfl _ _ gb272 88 #[.string t276, .int .i64 t277, .bool t278] (0, 0) _ rfl (by (with_reducible repeat (first | refine blk_drewN ?_ _ | refine blk_drew ?_ | refine blk_alloc ?_ _)); refine blk_put (cs := #[.string t276, .int .i64 t277, .bool false]) ?_ 2 _ rfl; (with_reducible repeat (first | refine blk_drewN ?_ _ | refine blk_drew ?_ | refine blk_alloc ?_ _)); refine blk_put (cs := #[.string t276, .int .i64 0, .bool false]) ?_ 1 _ rfl; (with_reducible repeat (first | refine blk_drewN ?_ _ | refine blk_drew ?_ | refine blk_alloc ?_ _)); refine blk_put (cs := #[.string (⟨#[]⟩ : ByteArray), .int .i64 0, .bool false]) ?_ 0 _ rfl; (with_reducible repeat (first | refine blk_drewN ?_ _ | refine blk_drew ?_ | refine blk_alloc ?_ _)); exact BK272.out) Try.underlying88 rfl (by kernel_rfl)) rfl ?_
    exact ⟨by first | rfl | (simp [errW_none, errW_some] <;> rfl) | (simp [*, errW_none, errW_some] <;> rfl), by repeat (first | (with_reducible first | exact HB.out | apply below_alloc | apply pw_below_drewN | apply below_drew1 | refine below_set ?_ GE272.out) | exact HB.out)⟩

-- NOT PRINTED: function 47 (charref_each)

-- NOT PRINTED: function 40 (charref_replaced)

end Go.Proofs.Ythmbbkbmlnaghaa.P
end
section
/-
  charref.each: the references of a text, one by one, each handed to a function value.
-/
namespace Go.Proofs.Ythmbbkbmlnaghaa.P
open Go.RowKit Go.Proofs.YthmbbkbmlnaghaaW.PrintWords Go.Proofs.YthmbbkbmlnaghaaW.PrintLast Go.Proofs.YthmbbkbmlnaghaaW.PrintMore
set_option linter.unusedVariables false
set_option linter.unusedSimpArgs false

/-- the references from place i on: where the & stands, what is said, how many bytes stand behind the & -/
def refsGo (attr : Bool) (s : ByteArray) : Nat → Nat → Option (List (Nat × ByteArray × Nat))
  | 0, _ => none
  | k + 1, i =>
    if i < s.size then
      (if bt s i = 38 then
        (charref_next.f k (s.extract (i + 1) s.size) attr true).bind fun n =>
          if 0 ≤ n.2.1 ∧ i + 1 + n.2.1.toNat ≤ s.size then
            (if n.2.1 = 0 then refsGo attr s k (i + 1)
             else (refsGo attr s k (i + 1 + n.2.1.toNat)).bind fun t => some ((i, n.1, n.2.1.toNat) :: t))
          else none
       else refsGo attr s k (i + 1))
    else some []

set_option maxRecDepth 100000 in
set_option maxHeartbeats 8000000 in
theorem charref_each_calls (k : Nat) (s : ByteArray) (attr : Bool) (fv : Array Value) (refs : List (Nat × ByteArray × Nat)) (I : List (Nat × ByteArray × Nat) → World → Prop) (w : World)
    (hs : s.size ≤ 35184372088831) (h : refsGo attr s k 0 = some refs)
    (hI : ∀ pre W W', I pre W → Below W.heap.size W W' → I pre W')
    (hdo : ∀ (pre : List (Nat × ByteArray × Nat)) (x : Nat × ByteArray × Nat) (W : World) (b : Bool), I pre W → (∃ post, pre ++ [x] ++ post = refs) → Calls Try.prog 58 (#[.int .i64 (x.1 : Nat), .agg #[.string x.2.1, .int .i64 (x.2.2 : Nat), .bool b]] ++ fv) W fun e W' =>
      e = .returned (.bool true) ∧ I (pre ++ [x]) W' ∧ ∀ (j : Nat) (cs : Array Value), W.heap[j]? = some (Obj.cells cs 88 (0, 0)) → W'.heap[j]? = some (Obj.cells cs 88 (0, 0)))
    (h0 : I [] w) :
    Calls Try.prog 47 #[.string s, .bool attr, .func (.func 58) #[] fv] w fun e w' => e = .returned (.tuple #[]) ∧ I refs w' := by
  have HDO := Aside0.mk hdo
  have HI := Aside0.mk hI
  have HR := Aside0.mk h
  clear hdo
  clear hI
  clear h
  have hu60 := Try.underlying88
  go_enter Try.func47, Try.ntmps47
  go_wp2
  go_loopw [6] (fun v wr => ∃ (i kk : Nat) (pre rest : List (Nat × ByteArray × Nat)), v = .int .i64 (i : Nat) ∧ i ≤ s.size ∧ Aside0 (refsGo attr s kk i = some rest) ∧ Aside0 (pre ++ rest = refs) ∧ Aside0 (I pre wr)) (fun v _ => s.size - (intOf v).toNat)
  case atStart => exact ⟨0, k, [], refs, rfl, Nat.zero_le _, HR, ⟨rfl⟩, ⟨h0⟩⟩
  case round =>
    obtain ⟨i, kk, pre, rest, rfl, hi, hrest, hpre, hinv⟩ := hrel
    by_cases hlt : i < s.size
    · have hl1 : ((i : Int) < (s.size : Int)) = True := eq_true (by omega)
      have hl2 : ((0 : Int) ≤ (i : Int)) = True := eq_true (by omega)
      have hx0 : ∀ h : i < s.size, ((s[i]'h).toNat : Int) = bt s (i : Int) := bt_at s (i : Int)
      have hw1 : IntKind.i64.wrap ((i : Int) + 1) = (i : Int) + 1 := IntWalk.i64_in _ (by omega)
      cases kk with
      | zero => exact absurd hrest.out (by simp [refsGo])
      | succ kk =>
        have hr := hrest.out
        clear hrest
        unfold refsGo at hr
        rw [if_pos hlt] at hr
        by_cases c : bt s (i : Int) = 38
        · rw [if_pos c] at hr
          obtain ⟨⟨n1, n2, n3⟩, hn, hr⟩ := Option.bind_eq_some_iff.1 hr
          have HN := Aside0.mk hn
          clear hn
          by_cases hb : 0 ≤ n2 ∧ i + 1 + n2.toNat ≤ s.size
          · rw [if_pos hb] at hr
            obtain ⟨m, rfl⟩ : ∃ m : Nat, n2 = m := ⟨n2.toNat, by omega⟩
            obtain ⟨_, hm⟩ := hb
            simp only [Int.toNat_natCast] at hm hr
            have HRR := Aside0.mk hr
            clear hr
            have kc : (bt s (i : Int) != 38) = false := bne_eq_false_iff_eq.2 c
            have s1 : ((0 : Int) ≤ (i : Int) + 1) = True := eq_true (by omega)
            have s2 : ((i : Int) + 1 ≤ (s.size : Int)) = True := eq_true (by omega)
            have s3 : ((i : Int) + 1).toNat = i + 1 := by omega
            have hw2 : IntKind.i64.wrap (1 + (m : Int)) = 1 + (m : Int) := IntWalk.i64_in _ (by omega)
            have hw3 : IntKind.i64.wrap ((i : Int) + (1 + (m : Int))) = ((i + 1 + m : Nat) : Int) := by rw [IntWalk.i64_in _ (by omega)]; omega
            by_cases hm0 : m = 0
            · have HM0 := Aside0.mk hm0
              have hrr := HRR.out
              rw [if_pos (by omega)] at hrr
              have HREST := Aside0.mk hrr
              clear hrr
              have g1 : decide ((m : Int) > 0) = false := decide_eq_false (by omega)
              have g2 : decide ((0 : Int) < (m : Int)) = false := decide_eq_false (by omega)
              have g3 : (0 < m) = False := eq_false (by omega)
              have g4 : ((0 : Int) < (m : Int)) = False := eq_false (by omega)
              have hw4 : ((i + 1 + m : Nat) : Int) = ((i + 1 : Nat) : Int) := by omega
              have HW4 := Aside0.mk hw4
              clear hw4 hm0
              go_wp2_with (first | (go_at_call 66; refine (charref_next.calls kk (s.extract (i + 1) s.size) attr true n1 (m : Int) n3 _ HN.out).mono ?_; rintro e w1 ⟨rfl, hb1⟩; have HB1 := Aside0.mk hb1; clear hb1) | ((with_reducible refine gate_dst (N := 7) rfl ?_); refine box_event ?hg (N := 7) ?hd (cs := #[.string (⟨#[]⟩ : ByteArray), .int .i64 0, .bool false]) (t := 88) ?hr ?_; (case hd => rfl); (case hg => rfl); (case hr => first | (go_simp; done) | (go_simp; rfl)); intro gb hg w5 hbox hb; have HB5 := Aside0.mk (below_step HB1.out hb); have BK5 := Aside0.mk hbox; have GE5 := Aside0.mk ((by rw [hg]; exact (below_size HB1.out)) : wr.heap.size ≤ gb); clear hb hbox hg; have hcz0 : w5.cell? ⟨gb, 0, none⟩ = some (.string (⟨#[]⟩ : ByteArray)) := (blk_cell BK5.out 0).trans rfl; have hcz1 : w5.cell? ⟨gb, 1, none⟩ = some (.int .i64 0) := (blk_cell BK5.out 1).trans rfl; have hcz2 : w5.cell? ⟨gb, 2, none⟩ = some (.bool false) := (blk_cell BK5.out 2).trans rfl; have hfz0 := blk_frozen BK5.out 0; have hfz1 := blk_frozen BK5.out 1; have hfz2 := blk_frozen BK5.out 2))
              go_roundw
              case rel => exact ⟨i + 1, kk, pre, rest, by rw [← HW4.out]; rfl, by omega, HREST, hpre, ⟨HI.out pre wr _ hinv.out (below_set (below_set (below_set HB5.out GE5.out) GE5.out) GE5.out)⟩⟩
              case measure => simp [intOf]; omega
            · have hrr := HRR.out
              rw [if_neg (by omega)] at hrr
              obtain ⟨t2, ht2, heq⟩ := Option.bind_eq_some_iff.1 hrr
              have heq := Option.some.inj heq
              have HREST := Aside0.mk ht2
              clear hrr ht2
              have hpre2 : pre ++ [(i, n1, m)] ++ t2 = refs := by rw [← hpre.out, ← heq, List.append_assoc]; rfl
              have HPRE2 := Aside0.mk hpre2
              clear hpre2 heq
              have g1 : decide ((m : Int) > 0) = true := decide_eq_true (by omega)
              have g2 : decide ((0 : Int) < (m : Int)) = true := decide_eq_true (by omega)
              go_wp2_with (first | (go_at_call 66; refine (charref_next.calls kk (s.extract (i + 1) s.size) attr true n1 (m : Int) n3 _ HN.out).mono ?_; rintro e w1 ⟨rfl, hb1⟩; have HB1 := Aside0.mk hb1; clear hb1) | ((with_reducible refine gate_dst (N := 7) rfl ?_); refine box_event ?hg (N := 7) ?hd (cs := #[.string (⟨#[]⟩ : ByteArray), .int .i64 0, .bool false]) (t := 88) ?hr ?_; (case hd => rfl); (case hg => rfl); (case hr => first | (go_simp; done) | (go_simp; rfl)); intro gb hg w5 hbox hb; have HB5 := Aside0.mk (below_step HB1.out hb); have BK5 := Aside0.mk hbox; have GE5 := Aside0.mk ((by rw [hg]; exact (below_size HB1.out)) : wr.heap.size ≤ gb); clear hb hbox hg; have hcz0 : w5.cell? ⟨gb, 0, none⟩ = some (.string (⟨#[]⟩ : ByteArray)) := (blk_cell BK5.out 0).trans rfl; have hcz1 : w5.cell? ⟨gb, 1, none⟩ = some (.int .i64 0) := (blk_cell BK5.out 1).trans rfl; have hcz2 : w5.cell? ⟨gb, 2, none⟩ = some (.bool false) := (blk_cell BK5.out 2).trans rfl; have hfz0 := blk_frozen BK5.out 0; have hfz1 := blk_frozen BK5.out 1; have hfz2 := blk_frozen BK5.out 2) | (go_at_call 58; refine (HDO.out pre (i, n1, m) _ n3 (HI.out pre wr _ hinv.out (below_set (below_set (below_set HB5.out GE5.out) GE5.out) GE5.out)) ⟨t2, HPRE2.out⟩).mono ?_; rintro e w7 ⟨rfl, hinv7, hk7⟩; have HINV7 := Aside0.mk hinv7; have BK7 := Aside0.mk (hk7 gb #[.string n1, .int .i64 (m : Nat), .bool n3] (blk_put (cs := #[.string n1, .int .i64 (m : Nat), .bool false]) (blk_put (cs := #[.string n1, .int .i64 0, .bool false]) (blk_put (cs := #[.string (⟨#[]⟩ : ByteArray), .int .i64 0, .bool false]) BK5.out 0 _ rfl) 1 _ rfl) 2 _ rfl)); clear hinv7 hk7; have hcy1 : w7.cell? ⟨gb, 1, none⟩ = some (.int .i64 (m : Nat)) := (blk_cell BK7.out 1).trans rfl))
              go_roundw
              case rel => exact ⟨i + 1 + m, kk, pre ++ [(i, n1, m)], t2, rfl, hm, HREST, HPRE2, HINV7⟩
              case measure => simp [intOf]; omega
          · rw [if_neg hb] at hr
            cases hr
        · rw [if_neg c] at hr
          have HREST := Aside0.mk hr
          clear hr
          have kc : (bt s (i : Int) != 38) = true := bne_iff_ne.2 c
          clear c
          go_wp2
          go_roundw
          case rel => exact ⟨i + 1, kk, pre, rest, rfl, by omega, HREST, hpre, hinv⟩
          case measure => simp [intOf]; omega
    · have hl1 : ((i : Int) < (s.size : Int)) = False := eq_false (by omega)
      have hrr : rest = [] := by
        have := hrest.out
        cases kk with
        | zero => simp [refsGo] at this
        | succ kk =>
          unfold refsGo at this
          rw [if_neg hlt] at this
          exact (Option.some.inj this).symm
      subst hrr
      have hp := hpre.out
      rw [List.append_nil] at hp
      subst hp
      go_wp2
      go_end0
      exact ⟨rfl, hinv.out⟩
end Go.Proofs.Ythmbbkbmlnaghaa.P
end
section
/-
 A region that draws its order, by one obligation an operation: whatever order comes, what each operation has yielded stays good.
-/
set_option linter.unusedVariables false
set_option linter.unusedSimpArgs false
namespace Go.Proofs.Ythmbbkbmlnaghaa.P
section
variable {P : Program} {ops : Array Oper} {Q : Exit → Act → World → Prop} {md : Region.Mode}

theorem ready_spec {listed : Array Bool} {i : Nat} (h : i ∈ Region.ready md ops listed) :
  ∃ o, ops[i]? = some o ∧ i < ops.size ∧ listed.getD i true = false ∧ ∀ e ∈ o.after, Region.binds md e = true → listed.getD e.on false = true := by
 unfold Region.ready at h
 rw [List.mem_filter, List.mem_range, Bool.and_eq_true] at h
 obtain ⟨h1, h2, h3⟩ := h
 cases ho : ops[i]? with
 | none => rw [ho] at h3; simp at h3
 | some o =>
  rw [ho] at h3
  simp only [Option.map_some, Option.getD_some, Array.all_eq_true'] at h3
  refine ⟨o, rfl, h1, by simpa using h2, fun e he hb => ?_⟩
  have := h3 e he
  rw [hb] at this
  simpa using this
theorem ready_of {listed : Array Bool} {i : Nat} {o : Oper} (h1 : ops[i]? = some o) (h2 : listed.getD i true = false) (h3 : ∀ e ∈ o.after, listed.getD e.on false = true) : i ∈ Region.ready md ops listed := by
 unfold Region.ready
 rw [List.mem_filter, List.mem_range, Bool.and_eq_true, h1, h2]
 refine ⟨(Array.getElem?_eq_some_iff.1 h1).1, rfl, ?_⟩
 simp only [Option.map_some, Option.getD_some, Array.all_eq_true']
 intro e he
 rw [h3 e he]
 simp
theorem all_listed {listed : Array Bool} (hs : listed.size = ops.size) (hac : ∀ (i : Nat) (o : Oper), ops[i]? = some o → ∀ e ∈ o.after, e.on < i) (h : Region.ready md ops listed = []) :
  ∀ i, i < ops.size → listed.getD i false = true := by
 intro i
 induction i using Nat.strongRecOn with
 | _ i ih =>
  intro hi
  obtain ⟨o, ho⟩ : ∃ o, ops[i]? = some o := ⟨_, Array.getElem?_eq_getElem hi⟩
  have hi2 : i < listed.size := by omega
  have e1 : listed.getD i false = listed[i] := by simp [Array.getD, hi2]
  have e2 : listed.getD i true = listed[i] := by simp [Array.getD, hi2]
  rw [e1]
  cases hb : listed[i] with
  | true => rfl
  | false =>
   have := ready_of (md := md) ho (by rw [e2, hb]) (fun e he => ih e.on (hac i o ho e he) (by have := hac i o ho e he; omega))
   rw [h] at this
   cases this
/-! ### a region whose operations yield into slots that stand side by side -/
def Fr (pre us post : List Value) (ds : List Deferred) : Act := ⟨(pre ++ us ++ post).toArray, ds⟩
theorem Fr_put (pre us post : List Value) (ds : List Deferred) (j : Nat) (hj : j < us.length) (v : Value) : (Fr pre us post ds).put (some (pre.length + j)) v = Fr pre (us.set j v) post ds := by
 unfold Fr Act.put
 simp only [List.setIfInBounds_toArray]
 congr 2
 rw [List.append_assoc, List.append_assoc, List.set_append_right _ _ (by omega), Nat.add_sub_cancel_left, List.set_append_left _ _ hj]
/-- the operations one by one, with their places -/
def AllSteps (S : Nat → Oper → Prop) : Nat → List Oper → Prop
 | _, [] => True
 | i, o :: r => S i o ∧ AllSteps S (i + 1) r
theorem AllSteps.at {S : Nat → Oper → Prop} : ∀ (l : List Oper) (b i : Nat) (o : Oper), AllSteps S b l → l[i]? = some o → S (b + i) o
 | [], b, i, o, _, h => by simp at h
 | x :: r, b, 0, o, hs, h => by
  obtain rfl : x = o := by simpa using h
  exact hs.1
 | x :: r, b, i + 1, o, hs, h => by
  have := AllSteps.at r (b + 1) i o hs.2 (by simpa using h)
  rwa [show b + 1 + i = b + (i + 1) by omega] at this
end
end Go.Proofs.Ythmbbkbmlnaghaa.P
end
section
/-
 The fenced twin of Hord: a region that draws its order, by one obligation an operation.
-/
set_option linter.unusedVariables false
set_option linter.unusedSimpArgs false
namespace Go.Proofs.Ythmbbkbmlnaghaa.P
section
variable {F : Fence} {n : Nat} {P : Program} {ops : Array Oper} {Q : Exit → Act → World → Prop} {md : Region.Mode}

end
end Go.Proofs.Ythmbbkbmlnaghaa.P
end
section
/-
 DERIVED: THE SHELF's CONTRACTS AT THIS DUMP, IN PLAIN WORDS (tools/lay-plain.mjs out of 'TryShelf.lean', which tools/lay-shelf.mjs wrote): THE SAME DECLARATIONS UNDER THE SAME NAMES: 'import', 'namespace', 'open', 'def', 'theorem' AND NOTHING ELSE: no command of the shelf's: FOR A HAND-IN. Each laying: the table of numbers ('.._ren') and one theorem, a field a fact of the dump's own or the kernel's comparison; each contract: ONE APPLICATION.
-/
namespace Go.Proofs
open Go.Shelf
def Try.lays169_ren : Go.Shelf.Ren := ⟨fun | 169 => 37 | n => n, fun | 70 => 72 | 9 => 9 | 0 => 0 | 72 => 74 | 37 => 34 | 127 => 98 | 3 => 3 | 5 => 5 | n => n, fun | n => n⟩
theorem Try.lays169 : Go.Proofs.Lays.n169 Try.prog Try.lays169_ren := {
 mixed := by kernel_rfl
 f169 := Try.func37.trans (congrArg some (by kernel_rfl))
 t0 := Try.underlying0
 a0 := Try.isAgg0
 z0 := Try.sizeOf0
 v0 := Try.zeroValue0
 t3 := Try.underlying3
 a3 := Try.isAgg3
 z3 := Try.sizeOf3
 v3 := Try.zeroValue3
 t9 := Try.underlying9
 a9 := Try.isAgg9
 z9 := Try.sizeOf9
 v9 := Try.zeroValue9
 t37 := Try.underlying34
 a37 := Try.isAgg34
 z37 := Try.sizeOf34
 v37 := Try.zeroValue34
 t70 := Try.underlying72
 a70 := Try.isAgg72
 z70 := Try.sizeOf72
 v70 := Try.zeroValue72
 t72 := Try.underlying74
 a72 := Try.isAgg74
 z72 := Try.sizeOf74
 v72 := Try.zeroValue74
 t127 := Try.underlying98
 a127 := Try.isAgg98
 z127 := Try.sizeOf98
 v127 := Try.zeroValue98 }
theorem Try.Builder_Extra_169 : Builder.Extra Try.prog Try.lays169_ren := {
 sizeBuilder := by kernel_rfl
 liesBuilder := by kernel_rfl
 t5 := Try.underlying5
 a5 := Try.isAgg5
 z5 := Try.sizeOf5
 v5 := Try.zeroValue5
 infoByte := by kernel_rfl
 cellsByte := by kernel_rfl
 sizeByte := by kernel_rfl
 neB5 := by decide }
open Go.RowKit in
/-- (*strings.Builder).String: "String returns the accumulated string.": WHATEVER THE BUILDER HOLDS; THE FORM '_k': OVER 'Lib.IsBuilderF' (a builder that 'String()' may have read), AND WITH THE FRAME THAT REACHES ABOVE THE BUILDER: 'Lib.OthersKept': every block that is not b and is no row of uint8's stands as it stood: the iterator of a range among them. (LAID: no walk: one application.) -/
theorem Try.Builder_String_any_k (B b : Nat) (l : List UInt8) (w : World) (h : Lib.IsBuilderF 74 5 B b (Lib.byteCells l) w) (hBw : B ≤ w.heap.size) :
  Calls Try.prog 37 #[.pointer (some ⟨b, 0, none⟩)] w fun e w' => e = .returned (.string ⟨l.toArray⟩) ∧ (Lib.IsBuilderF 74 5 B b (Lib.byteCells l) w' ∧ Below B w w' ∧ Lib.OthersKept 5 (some b) w w') := Any.Builder_String_any_k Try.lays169 Try.Builder_Extra_169 B b l w h hBw
end Go.Proofs
end
section
/-
 strings.Builder at this program's translation (copyCheck ends in a refusal here, so the shelf's own contracts on it do not lay): copyCheck, WriteString, WriteByte. The proofs are the shelf's, turned to this program.
-/
namespace Go.Proofs.Ythmbbkbmlnaghaa.P
open Go.RowKit Go.Shelf Go.Proofs.YthmbbkbmlnaghaaW.PrintWords Go.Proofs.YthmbbkbmlnaghaaW.PrintLast Go.Proofs.YthmbbkbmlnaghaaW.PrintMore
set_option linter.unusedVariables false
set_option linter.unusedSimpArgs false

theorem bldX : (Try.prog.info? 74).map (·.size) = some 2 := by kernel_rfl
theorem bldLies : liesAt Try.prog Try.prog.depth 74 (2 / Try.prog.cellsOf 74) 0 74 1 = true := by kernel_rfl

set_option maxHeartbeats 1000000 in
set_option maxRecDepth 100000 in
theorem bld_copyCheck_used (b : Nat) (w : World) (h0 : w.cell? ⟨b, 0, none⟩ = some (.pointer (some ⟨b, 0, none⟩))) :
  Calls Try.prog 55 #[.pointer (some ⟨b, 0, none⟩)] w fun e w' => e = .returned (.tuple #[]) ∧ w' = w := by
 obtain ⟨j, hj, _⟩ := Option.map_eq_some_iff.1 bldX
 have u86 := run_underlying Try.underlying74
 have u84 := run_underlying Try.underlying72
 go_enter Try.func55, Try.ntmps55
 go_wp2
 rw [Lib.run_neq_ptr_same w _ Try.underlying72 hj]
 go_wp2
 go_end0
 exact ⟨rfl, rfl⟩

set_option maxHeartbeats 1000000 in
set_option maxRecDepth 100000 in
theorem bld_copyCheck_fresh (b : Nat) (w : World) (h0 : w.cell? ⟨b, 0, none⟩ = some (.pointer none)) (hsh : w.shape? b = some (74, 2)) (hfr : w.frozen? ⟨b, 0, none⟩ = false) :
  Calls Try.prog 55 #[.pointer (some ⟨b, 0, none⟩)] w fun e w' => e = .returned (.tuple #[]) ∧ w' = w.setCell ⟨b, 0, none⟩ (.pointer (some ⟨b, 0, none⟩)) := by
 obtain ⟨j, hj, hjs⟩ := Option.map_eq_some_iff.1 bldX
 go_enter Try.func55, Try.ntmps55
 go_wp2
 rw [Lib.run_to_unsafe w ⟨b, 0, none⟩ Try.underlying72 Try.underlying109 hj (by rw [hjs]; decide) hsh (Nat.zero_lt_succ 1)]
 simp only [Result.andThen]
 rw [Oper.upon_value]
 go_wp2
 rw [run_callFunc_extern Try.func71 (by kernel_rfl) (by kernel_rfl) (by kernel_rfl) (e := Extern.AbiNoEscape.same) (by kernel_rfl)]
 rw [Lib.run_noEscape]
 simp only [Result.andThen]
 rw [Oper.upon_value]
 go_wp2
 rw [Lib.run_from_unsafe w ⟨b, 0, none⟩ Try.underlying109 Try.underlying72 hj hsh bldLies]
 simp only [Result.andThen]
 rw [Oper.upon_value]
 go_wp2
 go_end0
 exact ⟨rfl, rfl⟩
theorem bldByte : (Try.prog.info? 5).map (fun i => (i.zero, i.size, i.bytes)) = some (some (.int .u8 0), 1, 1) := by kernel_rfl

set_option maxHeartbeats 2000000 in
set_option maxRecDepth 100000 in
theorem bld_copyCheck_k (B b : Nat) (bs : List Value) (w : World) (h : Lib.IsBuilderF 74 5 B b bs w) :
  Calls Try.prog 55 #[.pointer (some ⟨b, 0, none⟩)] w fun e w' => e = .returned (.tuple #[]) ∧ (Lib.BuilderAtF 74 5 B b (.pointer (some ⟨b, 0, none⟩)) bs w' ∧ Below B w w' ∧ Lib.OthersKept 5 (some b) w w') := by
 rcases h with h | h
 ·refine (bld_copyCheck_fresh b w h.cell0 h.shape h.frozen0).mono ?_
  rintro e w' ⟨rfl, rfl⟩
  exact ⟨rfl, h.used _, (Below.refl B w).setCell (p := ⟨b, 0, none⟩) h.1 _, (Lib.OthersKept.refl _ _ w).setCell ⟨b, 0, none⟩ rfl _⟩
 ·refine (bld_copyCheck_used b w h.cell0).mono ?_
  rintro e w' ⟨rfl, rfl⟩
  exact ⟨rfl, h, Below.refl B _, Lib.OthersKept.refl _ _ _⟩

set_option maxHeartbeats 2000000 in
set_option maxRecDepth 100000 in
theorem bld_WriteString_k (B b : Nat) (bs : List Value) (s : ByteArray) (w : World) (h : Lib.IsBuilderF 74 5 B b bs w) (hlen : bs.length + s.size ≤ 140737488355328) (hBw : B ≤ w.heap.size) :
  Calls Try.prog 35 #[.pointer (some ⟨b, 0, none⟩), .string s] w fun e w' => e = .returned (.tuple #[.int .i64 s.size, .nilIface]) ∧ (Lib.BuilderAtF 74 5 B b (.pointer (some ⟨b, 0, none⟩)) (bs ++ Lib.strCells s) w' ∧ Below B w w' ∧ Lib.OthersKept 5 (some b) w w') := by
 obtain ⟨i0, hi, hz0, hz1, hz2⟩ := info_parts bldByte
 go_enter Try.func35, Try.ntmps35
 go_wp2_with (go_at_call 55; refine (bld_copyCheck_k B b bs _ h).mono ?_)
 rintro e w1 ⟨rfl, h1, hb1, hk1⟩
 obtain ⟨hB, v, hbk, hown, hne⟩ := h1
 have c0 : w1.cell? ⟨b, 0, none⟩ = some (.pointer (some ⟨b, 0, none⟩)) := by rw [Lib.cell_of_heap hbk]; rfl
 have c1 : w1.cell? ⟨b, 1, none⟩ = some v := by rw [Lib.cell_of_heap hbk]; rfl
 go_wp2_with (at_builtin; refine Lib.wpList_append_own_stringF _ rfl _ _ 34 9 rfl B 5 i0 Try.underlying34 Try.underlying9 hi hz0 hz1 hz2 _ _ _ rfl hown s rfl ?c3 ?c4 ?c5 ?_)
 case c3 => unfold maxLen; omega
 case c4 => omega
 case c5 => have := hb1.size; omega
 intro v' w2 hown' hgrow _
 have hlt : b < w1.heap.size := by
  rcases Nat.lt_or_ge b w1.heap.size with h' | h'
  ·exact h'
  ·simp [Array.getElem?_eq_none h'] at hbk
 have hb2 : w2.heap[b]? = some (.cells #[.pointer (some ⟨b, 0, none⟩), v] 74 (0, 0)) := by
  rw [hgrow.block b hlt (fun e => hne e.symm)]
  exact hbk
 have d0 : w2.cell? ⟨b, 0, none⟩ = some (.pointer (some ⟨b, 0, none⟩)) := by rw [Lib.cell_of_heap hb2]; rfl
 have d1 : w2.cell? ⟨b, 1, none⟩ = some v := by rw [Lib.cell_of_heap hb2]; rfl
 have f1 : w2.frozen? ⟨b, 1, none⟩ = false := Lib.frozen_of_heap hb2 1
 obtain ⟨ao, n', cap, rfl⟩ : ∃ ao n' cap, v' = .slice ao n' cap := by
  rcases hown'.2 with ⟨hv, _⟩ | ⟨g, cap, cur, fz, hv, _⟩
  ·exact ⟨_, _, _, hv⟩
  ·exact ⟨_, _, _, hv⟩
 go_wp2
 go_ret2
 refine ⟨rfl, ?_, ?_, (hk1.grown hgrow (Lib.ownsRowF_kind hown)).setCell ⟨b, 1, none⟩ rfl _⟩
 ·exact Lib.BuilderAtF.put (T := 74) (e := 5) hB hb2 (bs' := bs ++ Lib.strCells s) (by simpa [Lib.strCells_length] using hown') (by decide)
 ·exact (hb1.grown hgrow (by have := hb1.size; omega) (fun k hk => (hown.lt k hk).1)).setCell (p := ⟨b, 1, none⟩) hB _

end Go.Proofs.Ythmbbkbmlnaghaa.P
end
section
/-
 charref.replaced, the plain part: what is written, reference by reference.
-/
namespace Go.Proofs.Ythmbbkbmlnaghaa.P
open Go.RowKit Go.Shelf Go.Proofs.YthmbbkbmlnaghaaW.PrintWords Go.Proofs.YthmbbkbmlnaghaaW.PrintLast Go.Proofs.YthmbbkbmlnaghaaW.PrintMore
set_option linter.unusedVariables false
set_option linter.unusedSimpArgs false

def repStep (g : ByteArray → ByteArray) (m : List UInt8) (st : Nat × List UInt8) (x : Nat × ByteArray × Nat) : Nat × List UInt8 :=
 (x.1 + 1 + x.2.2, st.2 ++ ((m.drop st.1).take (x.1 - st.1) ++ (g x.2.1).data.toList))
def repSt (g : ByteArray → ByteArray) (m : List UInt8) (l : List (Nat × ByteArray × Nat)) : Nat × List UInt8 := l.foldl (repStep g m) (0, [])
theorem repSt_snoc (g : ByteArray → ByteArray) (m : List UInt8) (l : List (Nat × ByteArray × Nat)) (x : Nat × ByteArray × Nat) : repSt g m (l ++ [x]) = repStep g m (repSt g m l) x := by
 unfold repSt
 rw [List.foldl_append]
 rfl
def repText (g : ByteArray → ByteArray) (m : List UInt8) (refs : List (Nat × ByteArray × Nat)) : List UInt8 := (repSt g m refs).2 ++ m.drop (repSt g m refs).1

/-- the places go up -/
def Asc (n : Nat) : Nat → List (Nat × ByteArray × Nat) → Prop
 | _, [] => True
 | i, x :: t => i ≤ x.1 ∧ x.1 + 1 + x.2.2 ≤ n ∧ Asc n (x.1 + 1 + x.2.2) t
theorem Asc.weak {n : Nat} : ∀ {i j : Nat} {l : List (Nat × ByteArray × Nat)}, j ≤ i → Asc n i l → Asc n j l
 | _, _, [], _, _ => trivial
 | _, _, _ :: _, h, ⟨h1, h2, h3⟩ => ⟨Nat.le_trans h h1, h2, h3⟩
theorem refsGo_asc (attr : Bool) (s : ByteArray) : ∀ (k i : Nat) (l : List (Nat × ByteArray × Nat)), refsGo attr s k i = some l → Asc s.size i l
 | 0, i, l, h => by simp [refsGo] at h
 | k + 1, i, l, h => by
  unfold refsGo at h
  by_cases c1 : i < s.size
  ·rw [if_pos c1] at h
   by_cases c2 : bt s i = 38
   ·rw [if_pos c2] at h
    obtain ⟨n, _, h⟩ := Option.bind_eq_some_iff.1 h
    by_cases c3 : 0 ≤ n.2.1 ∧ i + 1 + n.2.1.toNat ≤ s.size
    ·rw [if_pos c3] at h
     by_cases c4 : n.2.1 = 0
     ·rw [if_pos c4] at h
      exact (refsGo_asc attr s k _ l h).weak (by omega)
     ·rw [if_neg c4] at h
      obtain ⟨t, ht, h⟩ := Option.bind_eq_some_iff.1 h
      have := Option.some.inj h
      subst this
      exact ⟨Nat.le_refl _, c3.2, refsGo_asc attr s k _ t ht⟩
    ·rw [if_neg c3] at h
     cases h
   ·rw [if_neg c2] at h
    exact (refsGo_asc attr s k _ l h).weak (by omega)
  ·rw [if_neg c1] at h
   have := Option.some.inj h
   subst this
   trivial
theorem Asc.mid {n : Nat} (g : ByteArray → ByteArray) (m : List UInt8) : ∀ (pre : List (Nat × ByteArray × Nat)) (st : Nat × List UInt8) (x : Nat × ByteArray × Nat) (post : List (Nat × ByteArray × Nat)), Asc n st.1 (pre ++ x :: post) →
  (pre.foldl (repStep g m) st).1 ≤ x.1 ∧ x.1 + 1 + x.2.2 ≤ n ∧ pre.length + st.1 ≤ (pre.foldl (repStep g m) st).1
 | [], st, x, post, h => ⟨h.1, h.2.1, by simp⟩
 | y :: t, st, x, post, h => by
  have := Asc.mid g m t (repStep g m st y) x post (h.2.2)
  refine ⟨this.1, this.2.1, ?_⟩
  have h3 := this.2.2
  have h1 := h.1
  simp only [List.foldl_cons, List.length_cons]
  have e : (repStep g m st y).1 = y.1 + 1 + y.2.2 := rfl
  omega
theorem Asc.end_ {n : Nat} (g : ByteArray → ByteArray) (m : List UInt8) : ∀ (pre : List (Nat × ByteArray × Nat)) (st : Nat × List UInt8), st.1 ≤ n → Asc n st.1 pre → (pre.foldl (repStep g m) st).1 ≤ n ∧ pre.length + st.1 ≤ (pre.foldl (repStep g m) st).1
 | [], st, h0, h => ⟨h0, by simp⟩
 | y :: t, st, h0, h => by
  have := Asc.end_ g m t (repStep g m st y) h.2.1 h.2.2
  refine ⟨this.1, ?_⟩
  have h3 := this.2
  have h1 := h.1
  simp only [List.foldl_cons, List.length_cons]
  have e : (repStep g m st y).1 = y.1 + 1 + y.2.2 := rfl
  omega
theorem repFold_len (g : ByteArray → ByteArray) (m : List UInt8) : ∀ (l : List (Nat × ByteArray × Nat)) (st : Nat × List UInt8), st.2.length ≤ (l.foldl (repStep g m) st).2.length
 | [], st => Nat.le_refl _
 | y :: t, st => by
  have := repFold_len g m t (repStep g m st y)
  have e : (repStep g m st y).2.length = st.2.length + ((m.drop st.1).take (y.1 - st.1) ++ (g y.2.1).data.toList).length := by simp only [repStep, List.length_append]
  simp only [List.foldl_cons]
  omega
theorem repSt_len (g : ByteArray → ByteArray) (m : List UInt8) (a b : List (Nat × ByteArray × Nat)) : (repSt g m a).2.length ≤ (repSt g m (a ++ b)).2.length := by
 have := repFold_len g m b (repSt g m a)
 unfold repSt at this ⊢
 rw [List.foldl_append]
 exact this

/-- A builder is kept where its own block and the rows of bytes are kept. -/
theorem bld_kept {T e : TypeId} {B b : Nat} {bs : List Value} {w w' : World} (h : Lib.IsBuilderF T e B b bs w)
  (hk : ∀ k o, w.heap[k]? = some o → (k = b ∨ ∃ c fz, o = Obj.cells c e fz) → w'.heap[k]? = some o) : Lib.IsBuilderF T e B b bs w' := by
 have key : ∀ p, Lib.BuilderAtF T e B b p bs w → Lib.BuilderAtF T e B b p bs w' := by
  rintro p ⟨hB, v, hb, hown, hne⟩
  refine ⟨hB, v, hk _ _ hb (.inl rfl), ⟨hown.1, ?_⟩, hne⟩
  rcases hown.2 with hn | ⟨g, cap, cur, fz, hv, hbg, hg, rest⟩
  ·exact .inl hn
  ·exact .inr ⟨g, cap, cur, fz, hv, hbg, hk _ _ hg (.inr ⟨_, _, rfl⟩), rest⟩
 exact h.elim (fun x => .inl (key _ x)) (fun x => .inr (key _ x))
theorem bld_below {T e : TypeId} {B b : Nat} {bs : List Value} {w w' : World} (h : Lib.IsBuilderF T e B b bs w) (hb : Below w.heap.size w w') : Lib.IsBuilderF T e B b bs w' :=
 bld_kept h fun k o ho _ => by
  have hlt : k < w.heap.size := (Array.getElem?_eq_some_iff.1 ho).1
  rw [hb.block k hlt]
  exact ho
theorem blk_kept {w w' : World} {k : Nat} {o : Obj} (hb : Below w.heap.size w w') (h : w.heap[k]? = some o) : w'.heap[k]? = some o := by
 rw [hb.block k (Array.getElem?_eq_some_iff.1 h).1]
 exact h

/-- what stands between two references: the five variables that 'replaced' and its literal share -/
def RepI (BY b0 : Nat) (m : ByteArray) (g : ByteArray → ByteArray) (W0 : World) (pre : List (Nat × ByteArray × Nat)) (W : World) : Prop :=
 Lib.IsBuilderF 74 5 b0 (b0 + 2) (Lib.byteCells (repSt g m.data.toList pre).2) W ∧ W.heap[b0]? = some (.cells #[.string m] 9 (0, 0)) ∧
  W.heap[b0 + 1]? = some (.cells #[.func (.func BY) #[] #[]] 89 (0, 0)) ∧ W.heap[b0 + 3]? = some (.cells #[.int .i64 ((repSt g m.data.toList pre).1 : Nat)] 3 (0, 0)) ∧
  W.heap[b0 + 4]? = some (.cells #[.int .i64 (pre.length : Nat)] 3 (0, 0)) ∧ Below b0 W0 W
theorem RepI.below {BY b0 : Nat} {m : ByteArray} {g : ByteArray → ByteArray} {W0 : World} {pre : List (Nat × ByteArray × Nat)} {W W' : World} (h : RepI BY b0 m g W0 pre W) (hb : Below W.heap.size W W') : RepI BY b0 m g W0 pre W' := by
 obtain ⟨hI, hS, hBy, hF, hN, hB⟩ := h
 have hlt : b0 < W.heap.size := (Array.getElem?_eq_some_iff.1 hS).1
 exact ⟨bld_below hI hb, blk_kept hb hS, blk_kept hb hBy, blk_kept hb hF, blk_kept hb hN, hB.trans (hb.mono (by omega))⟩
end Go.Proofs.Ythmbbkbmlnaghaa.P
end
section
/-
 charref.replaced over Clean's literal: the function's own literal, which writes a reference's text, and the whole.
-/
namespace Go.Proofs.Ythmbbkbmlnaghaa.P
open Go.RowKit Go.Shelf Go.Proofs.YthmbbkbmlnaghaaW.PrintWords Go.Proofs.YthmbbkbmlnaghaaW.PrintLast Go.Proofs.YthmbbkbmlnaghaaW.PrintMore
set_option linter.unusedVariables false
set_option linter.unusedSimpArgs false

set_option maxRecDepth 100000 in
set_option maxHeartbeats 8000000 in
theorem C_rep1_calls (b0 : Nat) (m : ByteArray) (g : ByteArray → ByteArray) (W0 : World) (pre : List (Nat × ByteArray × Nat)) (x : Nat × ByteArray × Nat) (W : World) (b : Bool)
  (h : RepI 41 b0 m g W0 pre W) (hle : (repSt g m.data.toList pre).1 ≤ x.1) (hx : x.1 + 1 + x.2.2 ≤ m.size) (hm : m.size ≤ 35184372088831) (hp : pre.length ≤ m.size)
  (hlen : (repSt g m.data.toList (pre ++ [x])).2.length ≤ 140737488355328)
  (hby : ∀ (n : Int) (b : Bool) (W : World), Calls Try.prog 41 #[.agg #[.string x.2.1, .int .i64 n, .bool b]] W fun e W' => e = .returned (.string (g x.2.1)) ∧ Below W.heap.size W W') :
  Calls Try.prog 58 (#[.int .i64 (x.1 : Nat), .agg #[.string x.2.1, .int .i64 (x.2.2 : Nat), .bool b]] ++
    #[.pointer (some ⟨b0 + 2, 0, none⟩), .pointer (some ⟨b0, 0, none⟩), .pointer (some ⟨b0 + 3, 0, none⟩), .pointer (some ⟨b0 + 1, 0, none⟩), .pointer (some ⟨b0 + 4, 0, none⟩)]) W fun e W' =>
   e = .returned (.bool true) ∧ RepI 41 b0 m g W0 (pre ++ [x]) W' ∧ ∀ (j : Nat) (cs : Array Value), W.heap[j]? = some (Obj.cells cs 88 (0, 0)) → W'.heap[j]? = some (Obj.cells cs 88 (0, 0)) := by
 obtain ⟨hI, hS, hBy, hF, hN, hB⟩ := h
 have HI := Aside0.mk hI
 have HS := Aside0.mk hS
 have HBy := Aside0.mk hBy
 have HF := Aside0.mk hF
 have HN := Aside0.mk hN
 have HB := Aside0.mk hB
 have HBY := Aside0.mk hby
 have HLEN := Aside0.mk hlen
 have HN4 := Aside0.mk (show b0 + 4 < W.heap.size from (Array.getElem?_eq_some_iff.1 hN).1)
 clear hI hS hBy hF hN hB hby hlen
 obtain ⟨at_, says, size⟩ := x
 simp only at hle hx HBY
 have hstep := repSt_snoc g m.data.toList pre (at_, says, size)
 generalize hst : repSt g m.data.toList pre = st at hle HI HF hstep
 obtain ⟨fr, acc⟩ := st
 simp only at hle HI HF hstep
 have HST := Aside0.mk hst
 have HSTEP := Aside0.mk hstep
 clear hst hstep
 have hl1 : acc.length + (m.extract fr at_).size ≤ 140737488355328 := by
  have := HLEN.out
  rw [HSTEP.out] at this
  simp [repStep] at this
  have e : (m.extract fr at_).size = at_ - fr := by simp; omega
  omega
 have hl2 : (acc ++ (m.extract fr at_).data.toList).length + (g says).size ≤ 140737488355328 := by
  have := HLEN.out
  rw [HSTEP.out] at this
  simp [repStep] at this
  have e : (m.extract fr at_).size = at_ - fr := by simp; omega
  have e2 : (g says).data.size = (g says).size := rfl
  simp
  omega
 have HL1 := Aside0.mk hl1
 have HL2 := Aside0.mk hl2
 clear hl1 hl2
 have s1 : ((0 : Int) ≤ (fr : Int)) = True := eq_true (by omega)
 have s2 : ((fr : Int) ≤ (at_ : Int)) = True := eq_true (by omega)
 have s3 : ((at_ : Int) ≤ (m.size : Int)) = True := eq_true (by omega)
 have w1 : IntKind.i64.wrap ((at_ : Int) + 1) = (at_ : Int) + 1 := IntWalk.i64_in _ (by omega)
 have w2 : IntKind.i64.wrap ((at_ : Int) + 1 + (size : Int)) = ((at_ + 1 + size : Nat) : Int) := by rw [IntWalk.i64_in _ (by omega)]; omega
 have w3 : IntKind.i64.wrap ((pre.length : Int) + 1) = ((pre.length + 1 : Nat) : Int) := by rw [IntWalk.i64_in _ (by omega)]; omega
 have hu60 := Try.underlying88
 have HB0 := Aside0.mk (Below.refl W.heap.size W)
 go_enter Try.func58, Try.ntmps58
 go_wp2_with (first | ((with_reducible refine gate_dst (N := 8) rfl ?_); refine box_event ?hg (N := 8) ?hd (cs := #[.string says, .int .i64 (size : Nat), .bool b]) (t := 88) ?hr ?_; (case hd => rfl); (case hg => rfl); (case hr => first | (go_simp; done) | (go_simp; rfl)); intro gb hg w5 hbox hb; have HB5 := Aside0.mk (below_step HB0.out hb); have BK5 := Aside0.mk hbox; have NE5 : some gb ≠ some (b0 + 2) := (by intro e; have e := Option.some.inj e; have := HN4.out; rw [hg] at e; omega); clear hb hbox hg; have hcS5 : w5.cell? ⟨b0, 0, none⟩ = some (.string m) := (blk_cell (blk_kept HB5.out HS.out) 0).trans rfl; have hcF5 : w5.cell? ⟨b0 + 3, 0, none⟩ = some (.int .i64 (fr : Nat)) := (blk_cell (blk_kept HB5.out HF.out) 0).trans rfl) | (go_at_call 35; refine (bld_WriteString_k b0 (b0 + 2) (Lib.byteCells (acc ++ (m.extract fr at_).data.toList)) (g says) w7 (by rw [Lib.byteCells_append]; exact bld_below (.inr HI6.out) HBEL7.out) (by rw [Lib.byteCells_length]; exact HL2.out) (by have := HN4.out; have := HB5.out.size; have := HBEL6.out.size; have := HBEL7.out.size; omega)).mono ?_; rintro e w8 ⟨rfl, hb8, hbel8, hok8⟩; have HOK8 := Aside0.mk hok8; have HI8 := Aside0.mk hb8; have HBEL8 := Aside0.mk hbel8; clear hok8 hb8 hbel8; have KP := Aside0.mk (fun (k : Nat) (o : Obj) (h5 : w5.heap[k]? = some o) (hne : some k ≠ some (b0 + 2)) (ho : ∀ c fz, o ≠ Obj.cells c 5 fz) => HOK8.out k o (blk_kept HBEL7.out (HOK6.out k o h5 hne ho)) hne ho); have BK8 := Aside0.mk (KP.out gb _ BK5.out NE5 (fun c fz e => by cases e)); have BF8 := Aside0.mk (KP.out (b0 + 3) _ (blk_kept HB5.out HF.out) (by simp) (fun c fz e => by cases e)); have BN8 := Aside0.mk (KP.out (b0 + 4) _ (blk_kept HB5.out HN.out) (by simp) (fun c fz e => by cases e)); have hch8 : w8.cell? ⟨gb, 1, none⟩ = some (.int .i64 (size : Nat)) := (blk_cell BK8.out 1).trans rfl; have hcF8 : w8.cell? ⟨b0 + 3, 0, none⟩ = some (.int .i64 (fr : Nat)) := (blk_cell BF8.out 0).trans rfl; have hcN8 : w8.cell? ⟨b0 + 4, 0, none⟩ = some (.int .i64 (pre.length : Nat)) := (blk_cell BN8.out 0).trans rfl; have hfF8 := blk_frozen BF8.out 0; have hfN8 := blk_frozen BN8.out 0) | (go_at_call 41; refine (HBY.out (size : Nat) b w6).mono ?_; rintro e w7 ⟨rfl, hbel7⟩; have HBEL7 := Aside0.mk hbel7; clear hbel7) | (go_at_call 35; refine (bld_WriteString_k b0 (b0 + 2) (Lib.byteCells acc) (m.extract fr at_) w5 (bld_below HI.out HB5.out) (by rw [Lib.byteCells_length]; exact HL1.out) (by have := HN4.out; have := HB5.out.size; omega)).mono ?_; rintro e w6 ⟨rfl, hb6, hbel6, hok6⟩; have HOK6 := Aside0.mk hok6; have HI6 := Aside0.mk hb6; have HBEL6 := Aside0.mk hbel6; clear hok6 hb6 hbel6; have BK6 := Aside0.mk (HOK6.out gb _ BK5.out NE5 (fun c fz e => by cases e)); have hcB6 : w6.cell? ⟨b0 + 1, 0, none⟩ = some (.func (.func 41) #[] #[]) := (blk_cell (HOK6.out (b0 + 1) _ (blk_kept HB5.out HBy.out) (by simp) (fun c fz e => by cases e)) 0).trans rfl; have hcg6 : w6.cell? ⟨gb, 0, none⟩ = some (.string says) := (blk_cell BK6.out 0).trans rfl; have hch6 : w6.cell? ⟨gb, 1, none⟩ = some (.int .i64 (size : Nat)) := (blk_cell BK6.out 1).trans rfl; have hci6 : w6.cell? ⟨gb, 2, none⟩ = some (.bool b) := (blk_cell BK6.out 2).trans rfl))
 go_ret
 have hext : (m.extract fr at_).data.toList = (m.data.toList.drop fr).take (at_ - fr) := Lib.extract_data m fr at_
 have kS := KP.out b0 _ (blk_kept HB5.out HS.out) (by intro e; have e := Option.some.inj e; omega) (fun c fz e => by cases e)
 have kBy := KP.out (b0 + 1) _ (blk_kept HB5.out HBy.out) (by intro e; have e := Option.some.inj e; omega) (fun c fz e => by cases e)
 refine ⟨rfl, ⟨?_, ?_, ?_, ?_, ?_, ?_⟩, ?_⟩
 ·rw [HSTEP.out]
  show Lib.IsBuilderF _ _ _ _ (Lib.byteCells (acc ++ ((m.data.toList.drop fr).take (at_ - fr) ++ (g says).data.toList))) _
  rw [← hext, ← List.append_assoc, Lib.byteCells_append]
  refine bld_kept (.inr HI8.out) ?_
  intro k o ho hk
  have n3 : k ≠ b0 + 3 := by
   rintro rfl
   rcases hk with hk | ⟨c, fz, rfl⟩
   ·omega
   ·rw [BF8.out] at ho
    cases ho
  have n4 : k ≠ b0 + 4 := by
   rintro rfl
   rcases hk with hk | ⟨c, fz, rfl⟩
   ·omega
   ·rw [BN8.out] at ho
    cases ho
  rw [Below.heap_setCell _ _ _ _ n4, Below.heap_setCell _ _ _ _ n3]
  exact ho
 ·rw [Below.heap_setCell _ _ _ _ (show b0 ≠ b0 + 4 by omega), Below.heap_setCell _ _ _ _ (show b0 ≠ b0 + 3 by omega)]
  exact kS
 ·rw [Below.heap_setCell _ _ _ _ (show b0 + 1 ≠ b0 + 4 by omega), Below.heap_setCell _ _ _ _ (show b0 + 1 ≠ b0 + 3 by omega)]
  exact kBy
 ·rw [Below.heap_setCell _ _ _ _ (show b0 + 3 ≠ b0 + 4 by omega), HSTEP.out]
  exact blk_put (cs := #[.int .i64 (fr : Nat)]) BF8.out 0 _ rfl
 ·refine blk_put (cs := #[.int .i64 (pre.length : Nat)]) ?_ 0 _ ?_
  ·rw [Below.heap_setCell _ _ _ _ (show b0 + 4 ≠ b0 + 3 by omega)]
   exact BN8.out
  ·simp
 ·have l1 := HN4.out
  have l2 := HBEL6.out.size
  exact (((((HB.out.trans (HB5.out.mono (by omega))).trans HBEL6.out).trans (HBEL7.out.mono (by have := HB5.out.size; omega))).trans HBEL8.out).setCell (p := ⟨b0 + 3, 0, none⟩) (by show b0 ≤ b0 + 3; omega) _).setCell (p := ⟨b0 + 4, 0, none⟩) (by show b0 ≤ b0 + 4; omega) _
 ·intro j cs hj
  have hj5 := blk_kept HB5.out hj
  have n2 : j ≠ b0 + 2 := by
   rintro rfl
   obtain ⟨hB, v, hb, _⟩ := HI8.out
   have hlt : b0 + 2 < W.heap.size := (Array.getElem?_eq_some_iff.1 hj).1
   rcases HI.out with ⟨_, v, hb, _⟩ | ⟨_, v, hb, _⟩ <;> (rw [hj] at hb; cases hb)
  have n3 : j ≠ b0 + 3 := by
   rintro rfl
   rw [HF.out] at hj
   cases hj
  have n4 : j ≠ b0 + 4 := by
   rintro rfl
   rw [HN.out] at hj
   cases hj
  rw [Below.heap_setCell _ _ _ _ n4, Below.heap_setCell _ _ _ _ n3]
  exact KP.out j _ hj5 (fun e => n2 (Option.some.inj e)) (fun c fz e => by cases e)
end Go.Proofs.Ythmbbkbmlnaghaa.P
end
section
/-
 charref.replaced over Clean's literal.
-/
namespace Go.Proofs.Ythmbbkbmlnaghaa.P
open Go.RowKit Go.Shelf Go.Proofs.YthmbbkbmlnaghaaW.PrintWords Go.Proofs.YthmbbkbmlnaghaaW.PrintLast Go.Proofs.YthmbbkbmlnaghaaW.PrintMore
set_option linter.unusedVariables false
set_option linter.unusedSimpArgs false

theorem C_alloc_get {w : World} {k : Nat} {x : Obj} (o : Obj) (h : w.heap[k]? = some x) : (w.alloc o).heap[k]? = some x :=
 (Lib.alloc_old w o k (Array.getElem?_eq_some_iff.1 h).1).trans h

set_option maxRecDepth 100000 in
set_option maxHeartbeats 2000000 in
theorem C_replaced_calls (k : Nat) (m : ByteArray) (attr : Bool) (g : ByteArray → ByteArray) (refs : List (Nat × ByteArray × Nat)) (w : World) (hm : m.size ≤ 35184372088831) (href : refsGo attr m k 0 = some refs)
  (hlen : (repText g m.data.toList refs).length ≤ 140737488355328)
  (hby : ∀ x ∈ refs, ∀ (n : Int) (b : Bool) (W : World), Calls Try.prog 41 #[.agg #[.string x.2.1, .int .i64 n, .bool b]] W fun e W' => e = .returned (.string (g x.2.1)) ∧ Below W.heap.size W W') :
  Calls Try.prog 40 #[.string m, .bool attr, .func (.func 41) #[] #[]] w fun e w' =>
   e = .returned (.tuple #[.string ⟨(repText g m.data.toList refs).toArray⟩, .int .i64 (refs.length : Nat)]) ∧ Below w.heap.size w w' := by
 have HBY := Aside0.mk hby
 have HREF := Aside0.mk href
 have HLEN := Aside0.mk hlen
 clear hby href hlen
 have hasc := refsGo_asc attr m k 0 refs HREF.out
 have hend := Asc.end_ g m.data.toList refs (0, []) (Nat.zero_le _) hasc
 have HEND := Aside0.mk hend
 have HASC := Aside0.mk hasc
 clear hasc hend
 -- the world when the references begin
 have hw5 : RepI 41 w.heap.size m g w [] (((((w.alloc (.cells #[.string m] 9)).alloc (.cells #[.func (.func 41) #[] #[]] 89)).alloc (.cells #[.pointer none, .slice none 0 0] 74)).alloc (.cells #[.int .i64 0] 3)).alloc (.cells #[.int .i64 0] 3)) := by
  have z1 : (w.alloc (.cells #[.string m] 9)).heap.size = w.heap.size + 1 := by simp
  have z2 : ((w.alloc (.cells #[.string m] 9)).alloc (.cells #[.func (.func 41) #[] #[]] 89)).heap.size = w.heap.size + 2 := by simp
  have z3 : (((w.alloc (.cells #[.string m] 9)).alloc (.cells #[.func (.func 41) #[] #[]] 89)).alloc (.cells #[.pointer none, .slice none 0 0] 74)).heap.size = w.heap.size + 3 := by simp
  have z4 : ((((w.alloc (.cells #[.string m] 9)).alloc (.cells #[.func (.func 41) #[] #[]] 89)).alloc (.cells #[.pointer none, .slice none 0 0] 74)).alloc (.cells #[.int .i64 0] 3)).heap.size = w.heap.size + 4 := by simp
  refine ⟨.inl ⟨by omega, .slice none 0 0, ?_, ⟨rfl, .inl ⟨rfl, rfl⟩⟩, by simp [Value.ownBlock]⟩, ?_, ?_, ?_, ?_, ?_⟩
  ·have := heap_alloc_new ((w.alloc (.cells #[.string m] 9)).alloc (.cells #[.func (.func 41) #[] #[]] 89)) (.cells #[.pointer none, .slice none 0 0] 74)
   rw [z2] at this
   exact C_alloc_get _ (C_alloc_get _ this)
  ·exact C_alloc_get _ (C_alloc_get _ (C_alloc_get _ (C_alloc_get _ (heap_alloc_new w _))))
  ·have := heap_alloc_new (w.alloc (.cells #[.string m] 9)) (.cells #[.func (.func 41) #[] #[]] 89)
   rw [z1] at this
   exact C_alloc_get _ (C_alloc_get _ (C_alloc_get _ this))
  ·have := heap_alloc_new (((w.alloc (.cells #[.string m] 9)).alloc (.cells #[.func (.func 41) #[] #[]] 89)).alloc (.cells #[.pointer none, .slice none 0 0] 74)) (.cells #[.int .i64 0] 3)
   rw [z3] at this
   exact C_alloc_get _ this
  ·have := heap_alloc_new ((((w.alloc (.cells #[.string m] 9)).alloc (.cells #[.func (.func 41) #[] #[]] 89)).alloc (.cells #[.pointer none, .slice none 0 0] 74)).alloc (.cells #[.int .i64 0] 3)) (.cells #[.int .i64 0] 3)
   rw [z4] at this
   exact this
  ·exact (((((Below.refl _ w).alloc (Nat.le_refl _) _).alloc (by omega) _).alloc (by omega) _).alloc (by omega) _).alloc (by omega) _
 have HW5 := Aside0.mk hw5
 clear hw5
 have heach := fun W5 (h5 : RepI 41 w.heap.size m g w [] W5) => charref_each_calls k m attr #[.pointer (some ⟨w.heap.size + 1 + 1, 0, none⟩), .pointer (some ⟨w.heap.size, 0, none⟩), .pointer (some ⟨w.heap.size + 1 + 1 + 1, 0, none⟩), .pointer (some ⟨w.heap.size + 1, 0, none⟩), .pointer (some ⟨w.heap.size + 1 + 1 + 1 + 1, 0, none⟩)]
  refs (RepI 41 w.heap.size m g w) W5 hm HREF.out (fun pre W W' h hb => h.below hb) (by
   rintro pre x W b hinv ⟨post, hpost⟩
   have hmid := Asc.mid (n := m.size) g m.data.toList pre (0, []) x post (by rw [← List.append_cons] at hpost; rw [hpost]; exact HASC.out)
   refine C_rep1_calls w.heap.size m g w pre x W b hinv hmid.1 hmid.2.1 hm ?_ ?_ (HBY.out x (by rw [← hpost]; simp))
   ·have h1 := hmid.2.2
    have h2 := hmid.1
    have h3 := hmid.2.1
    simp only [Nat.add_zero] at h1
    omega
   ·have h1 := repSt_len g m.data.toList (pre ++ [x]) post
    rw [hpost] at h1
    have h2 := HLEN.out
    unfold repText at h2
    rw [List.length_append] at h2
    omega) h5
 have HEACH := Aside0.mk heach
 clear heach
 have hend := HEND.out
 have hlen := HLEN.out
 unfold repText at hlen
 have htx : repText g m.data.toList refs = (repSt g m.data.toList refs).2 ++ m.data.toList.drop (repSt g m.data.toList refs).1 := rfl
 have HTX := Aside0.mk htx
 clear htx
 change (repSt g m.data.toList refs).1 ≤ m.size ∧ refs.length + 0 ≤ (repSt g m.data.toList refs).1 at hend
 obtain ⟨fr, acc, hst⟩ : ∃ fr acc, repSt g m.data.toList refs = (fr, acc) := ⟨_, _, rfl⟩
 have hri : ∀ W, RepI 41 w.heap.size m g w refs W → Lib.IsBuilderF 74 5 w.heap.size (w.heap.size + 1 + 1) (Lib.byteCells acc) W ∧ W.heap[w.heap.size]? = some (.cells #[.string m] 9 (0, 0)) ∧
   W.heap[w.heap.size + 1 + 1 + 1]? = some (.cells #[.int .i64 (fr : Nat)] 3 (0, 0)) ∧ W.heap[w.heap.size + 1 + 1 + 1 + 1]? = some (.cells #[.int .i64 (refs.length : Nat)] 3 (0, 0)) ∧ Below w.heap.size w W := by
  rintro W ⟨h1, h2, _, h3, h4, h5⟩
  rw [hst] at h1 h3
  exact ⟨h1, h2, h3, h4, h5⟩
 have HRI := Aside0.mk hri
 clear hri
 rw [hst] at hend hlen HTX
 simp only at hend hlen HTX
 clear hst
 rw [List.length_append, List.length_drop] at hlen
 have hml : m.data.toList.length = m.size := by simp
 have HL := Aside0.mk (show acc.length + (m.extract fr m.size).size ≤ 140737488355328 by
  have e : (m.extract fr m.size).size = m.size - fr := by simp
  omega)
 clear hlen hml
 have s1 : ((0 : Int) ≤ (fr : Int)) = True := eq_true (by omega)
 have s2 : ((fr : Int) ≤ (m.size : Int)) = True := eq_true (by omega)
 go_enter Try.func40, Try.ntmps40
 go_wp2_with (first | (go_at_call 47; refine (HEACH.out _ HW5.out).mono ?_; rintro e w6 ⟨rfl, hr6⟩; have hr6' := HRI.out w6 hr6; clear hr6; obtain ⟨hI6, hS6, hF6, hN6, hB6⟩ := hr6'; have HI6 := Aside0.mk hI6; have HS6 := Aside0.mk hS6; have HF6 := Aside0.mk hF6; have HN6 := Aside0.mk hN6; have HB6 := Aside0.mk hB6; clear hI6 hS6 hF6 hN6 hB6; have hcS6 : w6.cell? ⟨w.heap.size, 0, none⟩ = some (.string m) := (blk_cell HS6.out 0).trans rfl; have hcF6 : w6.cell? ⟨w.heap.size + 1 + 1 + 1, 0, none⟩ = some (.int .i64 (fr : Nat)) := (blk_cell HF6.out 0).trans rfl) | (go_at_call 35; refine (bld_WriteString_k w.heap.size (w.heap.size + 1 + 1) (Lib.byteCells acc) (m.extract fr m.size) w6 HI6.out (by rw [Lib.byteCells_length]; exact HL.out) HB6.out.size).mono ?_; rintro e w7 ⟨rfl, hb7, hbel7, hok7⟩; have HI7 := Aside0.mk hb7; have HBEL7 := Aside0.mk hbel7; have HN7 := Aside0.mk (hok7 (w.heap.size + 1 + 1 + 1 + 1) _ HN6.out (by intro e; have e := Option.some.inj e; omega) (fun c fz e => by cases e)); clear hb7 hbel7 hok7; have hcN7 : w7.cell? ⟨w.heap.size + 1 + 1 + 1 + 1, 0, none⟩ = some (.int .i64 (refs.length : Nat)) := (blk_cell HN7.out 0).trans rfl))
 have hb7 : Lib.IsBuilderF 74 5 w.heap.size (w.heap.size + 1 + 1) (Lib.byteCells (acc ++ m.data.toList.drop fr)) w7 := by
  have e : (m.extract fr m.size).data.toList = m.data.toList.drop fr := by
   rw [Lib.extract_data, List.take_of_length_le (by simp)]
  rw [Lib.byteCells_append, ← e]
  exact .inr HI7.out
 have HSTR := Aside0.mk (Try.Builder_String_any_k w.heap.size (w.heap.size + 1 + 1) (acc ++ m.data.toList.drop fr) w7.drew hb7 (Nat.le_trans HB6.out.size HBEL7.out.size))
 clear hb7
 go_region_with (go_at_call 37; refine HSTR.out.mono ?_; rintro e w8 ⟨rfl, _, hbel8, hok8⟩; have HBEL8 := Aside0.mk hbel8; have HN8 := Aside0.mk (hok8 (w.heap.size + 1 + 1 + 1 + 1) _ HN7.out (by intro e; have e := Option.some.inj e; omega) (fun c fz e => by cases e)); clear hbel8 hok8; have hcN8 : w8.cell? ⟨w.heap.size + 1 + 1 + 1 + 1, 0, none⟩ = some (.int .i64 (refs.length : Nat)) := (blk_cell HN8.out 0).trans rfl)
 all_goals (try go_wp2)
 all_goals go_ret2
 all_goals exact ⟨by rw [HTX.out]; rfl, (below_drew (HB6.out.trans HBEL7.out)).trans HBEL8.out⟩
end Go.Proofs.Ythmbbkbmlnaghaa.P
end
section
namespace Go.Proofs.Ythmbbkbmlnaghaa.P
open Go.RowKit Go.Proofs.YthmbbkbmlnaghaaW.PrintWords Go.Proofs.YthmbbkbmlnaghaaW.PrintLast Go.Proofs.YthmbbkbmlnaghaaW.PrintMore
attribute [local go_sem] max2_int min2_int max_two min_two max_three min_three max_four min_four   -- for this text's walks alone
set_option linter.unusedVariables false
set_option linter.unusedSimpArgs false

/-! ### sieveref04_Digit: function 65 -/
def sieveref04_Digit.f (a0 : Int) : Option (Bool) := if a0 ≥ 48 then (some (decide (a0 ≤ 57))) else (some false)
set_option maxHeartbeats 8000000 in
set_option maxRecDepth 100000 in
theorem sieveref04_Digit.calls (a0 : Int) (r : Bool) (w : World) (h : sieveref04_Digit.f a0 = some r) :
  Calls Try.prog 65 #[.int .i32 a0] w fun e w' => e = .returned (.bool r) ∧ Drawn0 w w' := by
 have H : (if a0 ≥ 48 then (some (decide (a0 ≤ 57))) else (some false)) = some r := h
 clear h
 by_cases c2 : a0 ≥ 48
 ·rw [if_pos c2] at H
  have c2b0 : decide (48 ≤ a0) = true := decide_eq_true c2
  clear c2
  obtain rfl := Option.some.inj H
  go_enter Try.func65, Try.ntmps65
  go_wp2
  go_ret
  exact ⟨by first | rfl | (simp; done) | (simp [*]; done), by repeat (first | exact Drawn0.refl _ | apply Drawn0.step)⟩
 ·rw [if_neg c2] at H
  have c2b0 : decide (48 ≤ a0) = false := decide_eq_false c2
  clear c2
  obtain rfl := Option.some.inj H
  go_enter Try.func65, Try.ntmps65
  go_wp2
  go_ret
  exact ⟨by first | rfl | (simp; done) | (simp [*]; done), by repeat (first | exact Drawn0.refl _ | apply Drawn0.step)⟩

/-! ### sieveref04_Value: function 75 -/
def sieveref04_Value.j0 : Nat → Int → Bool → Option (Int)
 | 0, _, _ => none
 | k + 1, x0, x9 => if x9 = true then (some (wrap64 ((wrap64 (wrap32 (x0 - 97))) + 10))) else (if x0 ≥ 65 then (if x0 ≤ 70 then (some (wrap64 ((wrap64 (wrap32 (x0 - 65))) + 10))) else (some (-1))) else (some (-1)))
def sieveref04_Value.f (k : Nat) (a0 : Int) : Option (Int) := (sieveref04_Digit.f a0).bind fun t122 => (if t122 = true then (some (wrap64 (wrap32 (a0 - 48)))) else (if a0 ≥ 97 then (sieveref04_Value.j0 k a0 (decide (a0 ≤ 102))) else (sieveref04_Value.j0 k a0 false)))
theorem sieveref04_Value.mono_l : ∀ k, (∀ y0 y1, LeO (sieveref04_Value.j0 k y0 y1) (sieveref04_Value.j0 (k + 1) y0 y1))
 | 0 => fun _ _ r h => by simp [sieveref04_Value.j0] at h
 | k + 1 => by
  have ih0 := sieveref04_Value.mono_l k
  ·intro y0 y1
   unfold sieveref04_Value.j0
   repeat' first
   | (with_reducible exact ih0 _ _)
   | (with_reducible exact LeO.refl _)
   | (with_reducible exact LeO.none _)
   | (with_reducible refine LeO.ite ?_ ?_)
   | (with_reducible refine LeO.bind ?_ (fun _ => ?_))
   | exact ih0 _ _
   | exact LeO.none _
   | refine LeO.ite ?_ ?_
   | refine LeO.bind ?_ (fun _ => ?_)
set_option maxHeartbeats 8000000 in
set_option maxRecDepth 100000 in
theorem sieveref04_Value.calls (k : Nat) (a0 : Int) (r : Int) (w : World) (h : sieveref04_Value.f k a0 = some r) :
  Calls Try.prog 75 #[.int .i32 a0] w fun e w' => e = .returned (.int .i64 r) ∧ Drawn0 w w' := by
 have H : ((sieveref04_Digit.f a0).bind fun t122 => (if t122 = true then (some (wrap64 (wrap32 (a0 - 48)))) else (if a0 ≥ 97 then (sieveref04_Value.j0 k a0 (decide (a0 ≤ 102))) else (sieveref04_Value.j0 k a0 false)))) = some r := h
 clear h
 replace H := Option.bind_eq_some_iff.mp H
 obtain ⟨t122, A20, H⟩ := H
 replace H : (if t122 = true then (some (wrap64 (wrap32 (a0 - 48)))) else (if a0 ≥ 97 then (sieveref04_Value.j0 k a0 (decide (a0 ≤ 102))) else (sieveref04_Value.j0 k a0 false))) = some r := H
 have A2 := Aside0.mk A20
 clear A20
 by_cases c3 : t122 = true
 ·subst c3
  have H1 : (some (wrap64 (wrap32 (a0 - 48)))) = some r := by rw [if_pos rfl] at H; exact H
  clear H
  have H := H1
  clear H1
  obtain rfl := Option.some.inj H
  go_enter Try.func75, Try.ntmps75
  go_wp2_with (first | ((with_reducible refine gate_callee (f := 65) rfl ?_); refine goesL_ (some 5) rfl rfl Try.func65 (by kernel_rfl) rfl #[.int .i32 a0] rfl (by (try simp only [List.map_toArray, List.map_cons, List.map_nil]); first | done | rfl | (simp only [List.length_drop, List.length_take]; rfl) | (simp [*] <;> rfl)) ?_; (with_reducible refine (sieveref04_Digit.calls a0 true _ A2.out).mono ?_); rintro e w' ⟨rfl, ⟨nd, rfl⟩⟩; refine ⟨_, rfl, ?_⟩))
  go_ret
  exact ⟨by first | rfl | (simp; done) | (simp [*]; done), by repeat (first | exact Drawn0.refl _ | apply Drawn0.step)⟩
 ·replace c3 := Bool.eq_false_iff.mpr c3
  subst c3
  have H1 : (if a0 ≥ 97 then (sieveref04_Value.j0 k a0 (decide (a0 ≤ 102))) else (sieveref04_Value.j0 k a0 false)) = some r := by rw [if_neg (show ¬ (false = true) by decide)] at H; exact H
  clear H
  have H := H1
  clear H1
  have HC4 := Aside0.mk H
  clear H
  go_enter Try.func75, Try.ntmps75
  go_upto_region 3 with (first | ((with_reducible refine gate_callee (f := 65) rfl ?_); refine goesL_ (some 5) rfl rfl Try.func65 (by kernel_rfl) rfl #[.int .i32 a0] rfl (by (try simp only [List.map_toArray, List.map_cons, List.map_nil]); first | done | rfl | (simp only [List.length_drop, List.length_take]; rfl) | (simp [*] <;> rfl)) ?_; (with_reducible refine (sieveref04_Digit.calls a0 false _ A2.out).mono ?_); rintro e w' ⟨rfl, ⟨nd, rfl⟩⟩; refine ⟨_, rfl, ?_⟩))
  (try simp only [Act.put, List.setIfInBounds_toArray, List.set_cons_zero, List.set_cons_succ])
  go_cut [9] (fun v9 wc => ∃ (kq : Nat) (x9_3 : Bool), v9 = .bool x9_3 ∧ Aside0 (sieveref04_Value.j0 kq a0 x9_3 = some r) ∧ Aside0 (kq ≤ k) ∧ Drawn0 w wc)
  case first =>
   have H := HC4.out
   clear HC4
   by_cases c5 : a0 ≥ 97
   ·rw [if_pos c5] at H
    have c5b0 : decide (97 ≤ a0) = true := decide_eq_true c5
    clear c5
    (first | rw [c5b0] | (simp only [i64_w, i32_w]; rw [c5b0]) | skip)
    have H' := Aside0.mk H
    clear H
    go_wp2
    go_meet
    case rel => exact ⟨_, (decide (a0 ≤ 102)), (by first | rfl | (simp; done) | (simp [*]; done) | (unfold bt; split <;> first | rfl | (exfalso; simp_all; done) | (exfalso; simp_all; omega))), H', ⟨by first | omega | exact Nat.le_refl _⟩, by repeat (first | exact Drawn0.refl _ | apply Drawn0.step)⟩
   ·rw [if_neg c5] at H
    have c5b0 : decide (97 ≤ a0) = false := decide_eq_false c5
    clear c5
    (first | rw [c5b0] | (simp only [i64_w, i32_w]; rw [c5b0]) | skip)
    have H' := Aside0.mk H
    clear H
    go_wp2
    go_meet
    case rel => exact ⟨_, (false), (by first | rfl | (simp; done) | (simp [*]; done) | (unfold bt; split <;> first | rfl | (exfalso; simp_all; done) | (exfalso; simp_all; omega))), H', ⟨by first | omega | exact Nat.le_refl _⟩, by repeat (first | exact Drawn0.refl _ | apply Drawn0.step)⟩
  case rest =>
   clear HC4
   try clear p2
   try clear c3
   try clear p3
   try clear c5
   try clear c5b0
   obtain ⟨kq, x9_3, rfl, HA, HJ3, ⟨mc3, rfl⟩⟩ := hcut
   cases kq with
   | zero => exact absurd HA.out (by simp [sieveref04_Value.j0])
   | succ kj3 =>
    have H := HA.out
    clear HA
    simp only [sieveref04_Value.j0] at H
    by_cases c6 : x9_3 = true
    ·subst c6
     have H1 : (some (wrap64 ((wrap64 (wrap32 (a0 - 97))) + 10))) = some r := by rw [if_pos rfl] at H; exact H
     clear H
     have H := H1
     clear H1
     obtain rfl := Option.some.inj H
     go_wp2
     go_ret
     exact ⟨by first | rfl | (simp; done) | (simp [*]; done), by repeat (first | exact Drawn0.refl _ | apply Drawn0.step)⟩
    ·replace c6 := Bool.eq_false_iff.mpr c6
     subst c6
     have H1 : (if a0 ≥ 65 then (if a0 ≤ 70 then (some (wrap64 ((wrap64 (wrap32 (a0 - 65))) + 10))) else (some (-1))) else (some (-1))) = some r := by rw [if_neg (show ¬ (false = true) by decide)] at H; exact H
     clear H
     have H := H1
     clear H1
     by_cases c7 : a0 ≥ 65
     ·rw [if_pos c7] at H
      have c7b0 : decide (65 ≤ a0) = true := decide_eq_true c7
      clear c7
      by_cases c8 : a0 ≤ 70
      ·rw [if_pos c8] at H
       have c8b0 : decide (a0 ≤ 70) = true := decide_eq_true c8
       clear c8
       obtain rfl := Option.some.inj H
       go_wp2
       go_ret
       exact ⟨by first | rfl | (simp; done) | (simp [*]; done), by repeat (first | exact Drawn0.refl _ | apply Drawn0.step)⟩
      ·rw [if_neg c8] at H
       have c8b0 : decide (a0 ≤ 70) = false := decide_eq_false c8
       clear c8
       obtain rfl := Option.some.inj H
       go_wp2
       go_ret
       exact ⟨by first | rfl | (simp; done) | (simp [*]; done), by repeat (first | exact Drawn0.refl _ | apply Drawn0.step)⟩
     ·rw [if_neg c7] at H
      have c7b0 : decide (65 ≤ a0) = false := decide_eq_false c7
      clear c7
      obtain rfl := Option.some.inj H
      go_wp2
      go_ret
      exact ⟨by first | rfl | (simp; done) | (simp [*]; done), by repeat (first | exact Drawn0.refl _ | apply Drawn0.step)⟩

/-! ### sieveref04_Hex: function 74 -/
def sieveref04_Hex.f (k : Nat) (a0 : Int) : Option (Bool) := (sieveref04_Value.f k a0).bind fun t123 => (some (decide (t123 ≥ 0)))
set_option maxHeartbeats 8000000 in
set_option maxRecDepth 100000 in
theorem sieveref04_Hex.calls (k : Nat) (a0 : Int) (r : Bool) (w : World) (h : sieveref04_Hex.f k a0 = some r) :
  Calls Try.prog 74 #[.int .i32 a0] w fun e w' => e = .returned (.bool r) ∧ Drawn0 w w' := by
 have H : ((sieveref04_Value.f k a0).bind fun t123 => (some (decide (t123 ≥ 0)))) = some r := h
 clear h
 replace H := Option.bind_eq_some_iff.mp H
 obtain ⟨t123, A20, H⟩ := H
 replace H : (some (decide (t123 ≥ 0))) = some r := H
 have A2 := Aside0.mk A20
 clear A20
 obtain rfl := Option.some.inj H
 go_enter Try.func74, Try.ntmps74
 go_wp2_with (first | ((with_reducible refine gate_callee (f := 75) rfl ?_); refine goesL_ (some 4) rfl rfl Try.func75 (by kernel_rfl) rfl #[.int .i32 a0] rfl (by (try simp only [List.map_toArray, List.map_cons, List.map_nil]); first | done | rfl | (simp only [List.length_drop, List.length_take]; rfl) | (simp [*] <;> rfl)) ?_; (with_reducible refine (sieveref04_Value.calls k a0 t123 _ A2.out).mono ?_); rintro e w' ⟨rfl, ⟨nd, rfl⟩⟩; refine ⟨_, rfl, ?_⟩))
 go_ret
 exact ⟨by first | rfl | (simp; done) | (simp [*]; done), by repeat (first | exact Drawn0.refl _ | apply Drawn0.step)⟩

/-! ### sieveref06_digitsOf: function 61 -/
def sieveref06_digitsOf.l0 : Nat → ByteArray → Bool → Int → Option (ByteArray)
 | 0, _, _, _ => none
 | k + 1, x0, x1, x5 => if x5 < (x0.size : Int) then (if 0 ≤ x5 then ((sieveref04_Digit.f (wrap32 (bt x0 x5))).bind fun t124 => (if t124 = true then (sieveref06_digitsOf.l0 k x0 x1 (wrap64 (x5 + 1))) else (if x1 = true then ((sieveref04_Hex.f k (wrap32 (bt x0 x5))).bind fun t125 => (if t125 = true then (sieveref06_digitsOf.l0 k x0 x1 (wrap64 (x5 + 1))) else (if x5 ≤ (x0.size : Int) then (some (x0.extract 0 (x5 : Int).toNat)) else (none)))) else (if x5 ≤ (x0.size : Int) then (some (x0.extract 0 (x5 : Int).toNat)) else (none))))) else (none)) else (if 0 ≤ x5 then (if x5 ≤ (x0.size : Int) then (some (x0.extract 0 (x5 : Int).toNat)) else (none)) else (none))
def sieveref06_digitsOf.f (k : Nat) (a0 : ByteArray) (a1 : Bool) : Option (ByteArray) := sieveref06_digitsOf.l0 k a0 a1 0
set_option maxHeartbeats 8000000 in
set_option maxRecDepth 100000 in
theorem sieveref06_digitsOf.calls (k : Nat) (a0 : ByteArray) (a1 : Bool) (r : ByteArray) (w : World) (h : sieveref06_digitsOf.f k a0 a1 = some r) :
  Calls Try.prog 61 #[.string a0, .bool a1] w fun e w' => e = .returned (.string r) ∧ Drawn0 w w' := by
 have H : (sieveref06_digitsOf.l0 k a0 a1 0) = some r := h
 clear h
 have H' := Aside0.mk H
 clear H
 go_enter Try.func61, Try.ntmps61
 go_wp2
 go_loopg [5] k (fun kq v5 w' => ∃ (x5_1 : Int), v5 = .int .i64 x5_1 ∧ Aside0 (sieveref06_digitsOf.l0 kq a0 a1 x5_1 = some r) ∧ Aside0 (kq ≤ k) ∧ Drawn0 w w')
 case atStart => exact ⟨(0), (by first | rfl | (simp; done) | (simp [*]; done) | (unfold bt; split <;> first | rfl | (exfalso; simp_all; done) | (exfalso; simp_all; omega))), H', ⟨Nat.le_refl _⟩, by repeat (first | exact Drawn0.refl _ | apply Drawn0.step)⟩
 case round =>
  clear H'
  try clear p2
  obtain ⟨x5_1, rfl, HA, HK1, ⟨m1, rfl⟩⟩ := hrel
  cases gk with
  | zero => exact absurd HA.out (by simp [sieveref06_digitsOf.l0])
  | succ k1 =>
   have H := HA.out
   clear HA
   simp only [sieveref06_digitsOf.l0] at H
   by_cases c3 : x5_1 < (a0.size : Int)
   ·rw [if_pos c3] at H
    have c3b0 : decide (x5_1 < (a0.size : Int)) = true := decide_eq_true c3
    clear c3
    by_cases c4 : 0 ≤ x5_1
    ·rw [if_pos c4] at H
     have c4b0 : decide (0 ≤ x5_1) = true := decide_eq_true c4
     clear c4
     replace H := Option.bind_eq_some_iff.mp H
     obtain ⟨t124, A60, H⟩ := H
     replace H : (if t124 = true then (sieveref06_digitsOf.l0 k1 a0 a1 (wrap64 (x5_1 + 1))) else (if a1 = true then ((sieveref04_Hex.f k1 (wrap32 (bt a0 x5_1))).bind fun t125 => (if t125 = true then (sieveref06_digitsOf.l0 k1 a0 a1 (wrap64 (x5_1 + 1))) else (if x5_1 ≤ (a0.size : Int) then (some (a0.extract 0 (x5_1 : Int).toNat)) else (none)))) else (if x5_1 ≤ (a0.size : Int) then (some (a0.extract 0 (x5_1 : Int).toNat)) else (none)))) = some r := H
     have A6 := Aside0.mk A60
     clear A60
     by_cases c7 : t124 = true
     ·subst c7
      have H1 : (sieveref06_digitsOf.l0 k1 a0 a1 (wrap64 (x5_1 + 1))) = some r := by rw [if_pos rfl] at H; exact H
      clear H
      have H := H1
      clear H1
      have H' := Aside0.mk H
      clear H
      have p5 : 0 ≤ (x5_1 : Int) := of_decide_eq_true (by first | (with_reducible assumption) | assumption)
      have q5 : x5_1 < (a0.size : Int) := of_decide_eq_true (by first | (with_reducible assumption) | assumption)
      have hx5 := bt_at a0 x5_1
      replace p5 := eq_true p5
      replace q5 := eq_true q5
      go_wp2_with (first | (go_at_call 65; (with_reducible refine (sieveref04_Digit.calls (wrap32 (bt a0 x5_1)) true _ A6.out).mono ?_); rintro e w' ⟨rfl, ⟨nd, rfl⟩⟩))
      go_roundg k1
      case measure => have := HK1.out; omega
      case rel => exact ⟨(wrap64 (x5_1 + 1)), (by first | rfl | (simp; done) | (simp [*]; done) | (unfold bt; split <;> first | rfl | (exfalso; simp_all; done) | (exfalso; simp_all; omega))), H', ⟨by have := HK1.out; omega⟩, by repeat (first | exact Drawn0.refl _ | apply Drawn0.step)⟩
     ·replace c7 := Bool.eq_false_iff.mpr c7
      subst c7
      have H1 : (if a1 = true then ((sieveref04_Hex.f k1 (wrap32 (bt a0 x5_1))).bind fun t125 => (if t125 = true then (sieveref06_digitsOf.l0 k1 a0 a1 (wrap64 (x5_1 + 1))) else (if x5_1 ≤ (a0.size : Int) then (some (a0.extract 0 (x5_1 : Int).toNat)) else (none)))) else (if x5_1 ≤ (a0.size : Int) then (some (a0.extract 0 (x5_1 : Int).toNat)) else (none))) = some r := by rw [if_neg (show ¬ (false = true) by decide)] at H; exact H
      clear H
      have H := H1
      clear H1
      by_cases c8 : a1 = true
      ·subst c8
       have H1 : ((sieveref04_Hex.f k1 (wrap32 (bt a0 x5_1))).bind fun t125 => (if t125 = true then (sieveref06_digitsOf.l0 k1 a0 true (wrap64 (x5_1 + 1))) else (if x5_1 ≤ (a0.size : Int) then (some (a0.extract 0 (x5_1 : Int).toNat)) else (none)))) = some r := by rw [if_pos rfl] at H; exact H
       clear H
       have H := H1
       clear H1
       replace H := Option.bind_eq_some_iff.mp H
       obtain ⟨t125, A100, H⟩ := H
       replace H : (if t125 = true then (sieveref06_digitsOf.l0 k1 a0 true (wrap64 (x5_1 + 1))) else (if x5_1 ≤ (a0.size : Int) then (some (a0.extract 0 (x5_1 : Int).toNat)) else (none))) = some r := H
       have A10 := Aside0.mk A100
       clear A100
       by_cases c11 : t125 = true
       ·subst c11
        have H1 : (sieveref06_digitsOf.l0 k1 a0 true (wrap64 (x5_1 + 1))) = some r := by rw [if_pos rfl] at H; exact H
        clear H
        have H := H1
        clear H1
        have H' := Aside0.mk H
        clear H
        have p5 : 0 ≤ (x5_1 : Int) := of_decide_eq_true (by first | (with_reducible assumption) | assumption)
        have q5 : x5_1 < (a0.size : Int) := of_decide_eq_true (by first | (with_reducible assumption) | assumption)
        have hx5 := bt_at a0 x5_1
        replace p5 := eq_true p5
        replace q5 := eq_true q5
        go_wp2_with (first | (go_at_call 65; (with_reducible refine (sieveref04_Digit.calls (wrap32 (bt a0 x5_1)) false _ A6.out).mono ?_); rintro e w' ⟨rfl, ⟨nd, rfl⟩⟩; have p9 : 0 ≤ (x5_1 : Int) := of_decide_eq_true (by first | (with_reducible assumption) | assumption); have q9 : x5_1 < (a0.size : Int) := of_decide_eq_true (by first | (with_reducible assumption) | assumption); have hx9 := bt_at a0 x5_1; replace p9 := eq_true p9; replace q9 := eq_true q9) | (go_at_call 74; (with_reducible refine (sieveref04_Hex.calls k1 (wrap32 (bt a0 x5_1)) true _ A10.out).mono ?_); rintro e w' ⟨rfl, ⟨nd, rfl⟩⟩))
        go_roundg k1
        case measure => have := HK1.out; omega
        case rel => exact ⟨(wrap64 (x5_1 + 1)), (by first | rfl | (simp; done) | (simp [*]; done) | (unfold bt; split <;> first | rfl | (exfalso; simp_all; done) | (exfalso; simp_all; omega))), H', ⟨by have := HK1.out; omega⟩, by repeat (first | exact Drawn0.refl _ | apply Drawn0.step)⟩
       ·replace c11 := Bool.eq_false_iff.mpr c11
        subst c11
        have H1 : (if x5_1 ≤ (a0.size : Int) then (some (a0.extract 0 (x5_1 : Int).toNat)) else (none)) = some r := by rw [if_neg (show ¬ (false = true) by decide)] at H; exact H
        clear H
        have H := H1
        clear H1
        have c12b0 := eq_true (of_decide_eq_true (by first | (with_reducible assumption) | assumption) : 0 ≤ x5_1)
        by_cases c13 : x5_1 ≤ (a0.size : Int)
        ·rw [if_pos c13] at H
         have c13b0 := eq_true c13
         have c13b1 : decide (x5_1 ≤ (a0.size : Int)) = true := decide_eq_true c13
         clear c13
         obtain rfl := Option.some.inj H
         have p5 : 0 ≤ (x5_1 : Int) := of_decide_eq_true (by first | (with_reducible assumption) | assumption)
         have q5 : x5_1 < (a0.size : Int) := of_decide_eq_true (by first | (with_reducible assumption) | assumption)
         have hx5 := bt_at a0 x5_1
         replace p5 := eq_true p5
         replace q5 := eq_true q5
         go_wp2_with (first | (go_at_call 65; (with_reducible refine (sieveref04_Digit.calls (wrap32 (bt a0 x5_1)) false _ A6.out).mono ?_); rintro e w' ⟨rfl, ⟨nd, rfl⟩⟩; have p9 : 0 ≤ (x5_1 : Int) := of_decide_eq_true (by first | (with_reducible assumption) | assumption); have q9 : x5_1 < (a0.size : Int) := of_decide_eq_true (by first | (with_reducible assumption) | assumption); have hx9 := bt_at a0 x5_1; replace p9 := eq_true p9; replace q9 := eq_true q9) | (go_at_call 74; (with_reducible refine (sieveref04_Hex.calls k1 (wrap32 (bt a0 x5_1)) false _ A10.out).mono ?_); rintro e w' ⟨rfl, ⟨nd, rfl⟩⟩))
         go_ret
         exact ⟨by first | rfl | (simp; done) | (simp [*]; done), by repeat (first | exact Drawn0.refl _ | apply Drawn0.step)⟩
        ·rw [if_neg c13] at H
         exact absurd H (by simp)
      ·replace c8 := Bool.eq_false_iff.mpr c8
       subst c8
       have H1 : (if x5_1 ≤ (a0.size : Int) then (some (a0.extract 0 (x5_1 : Int).toNat)) else (none)) = some r := by rw [if_neg (show ¬ (false = true) by decide)] at H; exact H
       clear H
       have H := H1
       clear H1
       have c14b0 := eq_true (of_decide_eq_true (by first | (with_reducible assumption) | assumption) : 0 ≤ x5_1)
       by_cases c15 : x5_1 ≤ (a0.size : Int)
       ·rw [if_pos c15] at H
        have c15b0 := eq_true c15
        have c15b1 : decide (x5_1 ≤ (a0.size : Int)) = true := decide_eq_true c15
        clear c15
        obtain rfl := Option.some.inj H
        have p5 : 0 ≤ (x5_1 : Int) := of_decide_eq_true (by first | (with_reducible assumption) | assumption)
        have q5 : x5_1 < (a0.size : Int) := of_decide_eq_true (by first | (with_reducible assumption) | assumption)
        have hx5 := bt_at a0 x5_1
        replace p5 := eq_true p5
        replace q5 := eq_true q5
        go_wp2_with (first | (go_at_call 65; (with_reducible refine (sieveref04_Digit.calls (wrap32 (bt a0 x5_1)) false _ A6.out).mono ?_); rintro e w' ⟨rfl, ⟨nd, rfl⟩⟩))
        go_ret
        exact ⟨by first | rfl | (simp; done) | (simp [*]; done), by repeat (first | exact Drawn0.refl _ | apply Drawn0.step)⟩
       ·rw [if_neg c15] at H
        exact absurd H (by simp)
    ·rw [if_neg c4] at H
     exact absurd H (by simp)
   ·rw [if_neg c3] at H
    have c3b0 : decide (x5_1 < (a0.size : Int)) = false := decide_eq_false c3
    clear c3
    by_cases c16 : 0 ≤ x5_1
    ·rw [if_pos c16] at H
     have c16b0 := eq_true c16
     have c16b1 : decide (0 ≤ x5_1) = true := decide_eq_true c16
     clear c16
     by_cases c17 : x5_1 ≤ (a0.size : Int)
     ·rw [if_pos c17] at H
      have c17b0 := eq_true c17
      have c17b1 : decide (x5_1 ≤ (a0.size : Int)) = true := decide_eq_true c17
      clear c17
      obtain rfl := Option.some.inj H
      go_wp2
      go_ret
      exact ⟨by first | rfl | (simp; done) | (simp [*]; done), by repeat (first | exact Drawn0.refl _ | apply Drawn0.step)⟩
     ·rw [if_neg c17] at H
      exact absurd H (by simp)
    ·rw [if_neg c16] at H
     exact absurd H (by simp)

/-! ### sieveref06_Windows: function 76 -/
def sieveref06_Windows.f (a0 : Int) : Option (Int) := (some (([8364, 0, 8218, 402, 8222, 8230, 8224, 8225, 710, 8240, 352, 8249, 338, 0, 381, 0, 0, 8216, 8217, 8220, 8221, 8226, 8211, 8212, 732, 8482, 353, 8250, 339, 0, 382, 376] : List Int) : List Int)).bind fun y126 => (if 0 ≤ (wrap64 (a0 - 128)) then (if (wrap64 (a0 - 128)) < (y126.length : Int) then (some (rd y126 (wrap64 (a0 - 128)))) else (none)) else (none))
set_option maxHeartbeats 8000000 in
set_option maxRecDepth 100000 in
theorem sieveref06_Windows.calls (a0 : Int) (r : Int) (w : World) (h : sieveref06_Windows.f a0 = some r) :
  Calls Try.prog 76 #[.int .i64 a0] w fun e w' => e = .returned (.int .i32 r) ∧ Below w.heap.size w w' := by
 have HB := Aside0.mk (Below.refl w.heap.size w)
 have H : ((some (([8364, 0, 8218, 402, 8222, 8230, 8224, 8225, 710, 8240, 352, 8249, 338, 0, 381, 0, 0, 8216, 8217, 8220, 8221, 8226, 8211, 8212, 732, 8482, 353, 8250, 339, 0, 382, 376] : List Int) : List Int)).bind fun y126 => (if 0 ≤ (wrap64 (a0 - 128)) then (if (wrap64 (a0 - 128)) < (y126.length : Int) then (some (rd y126 (wrap64 (a0 - 128)))) else (none)) else (none))) = some r := h
 clear h
 obtain ⟨y126, hy126⟩ : ∃ y_ : List Int, y_ = (([8364, 0, 8218, 402, 8222, 8230, 8224, 8225, 710, 8240, 352, 8249, 338, 0, 381, 0, 0, 8216, 8217, 8220, 8221, 8226, 8211, 8212, 732, 8482, 353, 8250, 339, 0, 382, 376] : List Int)) := ⟨_, rfl⟩
 replace H : (if 0 ≤ (wrap64 (a0 - 128)) then (if (wrap64 (a0 - 128)) < (y126.length : Int) then (some (rd y126 (wrap64 (a0 - 128)))) else (none)) else (none)) = some r := by first | (rw [hy126]; with_reducible exact H) | (have H2_ := (Option.bind_some _ _).symm.trans H; rw [hy126]; with_reducible exact H2_) | (have H2_ := (Option.bind_some _ _).symm.trans H; with_reducible exact H2_) | with_reducible exact H | (rw [hy126]; exact H) | exact H
 have Ny126 := Aside0.mk hy126
 clear hy126
 obtain ⟨ji2, hji2⟩ : ∃ j_ : Int, (wrap64 (a0 - 128)) = j_ := ⟨_, rfl⟩
 replace H : (if 0 ≤ (ji2) then (if (ji2) < (y126.length : Int) then (some (rd y126 (ji2))) else (none)) else (none)) = some r := by first | (rw [hji2] at H; exact H) | (simp only [hji2] at H ⊢; exact H)
 have hji2w : (IntKind.i64.wrap (a0 - 128)) = ji2 := (i64_w _).trans hji2
 by_cases c3 : 0 ≤ (ji2)
 ·rw [if_pos c3] at H
  have c3b0 : decide (0 ≤ (ji2)) = true := decide_eq_true c3
  clear c3
  by_cases c4 : (ji2) < (y126.length : Int)
  ·rw [if_pos c4] at H
   have c4b0 : decide ((ji2) < (y126.length : Int)) = true := decide_eq_true c4
   clear c4
   obtain rfl := Option.some.inj H
   go_enter Try.func76, Try.ntmps76
   go_wp2_with (first | ((with_reducible refine gate_dst (N := 4) rfl ?_); refine Kd.R_lit (Kd.int .i32) _ 21 ?hg (N := 4) ?hd (xs := ([8364, 0, 8218, 402, 8222, 8230, 8224, 8225, 710, 8240, 352, 8249, 338, 0, 381, 0, 0, 8216, 8217, 8220, 8221, 8226, 8211, 8212, 732, 8482, 353, 8250, 339, 0, 382, 376] : List Int)) (inner := [.int .i32 8364, .int .i32 0, .int .i32 8218, .int .i32 402, .int .i32 8222, .int .i32 8230, .int .i32 8224, .int .i32 8225, .int .i32 710, .int .i32 8240, .int .i32 352, .int .i32 8249, .int .i32 338, .int .i32 0, .int .i32 381, .int .i32 0, .int .i32 0, .int .i32 8216, .int .i32 8217, .int .i32 8220, .int .i32 8221, .int .i32 8226, .int .i32 8211, .int .i32 8212, .int .i32 732, .int .i32 8482, .int .i32 353, .int .i32 8250, .int .i32 339, .int .i32 0, .int .i32 382, .int .i32 376]) (ok := fun _ => True) (okp := fun _ => True) ?hr ?hp (fun _ hk => hk) trivial (Below.refl _ _) (Nat.le_refl _) (by simp) ?_; (case hd => rfl); (case hg => rfl); (case hr => first | (go_simp; done) | (go_simp; rfl)); (case hp => exact (Reps.one (show Kd.M (Kd.int .i32) _ _ _ 8364 [.int .i32 8364] from rfl) (Reps.one (show Kd.M (Kd.int .i32) _ _ _ 0 [.int .i32 0] from rfl) (Reps.one (show Kd.M (Kd.int .i32) _ _ _ 8218 [.int .i32 8218] from rfl) (Reps.one (show Kd.M (Kd.int .i32) _ _ _ 402 [.int .i32 402] from rfl) (Reps.one (show Kd.M (Kd.int .i32) _ _ _ 8222 [.int .i32 8222] from rfl) (Reps.one (show Kd.M (Kd.int .i32) _ _ _ 8230 [.int .i32 8230] from rfl) (Reps.one (show Kd.M (Kd.int .i32) _ _ _ 8224 [.int .i32 8224] from rfl) (Reps.one (show Kd.M (Kd.int .i32) _ _ _ 8225 [.int .i32 8225] from rfl) (Reps.one (show Kd.M (Kd.int .i32) _ _ _ 710 [.int .i32 710] from rfl) (Reps.one (show Kd.M (Kd.int .i32) _ _ _ 8240 [.int .i32 8240] from rfl) (Reps.one (show Kd.M (Kd.int .i32) _ _ _ 352 [.int .i32 352] from rfl) (Reps.one (show Kd.M (Kd.int .i32) _ _ _ 8249 [.int .i32 8249] from rfl) (Reps.one (show Kd.M (Kd.int .i32) _ _ _ 338 [.int .i32 338] from rfl) (Reps.one (show Kd.M (Kd.int .i32) _ _ _ 0 [.int .i32 0] from rfl) (Reps.one (show Kd.M (Kd.int .i32) _ _ _ 381 [.int .i32 381] from rfl) (Reps.one (show Kd.M (Kd.int .i32) _ _ _ 0 [.int .i32 0] from rfl) (Reps.one (show Kd.M (Kd.int .i32) _ _ _ 0 [.int .i32 0] from rfl) (Reps.one (show Kd.M (Kd.int .i32) _ _ _ 8216 [.int .i32 8216] from rfl) (Reps.one (show Kd.M (Kd.int .i32) _ _ _ 8217 [.int .i32 8217] from rfl) (Reps.one (show Kd.M (Kd.int .i32) _ _ _ 8220 [.int .i32 8220] from rfl) (Reps.one (show Kd.M (Kd.int .i32) _ _ _ 8221 [.int .i32 8221] from rfl) (Reps.one (show Kd.M (Kd.int .i32) _ _ _ 8226 [.int .i32 8226] from rfl) (Reps.one (show Kd.M (Kd.int .i32) _ _ _ 8211 [.int .i32 8211] from rfl) (Reps.one (show Kd.M (Kd.int .i32) _ _ _ 8212 [.int .i32 8212] from rfl) (Reps.one (show Kd.M (Kd.int .i32) _ _ _ 732 [.int .i32 732] from rfl) (Reps.one (show Kd.M (Kd.int .i32) _ _ _ 8482 [.int .i32 8482] from rfl) (Reps.one (show Kd.M (Kd.int .i32) _ _ _ 353 [.int .i32 353] from rfl) (Reps.one (show Kd.M (Kd.int .i32) _ _ _ 8250 [.int .i32 8250] from rfl) (Reps.one (show Kd.M (Kd.int .i32) _ _ _ 339 [.int .i32 339] from rfl) (Reps.one (show Kd.M (Kd.int .i32) _ _ _ 0 [.int .i32 0] from rfl) (Reps.one (show Kd.M (Kd.int .i32) _ _ _ 382 [.int .i32 382] from rfl) (Reps.one (show Kd.M (Kd.int .i32) _ _ _ 376 [.int .i32 376] from rfl) (Reps.none _ _)))))))))))))))))))))))))))))))))); intro v127 w5 ho6 hb hg_ hnew_; clear hg_ hnew_; (first | rw [← Ny126.out] at ho6 | (simp only [Int.reduceToNat] at ho6; rw [← Ny126.out] at ho6)); have n0_ := Aside0.mk (Kd.R_lower ho6 (below_size (by repeat (first | (with_reducible first | exact HB.out | apply below_alloc | apply pw_below_drewN | apply below_drew1) | exact HB.out)))); have n1_ := Aside0.mk (below_step (by repeat (first | (with_reducible first | exact HB.out | apply below_alloc | apply pw_below_drewN | apply below_drew1) | exact HB.out)) hb); clear HB; have HO128 := n0_; have HB := n1_; clear n0_ n1_; clear hb ho6; obtain ⟨Ao7, co7, eo7⟩ := Kd.R_slice HO128.out; subst eo7; have p129 : 0 ≤ ((ji2) : Int) := of_decide_eq_true (by first | (with_reducible assumption) | assumption); have q129 : (ji2) < (y126.length : Int) := of_decide_eq_true (by first | (with_reducible assumption) | assumption); obtain ⟨ad129, e129, hx129_0⟩ := Kd.at_int (Kd.R_reads' HO128.out).2.2 (ji2) p129 q129; cases e129; replace p129 := eq_true p129; replace q129 := eq_true q129))
   go_ret
   exact ⟨by first | rfl | (simp [errW_none, errW_some] <;> rfl) | (simp only [← hji2]; first | rfl | (simp [errW_none, errW_some] <;> rfl)) | (simp [*, errW_none, errW_some] <;> rfl), by repeat (first | (with_reducible first | exact HB.out | apply below_alloc | apply pw_below_drewN | apply below_drew1) | exact HB.out)⟩
  ·rw [if_neg c4] at H
   exact absurd H (by simp)
 ·rw [if_neg c3] at H
  exact absurd H (by simp)

/-! ### sieveref06_Number: function 62 -/
mutual
def sieveref06_Number.j0 : Nat → ByteArray → Int → Option (Int × Bool)
 | 0, _, _ => none
 | k + 1, x0, x6 => sieveref06_Number.l0 k x0 x6 0 0
def sieveref06_Number.l0 : Nat → ByteArray → Int → Int → Int → Option (Int × Bool)
 | 0, _, _, _, _ => none
 | k + 1, x0, x6, x7, x8 => if x8 < (x0.size : Int) then (if 0 ≤ x8 then ((sieveref04_Value.f k (wrap32 (bt x0 x8))).bind fun t130 => (if t130 < 0 then (sieveref06_Number.j2 k x0 x6 x7 x8 t130 true) else (sieveref06_Number.j2 k x0 x6 x7 x8 t130 (decide (t130 ≥ x6))))) else (none)) else (if x0.toList = ([] : List UInt8) then (sieveref06_Number.j3 k x7 true) else (if x7 = 0 then (sieveref06_Number.j3 k x7 true) else (if x7 > 1114111 then (sieveref06_Number.j3 k x7 true) else (if x7 ≥ 55296 then (sieveref06_Number.j3 k x7 (decide (x7 ≤ 57343))) else (sieveref06_Number.j3 k x7 false)))))
def sieveref06_Number.j2 : Nat → ByteArray → Int → Int → Int → Int → Bool → Option (Int × Bool)
 | 0, _, _, _, _, _, _ => none
 | k + 1, x0, x6, x7, x8, x9, x28 => if x28 = true then (some (65533, false)) else (if (wrap64 ((wrap64 (x7 * x6)) + x9)) > 1114111 then (sieveref06_Number.l0 k x0 x6 1114112 (wrap64 (x8 + 1))) else (sieveref06_Number.l0 k x0 x6 (wrap64 ((wrap64 (x7 * x6)) + x9)) (wrap64 (x8 + 1))))
def sieveref06_Number.j3 : Nat → Int → Bool → Option (Int × Bool)
 | 0, _, _ => none
 | k + 1, x7, x36 => if x36 = true then (some (65533, false)) else (if x7 ≥ 128 then (if x7 ≤ 159 then ((sieveref06_Windows.f x7).bind fun t131 => (if t131 = 0 then (some (wrap32 (x7), true)) else ((sieveref06_Windows.f x7).bind fun t132 => (some (t132, false))))) else (some (wrap32 (x7), true))) else (some (wrap32 (x7), true)))
end
def sieveref06_Number.f (k : Nat) (a0 : ByteArray) (a1 : Bool) : Option (Int × Bool) := if a1 = true then (sieveref06_Number.j0 k a0 16) else (sieveref06_Number.j0 k a0 10)
set_option maxHeartbeats 8000000 in
set_option maxRecDepth 100000 in
theorem sieveref06_Number.calls (k : Nat) (a0 : ByteArray) (a1 : Bool) (r1 : Int) (r2 : Bool) (w : World) (h : sieveref06_Number.f k a0 a1 = some (r1, r2)) :
  Calls Try.prog 62 #[.string a0, .bool a1] w fun e w' => e = .returned (.tuple #[.int .i32 r1, .bool r2]) ∧ Below w.heap.size w w' := by
 have HB := Aside0.mk (Below.refl w.heap.size w)
 have H : (if a1 = true then (sieveref06_Number.j0 k a0 16) else (sieveref06_Number.j0 k a0 10)) = some (r1, r2) := h
 clear h
 have HC3 := Aside0.mk H
 clear H
 go_enter Try.func62, Try.ntmps62
 go_upto_if 10 with (fail)
 go_cut [6] (fun v6 wc => ∃ (kq : Nat) (x6_2 : Int), v6 = .int .i64 x6_2 ∧ Aside0 (sieveref06_Number.j0 kq a0 x6_2 = some (r1, r2)) ∧ Aside0 (kq ≤ k) ∧ Aside0 (Below w.heap.size w wc))
 case first =>
  have H := HC3.out
  clear HC3
  by_cases c4 : a1 = true
  ·subst c4
   have H1 : (sieveref06_Number.j0 k a0 16) = some (r1, r2) := by rw [if_pos rfl] at H; exact H
   clear H
   have H := H1
   clear H1
   have H' := Aside0.mk H
   clear H
   go_wp2
   go_meet
   case rel => exact ⟨_, (16), (by first | rfl | (simp; done) | (simp [*]; done) | (unfold bt; split <;> first | rfl | (exfalso; simp_all; done) | (exfalso; simp_all; omega))), H', ⟨by first | omega | exact Nat.le_refl _⟩, ⟨by repeat (first | (with_reducible first | exact HB.out | apply below_alloc | apply pw_below_drewN | apply below_drew1) | exact HB.out)⟩⟩
  ·replace c4 := Bool.eq_false_iff.mpr c4
   subst c4
   have H1 : (sieveref06_Number.j0 k a0 10) = some (r1, r2) := by rw [if_neg (show ¬ (false = true) by decide)] at H; exact H
   clear H
   have H := H1
   clear H1
   have H' := Aside0.mk H
   clear H
   go_wp2
   go_meet
   case rel => exact ⟨_, (10), (by first | rfl | (simp; done) | (simp [*]; done) | (unfold bt; split <;> first | rfl | (exfalso; simp_all; done) | (exfalso; simp_all; omega))), H', ⟨by first | omega | exact Nat.le_refl _⟩, ⟨by repeat (first | (with_reducible first | exact HB.out | apply below_alloc | apply pw_below_drewN | apply below_drew1) | exact HB.out)⟩⟩
 case rest =>
  clear HC3
  try clear p2
  try clear c4
  obtain ⟨kq, x6_2, rfl, HA, HJ2, HB⟩ := hcut
  cases kq with
  | zero => exact absurd HA.out (by simp [sieveref06_Number.j0])
  | succ kj2 =>
   have H := HA.out
   clear HA
   simp only [sieveref06_Number.j0] at H
   have H' := Aside0.mk H
   clear H
   go_wp2
   go_loopg [7, 8] kj2 (fun kq v7 v8 w' => ∃ (x7_2 : Int) (x8_2 : Int), v7 = .int .i64 x7_2 ∧ v8 = .int .i64 x8_2 ∧ Aside0 (sieveref06_Number.l0 kq a0 x6_2 x7_2 x8_2 = some (r1, r2)) ∧ Aside0 (kq ≤ kj2) ∧ Aside0 (Below w.heap.size w w'))
   case atStart => exact ⟨(0), (0), (by first | rfl | (simp; done) | (simp [*]; done) | (unfold bt; split <;> first | rfl | (exfalso; simp_all; done) | (exfalso; simp_all; omega))), (by first | rfl | (simp; done) | (simp [*]; done) | (unfold bt; split <;> first | rfl | (exfalso; simp_all; done) | (exfalso; simp_all; omega))), H', ⟨Nat.le_refl _⟩, ⟨by repeat (first | (with_reducible first | exact HB.out | apply below_alloc | apply pw_below_drewN | apply below_drew1) | exact HB.out)⟩⟩
   case round =>
    clear H'
    try clear p2
    try clear c4
    try clear p2
    obtain ⟨x7_2, x8_2, rfl, rfl, HA, HK2, HB⟩ := hrel
    cases gk with
    | zero => exact absurd HA.out (by simp [sieveref06_Number.l0])
    | succ k2 =>
     have H := HA.out
     clear HA
     simp only [sieveref06_Number.l0] at H
     by_cases c5 : x8_2 < (a0.size : Int)
     ·rw [if_pos c5] at H
      have c5b0 : decide (x8_2 < (a0.size : Int)) = true := decide_eq_true c5
      clear c5
      by_cases c6 : 0 ≤ x8_2
      ·rw [if_pos c6] at H
       have c6b0 : decide (0 ≤ x8_2) = true := decide_eq_true c6
       clear c6
       replace H := Option.bind_eq_some_iff.mp H
       obtain ⟨t130, A80, H⟩ := H
       replace H : (if t130 < 0 then (sieveref06_Number.j2 k2 a0 x6_2 x7_2 x8_2 t130 true) else (sieveref06_Number.j2 k2 a0 x6_2 x7_2 x8_2 t130 (decide (t130 ≥ x6_2)))) = some (r1, r2) := H
       have A8 := Aside0.mk A80
       clear A80
       have HC9 := Aside0.mk H
       clear H
       have p7 : 0 ≤ (x8_2 : Int) := of_decide_eq_true (by first | (with_reducible assumption) | assumption)
       have q7 : x8_2 < (a0.size : Int) := of_decide_eq_true (by first | (with_reducible assumption) | assumption)
       have hx7 := bt_at a0 x8_2
       replace p7 := eq_true p7
       replace q7 := eq_true q7
       go_upto_region 9 with (first | ((with_reducible refine gate_callee (f := 75) rfl ?_); refine goesL_ (some 21) rfl rfl Try.func75 (by kernel_rfl) rfl #[.int .i32 (wrap32 (bt a0 x8_2))] rfl (by (try simp only [List.map_toArray, List.map_cons, List.map_nil]); first | done | rfl | (simp only [List.length_drop, List.length_take]; rfl) | (simp [*] <;> rfl)) ?_; (with_reducible refine (sieveref04_Value.calls k2 (wrap32 (bt a0 x8_2)) t130 _ A8.out).mono ?_); rintro e w' ⟨rfl, ⟨nd, rfl⟩⟩; refine ⟨_, rfl, ?_⟩))
       (try simp only [Act.put, List.setIfInBounds_toArray, List.set_cons_zero, List.set_cons_succ])
       go_cut [28] (fun v28 wc => ∃ (kq : Nat) (x28_8 : Bool), v28 = .bool x28_8 ∧ Aside0 (sieveref06_Number.j2 kq a0 x6_2 x7_2 x8_2 t130 x28_8 = some (r1, r2)) ∧ Aside0 (kq ≤ k2) ∧ Aside0 (Below w.heap.size w wc))
       case first =>
        have H := HC9.out
        clear HC9
        by_cases c10 : t130 < 0
        ·rw [if_pos c10] at H
         have c10b0 : decide (t130 < 0) = true := decide_eq_true c10
         clear c10
         (first | rw [c10b0] | (simp only [i64_w, i32_w]; rw [c10b0]) | skip)
         have H' := Aside0.mk H
         clear H
         go_wp2
         go_meet
         case rel => exact ⟨_, (true), (by first | rfl | (simp; done) | (simp [*]; done) | (unfold bt; split <;> first | rfl | (exfalso; simp_all; done) | (exfalso; simp_all; omega))), H', ⟨by have := HJ2.out; have := HK2.out; first | omega | exact Nat.le_refl _⟩, ⟨by repeat (first | (with_reducible first | exact HB.out | apply below_alloc | apply pw_below_drewN | apply below_drew1) | exact HB.out)⟩⟩
        ·rw [if_neg c10] at H
         have c10b0 : decide (t130 < 0) = false := decide_eq_false c10
         clear c10
         (first | rw [c10b0] | (simp only [i64_w, i32_w]; rw [c10b0]) | skip)
         have H' := Aside0.mk H
         clear H
         go_wp2
         go_meet
         case rel => exact ⟨_, (decide (t130 ≥ x6_2)), (by first | rfl | (simp; done) | (simp [*]; done) | (unfold bt; split <;> first | rfl | (exfalso; simp_all; done) | (exfalso; simp_all; omega))), H', ⟨by have := HJ2.out; have := HK2.out; first | omega | exact Nat.le_refl _⟩, ⟨by repeat (first | (with_reducible first | exact HB.out | apply below_alloc | apply pw_below_drewN | apply below_drew1) | exact HB.out)⟩⟩
       case rest =>
        clear HC9
        try clear c1
        try clear p2
        try clear p3
        try clear c4
        try clear c5
        try clear c5b0
        try clear c6
        try clear c6b0
        try clear c7
        try clear p7
        try clear q7
        try clear hx7
        try clear c10
        try clear c10b0
        try clear p2
        try clear p7
        try clear q7
        obtain ⟨kq, x28_8, rfl, HA, HJ8, HB⟩ := hcut
        cases kq with
        | zero => exact absurd HA.out (by simp [sieveref06_Number.j2])
        | succ kj8 =>
         have H := HA.out
         clear HA
         simp only [sieveref06_Number.j2] at H
         by_cases c11 : x28_8 = true
         ·subst c11
          have H1 : (some (65533, false)) = some (r1, r2) := by rw [if_pos rfl] at H; exact H
          clear H
          have H := H1
          clear H1
          simp only [Option.some.injEq, Prod.mk.injEq] at H
          obtain ⟨rfl, rfl⟩ := H
          go_wp2
          go_ret2
          exact ⟨by first | rfl | (simp [errW_none, errW_some] <;> rfl) | (simp [*, errW_none, errW_some] <;> rfl), by repeat (first | (with_reducible first | exact HB.out | apply below_alloc | apply pw_below_drewN | apply below_drew1) | exact HB.out)⟩
         ·replace c11 := Bool.eq_false_iff.mpr c11
          subst c11
          have H1 : (if (wrap64 ((wrap64 (x7_2 * x6_2)) + t130)) > 1114111 then (sieveref06_Number.l0 kj8 a0 x6_2 1114112 (wrap64 (x8_2 + 1))) else (sieveref06_Number.l0 kj8 a0 x6_2 (wrap64 ((wrap64 (x7_2 * x6_2)) + t130)) (wrap64 (x8_2 + 1)))) = some (r1, r2) := by rw [if_neg (show ¬ (false = true) by decide)] at H; exact H
          clear H
          have H := H1
          clear H1
          by_cases c12 : (wrap64 ((wrap64 (x7_2 * x6_2)) + t130)) > 1114111
          ·rw [if_pos c12] at H
           have c12b0 : decide (1114111 < (wrap64 ((wrap64 (x7_2 * x6_2)) + t130))) = true := decide_eq_true c12
           clear c12
           have H' := Aside0.mk H
           clear H
           go_wp2
           go_roundg kj8
           case measure => have := HJ2.out; have := HK2.out; have := HJ8.out; omega
           case rel => exact ⟨(1114112), (wrap64 (x8_2 + 1)), (by first | rfl | (simp; done) | (simp [*]; done) | (unfold bt; split <;> first | rfl | (exfalso; simp_all; done) | (exfalso; simp_all; omega))), (by first | rfl | (simp; done) | (simp [*]; done) | (unfold bt; split <;> first | rfl | (exfalso; simp_all; done) | (exfalso; simp_all; omega))), H', ⟨by have := HJ2.out; have := HK2.out; have := HJ8.out; omega⟩, ⟨by repeat (first | (with_reducible first | exact HB.out | apply below_alloc | apply pw_below_drewN | apply below_drew1) | exact HB.out)⟩⟩
          ·rw [if_neg c12] at H
           have c12b0 : decide (1114111 < (wrap64 ((wrap64 (x7_2 * x6_2)) + t130))) = false := decide_eq_false c12
           clear c12
           have H' := Aside0.mk H
           clear H
           go_wp2
           go_roundg kj8
           case measure => have := HJ2.out; have := HK2.out; have := HJ8.out; omega
           case rel => exact ⟨(wrap64 ((wrap64 (x7_2 * x6_2)) + t130)), (wrap64 (x8_2 + 1)), (by first | rfl | (simp; done) | (simp [*]; done) | (unfold bt; split <;> first | rfl | (exfalso; simp_all; done) | (exfalso; simp_all; omega))), (by first | rfl | (simp; done) | (simp [*]; done) | (unfold bt; split <;> first | rfl | (exfalso; simp_all; done) | (exfalso; simp_all; omega))), H', ⟨by have := HJ2.out; have := HK2.out; have := HJ8.out; omega⟩, ⟨by repeat (first | (with_reducible first | exact HB.out | apply below_alloc | apply pw_below_drewN | apply below_drew1) | exact HB.out)⟩⟩
      ·rw [if_neg c6] at H
       exact absurd H (by simp)
     ·rw [if_neg c5] at H
      have c5b0 : decide (x8_2 < (a0.size : Int)) = false := decide_eq_false c5
      clear c5
      have HC13 := Aside0.mk H
      clear H
      go_upto_region 14 with (fail)
      go_cut [36] (fun v36 wc => ∃ (kq : Nat) (x36_12 : Bool), v36 = .bool x36_12 ∧ Aside0 (sieveref06_Number.j3 kq x7_2 x36_12 = some (r1, r2)) ∧ Aside0 (kq ≤ k2) ∧ Aside0 (Below w.heap.size w wc))
      case first =>
       have H := HC13.out
       clear HC13
       by_cases c14 : a0.toList = ([] : List UInt8)
       ·rw [if_pos c14] at H
        have c14b0 : (a0.toList == ([] : List UInt8)) = true := beq_iff_eq.mpr c14
        have c14b1 : (a0.toList != ([] : List UInt8)) = false := bne_eq_false_iff_eq.mpr c14
        clear c14
        (first | rw [c14b0] | (simp only [i64_w, i32_w]; rw [c14b0]) | skip)
        have H' := Aside0.mk H
        clear H
        go_wp2
        go_meet
        case rel => exact ⟨_, (true), (by first | rfl | (simp; done) | (simp [*]; done) | (unfold bt; split <;> first | rfl | (exfalso; simp_all; done) | (exfalso; simp_all; omega))), H', ⟨by have := HJ2.out; have := HK2.out; first | omega | exact Nat.le_refl _⟩, ⟨by repeat (first | (with_reducible first | exact HB.out | apply below_alloc | apply pw_below_drewN | apply below_drew1) | exact HB.out)⟩⟩
       ·rw [if_neg c14] at H
        have c14b0 : (a0.toList == ([] : List UInt8)) = false := beq_eq_false_iff_ne.mpr c14
        have c14b1 : (a0.toList != ([] : List UInt8)) = true := bne_iff_ne.mpr c14
        (first | rw [c14b0] | (simp only [i64_w, i32_w]; rw [c14b0]) | skip)
        by_cases c15 : x7_2 = 0
        ·rw [if_pos c15] at H
         have c15b0 : (x7_2 == 0) = true := beq_iff_eq.mpr c15
         have c15b1 : (x7_2 != 0) = false := bne_eq_false_iff_eq.mpr c15
         clear c15
         have H' := Aside0.mk H
         clear H
         go_wp2
         go_meet
         case rel => exact ⟨_, (true), (by first | rfl | (simp; done) | (simp [*]; done) | (unfold bt; split <;> first | rfl | (exfalso; simp_all; done) | (exfalso; simp_all; omega))), H', ⟨by have := HJ2.out; have := HK2.out; first | omega | exact Nat.le_refl _⟩, ⟨by repeat (first | (with_reducible first | exact HB.out | apply below_alloc | apply pw_below_drewN | apply below_drew1) | exact HB.out)⟩⟩
        ·rw [if_neg c15] at H
         have c15b0 : (x7_2 == 0) = false := beq_eq_false_iff_ne.mpr c15
         have c15b1 : (x7_2 != 0) = true := bne_iff_ne.mpr c15
         by_cases c16 : x7_2 > 1114111
         ·rw [if_pos c16] at H
          have c16b0 : decide (1114111 < x7_2) = true := decide_eq_true c16
          clear c16
          have H' := Aside0.mk H
          clear H
          go_wp2
          go_meet
          case rel => exact ⟨_, (true), (by first | rfl | (simp; done) | (simp [*]; done) | (unfold bt; split <;> first | rfl | (exfalso; simp_all; done) | (exfalso; simp_all; omega))), H', ⟨by have := HJ2.out; have := HK2.out; first | omega | exact Nat.le_refl _⟩, ⟨by repeat (first | (with_reducible first | exact HB.out | apply below_alloc | apply pw_below_drewN | apply below_drew1) | exact HB.out)⟩⟩
         ·rw [if_neg c16] at H
          have c16b0 : decide (1114111 < x7_2) = false := decide_eq_false c16
          clear c16
          by_cases c17 : x7_2 ≥ 55296
          ·rw [if_pos c17] at H
           have c17b0 : decide (55296 ≤ x7_2) = true := decide_eq_true c17
           clear c17
           have H' := Aside0.mk H
           clear H
           go_wp2
           go_meet
           case rel => exact ⟨_, (decide (x7_2 ≤ 57343)), (by first | rfl | (simp; done) | (simp [*]; done) | (unfold bt; split <;> first | rfl | (exfalso; simp_all; done) | (exfalso; simp_all; omega))), H', ⟨by have := HJ2.out; have := HK2.out; first | omega | exact Nat.le_refl _⟩, ⟨by repeat (first | (with_reducible first | exact HB.out | apply below_alloc | apply pw_below_drewN | apply below_drew1) | exact HB.out)⟩⟩
          ·rw [if_neg c17] at H
           have c17b0 : decide (55296 ≤ x7_2) = false := decide_eq_false c17
           clear c17
           have H' := Aside0.mk H
           clear H
           go_wp2
           go_meet
           case rel => exact ⟨_, (false), (by first | rfl | (simp; done) | (simp [*]; done) | (unfold bt; split <;> first | rfl | (exfalso; simp_all; done) | (exfalso; simp_all; omega))), H', ⟨by have := HJ2.out; have := HK2.out; first | omega | exact Nat.le_refl _⟩, ⟨by repeat (first | (with_reducible first | exact HB.out | apply below_alloc | apply pw_below_drewN | apply below_drew1) | exact HB.out)⟩⟩
      case rest =>
       clear HC13
       try clear c1
       try clear p2
       try clear p3
       try clear c4
       try clear c5
       try clear c5b0
       try clear c6
       try clear c6b0
       try clear p6
       try clear c7
       try clear p7
       try clear q7
       try clear hx7
       try clear c10
       try clear c10b0
       try clear c11
       try clear c12
       try clear c12b0
       try clear c14
       try clear c14b0
       try clear c14b1
       try clear c15
       try clear c15b0
       try clear c15b1
       try clear c16
       try clear c16b0
       try clear c17
       try clear c17b0
       try clear p2
       try clear p3
       try clear p7
       try clear q7
       obtain ⟨kq, x36_12, rfl, HA, HJ12, HB⟩ := hcut
       cases kq with
       | zero => exact absurd HA.out (by simp [sieveref06_Number.j3])
       | succ kj12 =>
        have H := HA.out
        clear HA
        simp only [sieveref06_Number.j3] at H
        by_cases c18 : x36_12 = true
        ·subst c18
         have H1 : (some (65533, false)) = some (r1, r2) := by rw [if_pos rfl] at H; exact H
         clear H
         have H := H1
         clear H1
         simp only [Option.some.injEq, Prod.mk.injEq] at H
         obtain ⟨rfl, rfl⟩ := H
         go_wp2
         go_ret2
         exact ⟨by first | rfl | (simp [errW_none, errW_some] <;> rfl) | (simp [*, errW_none, errW_some] <;> rfl), by repeat (first | (with_reducible first | exact HB.out | apply below_alloc | apply pw_below_drewN | apply below_drew1) | exact HB.out)⟩
        ·replace c18 := Bool.eq_false_iff.mpr c18
         subst c18
         have H1 : (if x7_2 ≥ 128 then (if x7_2 ≤ 159 then ((sieveref06_Windows.f x7_2).bind fun t131 => (if t131 = 0 then (some (wrap32 (x7_2), true)) else ((sieveref06_Windows.f x7_2).bind fun t132 => (some (t132, false))))) else (some (wrap32 (x7_2), true))) else (some (wrap32 (x7_2), true))) = some (r1, r2) := by rw [if_neg (show ¬ (false = true) by decide)] at H; exact H
         clear H
         have H := H1
         clear H1
         by_cases c19 : x7_2 ≥ 128
         ·rw [if_pos c19] at H
          have c19b0 : decide (128 ≤ x7_2) = true := decide_eq_true c19
          clear c19
          by_cases c20 : x7_2 ≤ 159
          ·rw [if_pos c20] at H
           have c20b0 : decide (x7_2 ≤ 159) = true := decide_eq_true c20
           clear c20
           replace H := Option.bind_eq_some_iff.mp H
           obtain ⟨t131, A210, H⟩ := H
           replace H : (if t131 = 0 then (some (wrap32 (x7_2), true)) else ((sieveref06_Windows.f x7_2).bind fun t132 => (some (t132, false)))) = some (r1, r2) := H
           have A21 := Aside0.mk A210
           clear A210
           by_cases c22 : t131 = 0
           ·rw [if_pos c22] at H
            have c22b0 : (t131 == 0) = true := beq_iff_eq.mpr c22
            have c22b1 : (t131 != 0) = false := bne_eq_false_iff_eq.mpr c22
            clear c22
            simp only [Option.some.injEq, Prod.mk.injEq] at H
            obtain ⟨rfl, rfl⟩ := H
            go_wp2_with (first | (go_at_call 76; (with_reducible refine (sieveref06_Windows.calls x7_2 t131 _ A21.out).mono ?_); rintro e w23 ⟨rfl, hb⟩; have n0_ := Aside0.mk (below_step (by repeat (first | (with_reducible first | exact HB.out | apply below_alloc | apply pw_below_drewN | apply below_drew1) | exact HB.out)) hb); clear HB; have HB := n0_; clear n0_; (try clear hb); (try clear hb2); (try clear hk); (try clear hi)))
            go_ret2
            exact ⟨by first | rfl | (simp [errW_none, errW_some] <;> rfl) | (simp [*, errW_none, errW_some] <;> rfl), by repeat (first | (with_reducible first | exact HB.out | apply below_alloc | apply pw_below_drewN | apply below_drew1) | exact HB.out)⟩
           ·rw [if_neg c22] at H
            have c22b0 : (t131 == 0) = false := beq_eq_false_iff_ne.mpr c22
            have c22b1 : (t131 != 0) = true := bne_iff_ne.mpr c22
            replace H := Option.bind_eq_some_iff.mp H
            obtain ⟨t132, A240, H⟩ := H
            replace H : (some (t132, false)) = some (r1, r2) := H
            have A24 := Aside0.mk A240
            clear A240
            simp only [Option.some.injEq, Prod.mk.injEq] at H
            obtain ⟨rfl, rfl⟩ := H
            go_wp2_with (first | (go_at_call 76; (with_reducible refine (sieveref06_Windows.calls x7_2 t131 _ A21.out).mono ?_); rintro e w25 ⟨rfl, hb⟩; have n0_ := Aside0.mk (below_step (by repeat (first | (with_reducible first | exact HB.out | apply below_alloc | apply pw_below_drewN | apply below_drew1) | exact HB.out)) hb); clear HB; have HB := n0_; clear n0_; (try clear hb); (try clear hb2); (try clear hk); (try clear hi)) | ((with_reducible refine gate_callee (f := 76) rfl ?_); refine goesL_ (some 68) rfl rfl Try.func76 (by kernel_rfl) rfl #[.int .i64 x7_2] rfl (by (try simp only [List.map_toArray, List.map_cons, List.map_nil]); first | done | rfl | (simp only [List.length_drop, List.length_take]; rfl) | (simp [*] <;> rfl)) ?_; (with_reducible refine (sieveref06_Windows.calls x7_2 t132 _ A24.out).mono ?_); rintro e w26 ⟨rfl, hb⟩; refine ⟨_, rfl, ?_⟩; have n0_ := Aside0.mk (below_step (by repeat (first | (with_reducible first | exact HB.out | apply below_alloc | apply pw_below_drewN | apply below_drew1) | exact HB.out)) hb); clear HB; have HB := n0_; clear n0_; (try clear hb); (try clear hb2); (try clear hk); (try clear hi)))
            go_ret2
            exact ⟨by first | rfl | (simp [errW_none, errW_some] <;> rfl) | (simp [*, errW_none, errW_some] <;> rfl), by repeat (first | (with_reducible first | exact HB.out | apply below_alloc | apply pw_below_drewN | apply below_drew1) | exact HB.out)⟩
          ·rw [if_neg c20] at H
           have c20b0 : decide (x7_2 ≤ 159) = false := decide_eq_false c20
           clear c20
           simp only [Option.some.injEq, Prod.mk.injEq] at H
           obtain ⟨rfl, rfl⟩ := H
           go_wp2
           go_ret2
           exact ⟨by first | rfl | (simp [errW_none, errW_some] <;> rfl) | (simp [*, errW_none, errW_some] <;> rfl), by repeat (first | (with_reducible first | exact HB.out | apply below_alloc | apply pw_below_drewN | apply below_drew1) | exact HB.out)⟩
         ·rw [if_neg c19] at H
          have c19b0 : decide (128 ≤ x7_2) = false := decide_eq_false c19
          clear c19
          simp only [Option.some.injEq, Prod.mk.injEq] at H
          obtain ⟨rfl, rfl⟩ := H
          go_wp2
          go_ret2
          exact ⟨by first | rfl | (simp [errW_none, errW_some] <;> rfl) | (simp [*, errW_none, errW_some] <;> rfl), by repeat (first | (with_reducible first | exact HB.out | apply below_alloc | apply pw_below_drewN | apply below_drew1) | exact HB.out)⟩

/-! ### sieveref05_Prefix: function 24 -/
def sieveref05_Prefix.f (a0 : ByteArray) (a1 : ByteArray) : Option (Bool) := if (a0.size : Int) ≥ (a1.size : Int) then (if 0 ≤ (a1.size : Int) then (if (a1.size : Int) ≤ (a0.size : Int) then (some ((a0.extract 0 ((a1.size : Int) : Int).toNat).toList == a1.toList)) else (none)) else (none)) else (some false)
set_option maxHeartbeats 8000000 in
set_option maxRecDepth 100000 in
theorem sieveref05_Prefix.calls (a0 : ByteArray) (a1 : ByteArray) (r : Bool) (w : World) (h : sieveref05_Prefix.f a0 a1 = some r) :
  Calls Try.prog 24 #[.string a0, .string a1] w fun e w' => e = .returned (.bool r) ∧ Drawn0 w w' := by
 have H : (if (a0.size : Int) ≥ (a1.size : Int) then (if 0 ≤ (a1.size : Int) then (if (a1.size : Int) ≤ (a0.size : Int) then (some ((a0.extract 0 ((a1.size : Int) : Int).toNat).toList == a1.toList)) else (none)) else (none)) else (some false)) = some r := h
 clear h
 by_cases c3 : (a0.size : Int) ≥ (a1.size : Int)
 ·rw [if_pos c3] at H
  have c3b0 : decide ((a1.size : Int) ≤ (a0.size : Int)) = true := decide_eq_true c3
  have c3b1 : decide (a1.size ≤ a0.size) = true := decide_eq_true (Int.ofNat_le.mp c3)
  clear c3
  by_cases c4 : 0 ≤ (a1.size : Int)
  ·rw [if_pos c4] at H
   have c4b0 := eq_true c4
   have c4b1 : decide (0 ≤ (a1.size : Int)) = true := decide_eq_true c4
   clear c4
   by_cases c5 : (a1.size : Int) ≤ (a0.size : Int)
   ·rw [if_pos c5] at H
    have c5b0 := eq_true c5
    have c5b1 : decide ((a1.size : Int) ≤ (a0.size : Int)) = true := decide_eq_true c5
    clear c5
    obtain rfl := Option.some.inj H
    go_enter Try.func24, Try.ntmps24
    go_wp2
    go_ret
    exact ⟨by first | rfl | (simp; done) | (simp [*]; done), by repeat (first | exact Drawn0.refl _ | apply Drawn0.step)⟩
   ·rw [if_neg c5] at H
    exact absurd H (by simp)
  ·rw [if_neg c4] at H
   exact absurd H (by simp)
 ·rw [if_neg c3] at H
  have c3b0 : decide ((a1.size : Int) ≤ (a0.size : Int)) = false := decide_eq_false c3
  have c3b1 : decide (a1.size ≤ a0.size) = false := decide_eq_false (fun h => c3 (Int.ofNat_le.mpr h))
  clear c3
  obtain rfl := Option.some.inj H
  go_enter Try.func24, Try.ntmps24
  go_wp2
  go_ret
  exact ⟨by first | rfl | (simp; done) | (simp [*]; done), by repeat (first | exact Drawn0.refl _ | apply Drawn0.step)⟩

/-! ### sieveref05_says: function 49 -/
def sieveref05_says.f (a0_0 : ByteArray) (a0_1 : Int) (a0_2 : Int) (a0_3 : Bool) : Option (List Int) := if a0_2 = 0 then (some (([a0_1] : List Int))) else (some (([a0_1, a0_2] : List Int)))
set_option maxHeartbeats 8000000 in
set_option maxRecDepth 100000 in
theorem sieveref05_says.calls (a0_0 : ByteArray) (a0_1 : Int) (a0_2 : Int) (a0_3 : Bool) (r : List Int) (w : World) (h : sieveref05_says.f a0_0 a0_1 a0_2 a0_3 = some r) :
  Calls Try.prog 49 #[.agg #[.string a0_0, .int .i32 a0_1, .int .i32 a0_2, .bool a0_3]] w fun e w' => ∃ v0_ : Value, e = .returned (v0_) ∧ Kd.R (Kd.int .i32) 21 w' w.heap.size (fun _ => True) v0_ r ∧ Below w.heap.size w w' := by
 have hu64 := Try.underlying64
 have HB := Aside0.mk (Below.refl w.heap.size w)
 have H : (if a0_2 = 0 then (some (([a0_1] : List Int))) else (some (([a0_1, a0_2] : List Int)))) = some r := h
 clear h
 by_cases c2 : a0_2 = 0
 ·rw [if_pos c2] at H
  have c2b0 : (a0_2 == 0) = true := beq_iff_eq.mpr c2
  have c2b1 : (a0_2 != 0) = false := bne_eq_false_iff_eq.mpr c2
  clear c2
  obtain ⟨y134, hy134⟩ : ∃ y_ : List Int, y_ = (([a0_1] : List Int)) := ⟨_, rfl⟩
  replace H : (some y134) = some r := by first | (rw [hy134]; with_reducible exact H) | (have H2_ := (Option.bind_some _ _).symm.trans H; rw [hy134]; with_reducible exact H2_) | (have H2_ := (Option.bind_some _ _).symm.trans H; with_reducible exact H2_) | with_reducible exact H | (rw [hy134]; exact H) | exact H
  have Ny134 := Aside0.mk hy134
  clear hy134
  obtain rfl := Option.some.inj H
  go_enter Try.func49, Try.ntmps49
  go_wp2_with (first | ((with_reducible refine gate_dst (N := 1) rfl ?_); refine box_event ?hg (N := 1) ?hd (cs := #[.string a0_0, .int .i32 a0_1, .int .i32 a0_2, .bool a0_3]) (t := 64) ?hr ?_; (case hd => rfl); (case hg => rfl); (case hr => first | (go_simp; done) | (go_simp; rfl)); intro gb133 hg w3 hbox hb; have n0_ := Aside0.mk (below_step (by repeat (first | (with_reducible first | exact HB.out | apply below_alloc | apply pw_below_drewN | apply below_drew1) | exact HB.out)) hb); have n1_ := Aside0.mk (hbox); have n2_ := Aside0.mk ((by rw [hg]; exact (below_size (by repeat (first | (with_reducible first | exact HB.out | apply below_alloc | apply pw_below_drewN | apply below_drew1) | exact HB.out))) : w.heap.size ≤ gb133)); have n3_ := Aside0.mk ((by rw [hg]; exact (below_size (by repeat (first | (with_reducible first | exact HB.out | apply below_alloc | apply pw_below_drewN | apply below_drew1) | exact HB.out))) : w.heap.size ≤ gb133)); clear HB; have HB := n0_; have BK133 := n1_; have GW133 := n2_; have GE133 := n3_; clear n0_ n1_ n2_ n3_; clear hb hbox hg; have hcz4_0 : w3.cell? ⟨gb133, 0, none⟩ = some (.string a0_0) := (blk_cell BK133.out 0).trans rfl; have hcz4_1 : w3.cell? ⟨gb133, 1, none⟩ = some (.int .i32 a0_1) := (blk_cell BK133.out 1).trans rfl; have hcz4_2 : w3.cell? ⟨gb133, 2, none⟩ = some (.int .i32 a0_2) := (blk_cell BK133.out 2).trans rfl; have hcz4_3 : w3.cell? ⟨gb133, 3, none⟩ = some (.bool a0_3) := (blk_cell BK133.out 3).trans rfl; have hfz4_0 := blk_frozen BK133.out 0; have hfz4_1 := blk_frozen BK133.out 1; have hfz4_2 := blk_frozen BK133.out 2; have hfz4_3 := blk_frozen BK133.out 3) | ((with_reducible refine gate_dst (N := 13) rfl ?_); refine Kd.R_lit (Kd.int .i32) _ 21 ?hg (N := 13) ?hd (xs := ([a0_1] : List Int)) (inner := [.int .i32 a0_1]) (ok := fun _ => True) (okp := fun _ => True) ?hr ?hp (fun _ hk => hk) trivial (Below.refl _ _) (Nat.le_refl _) (by simp) ?_; (case hd => rfl); (case hg => rfl); (case hr => first | (go_simp; done) | (go_simp; rfl)); (case hp => exact (Reps.one (show Kd.M (Kd.int .i32) _ _ _ a0_1 [.int .i32 a0_1] from rfl) (Reps.none _ _))); intro v135 w5 ho6 hb hg_ hnew_; clear hg_ hnew_; (first | rw [← Ny134.out] at ho6 | (simp only [Int.reduceToNat] at ho6; rw [← Ny134.out] at ho6)); have n0_ := Aside0.mk (Kd.R_lower ho6 (below_size (by repeat (first | (with_reducible first | exact HB.out | apply below_alloc | apply pw_below_drewN | apply below_drew1 | refine below_set ?_ GE133.out) | exact HB.out)))); have n1_ := Aside0.mk (blk_below (g := gb133) (o := .cells #[.string a0_0, .int .i32 a0_1, .int .i32 a0_2, .bool a0_3] 64 (0, 0)) (by (with_reducible repeat (first | refine blk_drewN ?_ _ | refine blk_drew ?_ | refine blk_alloc ?_ _)); exact BK133.out) hb); have n2_ := Aside0.mk (below_step (by repeat (first | (with_reducible first | exact HB.out | apply below_alloc | apply pw_below_drewN | apply below_drew1 | refine below_set ?_ GE133.out) | exact HB.out)) hb); clear BK133; clear HB; have HO136 := n0_; have BK133 := n1_; have HB := n2_; clear n0_ n1_ n2_; clear hb ho6))
  go_ret
  exact ⟨_, by first | rfl | (simp [errW_none, errW_some] <;> rfl) | (simp [*, errW_none, errW_some] <;> rfl), by (with_reducible repeat (first | apply Kd.R_alloc | apply Kd.R_drewN | apply Kd.R_drew)); exact HO136.out, by repeat (first | (with_reducible first | exact HB.out | apply below_alloc | apply pw_below_drewN | apply below_drew1 | refine below_set ?_ GE133.out) | exact HB.out)⟩
 ·rw [if_neg c2] at H
  have c2b0 : (a0_2 == 0) = false := beq_eq_false_iff_ne.mpr c2
  have c2b1 : (a0_2 != 0) = true := bne_iff_ne.mpr c2
  obtain ⟨y137, hy137⟩ : ∃ y_ : List Int, y_ = (([a0_1, a0_2] : List Int)) := ⟨_, rfl⟩
  replace H : (some y137) = some r := by first | (rw [hy137]; with_reducible exact H) | (have H2_ := (Option.bind_some _ _).symm.trans H; rw [hy137]; with_reducible exact H2_) | (have H2_ := (Option.bind_some _ _).symm.trans H; with_reducible exact H2_) | with_reducible exact H | (rw [hy137]; exact H) | exact H
  have Ny137 := Aside0.mk hy137
  clear hy137
  obtain rfl := Option.some.inj H
  go_enter Try.func49, Try.ntmps49
  go_wp2_with (first | ((with_reducible refine gate_dst (N := 1) rfl ?_); refine box_event ?hg (N := 1) ?hd (cs := #[.string a0_0, .int .i32 a0_1, .int .i32 a0_2, .bool a0_3]) (t := 64) ?hr ?_; (case hd => rfl); (case hg => rfl); (case hr => first | (go_simp; done) | (go_simp; rfl)); intro gb133 hg w7 hbox hb; have n0_ := Aside0.mk (below_step (by repeat (first | (with_reducible first | exact HB.out | apply below_alloc | apply pw_below_drewN | apply below_drew1) | exact HB.out)) hb); have n1_ := Aside0.mk (hbox); have n2_ := Aside0.mk ((by rw [hg]; exact (below_size (by repeat (first | (with_reducible first | exact HB.out | apply below_alloc | apply pw_below_drewN | apply below_drew1) | exact HB.out))) : w.heap.size ≤ gb133)); have n3_ := Aside0.mk ((by rw [hg]; exact (below_size (by repeat (first | (with_reducible first | exact HB.out | apply below_alloc | apply pw_below_drewN | apply below_drew1) | exact HB.out))) : w.heap.size ≤ gb133)); clear HB; have HB := n0_; have BK133 := n1_; have GW133 := n2_; have GE133 := n3_; clear n0_ n1_ n2_ n3_; clear hb hbox hg; have hcz8_0 : w7.cell? ⟨gb133, 0, none⟩ = some (.string a0_0) := (blk_cell BK133.out 0).trans rfl; have hcz8_1 : w7.cell? ⟨gb133, 1, none⟩ = some (.int .i32 a0_1) := (blk_cell BK133.out 1).trans rfl; have hcz8_2 : w7.cell? ⟨gb133, 2, none⟩ = some (.int .i32 a0_2) := (blk_cell BK133.out 2).trans rfl; have hcz8_3 : w7.cell? ⟨gb133, 3, none⟩ = some (.bool a0_3) := (blk_cell BK133.out 3).trans rfl; have hfz8_0 := blk_frozen BK133.out 0; have hfz8_1 := blk_frozen BK133.out 1; have hfz8_2 := blk_frozen BK133.out 2; have hfz8_3 := blk_frozen BK133.out 3) | ((with_reducible refine gate_dst (N := 10) rfl ?_); refine Kd.R_lit (Kd.int .i32) _ 21 ?hg (N := 10) ?hd (xs := ([a0_1, a0_2] : List Int)) (inner := [.int .i32 a0_1, .int .i32 a0_2]) (ok := fun _ => True) (okp := fun _ => True) ?hr ?hp (fun _ hk => hk) trivial (Below.refl _ _) (Nat.le_refl _) (by simp) ?_; (case hd => rfl); (case hg => rfl); (case hr => first | (go_simp; done) | (go_simp; rfl)); (case hp => exact (Reps.one (show Kd.M (Kd.int .i32) _ _ _ a0_1 [.int .i32 a0_1] from rfl) (Reps.one (show Kd.M (Kd.int .i32) _ _ _ a0_2 [.int .i32 a0_2] from rfl) (Reps.none _ _)))); intro v138 w9 ho10 hb hg_ hnew_; clear hg_ hnew_; (first | rw [← Ny137.out] at ho10 | (simp only [Int.reduceToNat] at ho10; rw [← Ny137.out] at ho10)); have n0_ := Aside0.mk (Kd.R_lower ho10 (below_size (by repeat (first | (with_reducible first | exact HB.out | apply below_alloc | apply pw_below_drewN | apply below_drew1 | refine below_set ?_ GE133.out) | exact HB.out)))); have n1_ := Aside0.mk (blk_below (g := gb133) (o := .cells #[.string a0_0, .int .i32 a0_1, .int .i32 a0_2, .bool a0_3] 64 (0, 0)) (by (with_reducible repeat (first | refine blk_drewN ?_ _ | refine blk_drew ?_ | refine blk_alloc ?_ _)); exact BK133.out) hb); have n2_ := Aside0.mk (below_step (by repeat (first | (with_reducible first | exact HB.out | apply below_alloc | apply pw_below_drewN | apply below_drew1 | refine below_set ?_ GE133.out) | exact HB.out)) hb); clear BK133; clear HB; have HO139 := n0_; have BK133 := n1_; have HB := n2_; clear n0_ n1_ n2_; clear hb ho10))
  go_ret
  exact ⟨_, by first | rfl | (simp [errW_none, errW_some] <;> rfl) | (simp [*, errW_none, errW_some] <;> rfl), by (with_reducible repeat (first | apply Kd.R_alloc | apply Kd.R_drewN | apply Kd.R_drew)); exact HO139.out, by repeat (first | (with_reducible first | exact HB.out | apply below_alloc | apply pw_below_drewN | apply below_drew1 | refine below_set ?_ GE133.out) | exact HB.out)⟩

/-! ### sieveref04_Upper: function 77 -/
def sieveref04_Upper.f (a0 : Int) : Option (Bool) := if a0 ≥ 65 then (some (decide (a0 ≤ 90))) else (some false)
set_option maxHeartbeats 8000000 in
set_option maxRecDepth 100000 in
theorem sieveref04_Upper.calls (a0 : Int) (r : Bool) (w : World) (h : sieveref04_Upper.f a0 = some r) :
  Calls Try.prog 77 #[.int .i32 a0] w fun e w' => e = .returned (.bool r) ∧ Drawn0 w w' := by
 have H : (if a0 ≥ 65 then (some (decide (a0 ≤ 90))) else (some false)) = some r := h
 clear h
 by_cases c2 : a0 ≥ 65
 ·rw [if_pos c2] at H
  have c2b0 : decide (65 ≤ a0) = true := decide_eq_true c2
  clear c2
  obtain rfl := Option.some.inj H
  go_enter Try.func77, Try.ntmps77
  go_wp2
  go_ret
  exact ⟨by first | rfl | (simp; done) | (simp [*]; done), by repeat (first | exact Drawn0.refl _ | apply Drawn0.step)⟩
 ·rw [if_neg c2] at H
  have c2b0 : decide (65 ≤ a0) = false := decide_eq_false c2
  clear c2
  obtain rfl := Option.some.inj H
  go_enter Try.func77, Try.ntmps77
  go_wp2
  go_ret
  exact ⟨by first | rfl | (simp; done) | (simp [*]; done), by repeat (first | exact Drawn0.refl _ | apply Drawn0.step)⟩

/-! ### sieveref04_Letter: function 64 -/
def sieveref04_Letter.f (a0 : Int) : Option (Bool) := (sieveref04_Upper.f a0).bind fun t140 => (if t140 = true then (some true) else (if a0 ≥ 97 then (some (decide (a0 ≤ 122))) else (some false)))
set_option maxHeartbeats 8000000 in
set_option maxRecDepth 100000 in
theorem sieveref04_Letter.calls (a0 : Int) (r : Bool) (w : World) (h : sieveref04_Letter.f a0 = some r) :
  Calls Try.prog 64 #[.int .i32 a0] w fun e w' => e = .returned (.bool r) ∧ Drawn0 w w' := by
 have H : ((sieveref04_Upper.f a0).bind fun t140 => (if t140 = true then (some true) else (if a0 ≥ 97 then (some (decide (a0 ≤ 122))) else (some false)))) = some r := h
 clear h
 replace H := Option.bind_eq_some_iff.mp H
 obtain ⟨t140, A20, H⟩ := H
 replace H : (if t140 = true then (some true) else (if a0 ≥ 97 then (some (decide (a0 ≤ 122))) else (some false))) = some r := H
 have A2 := Aside0.mk A20
 clear A20
 by_cases c3 : t140 = true
 ·subst c3
  have H1 : (some true) = some r := by rw [if_pos rfl] at H; exact H
  clear H
  have H := H1
  clear H1
  obtain rfl := Option.some.inj H
  go_enter Try.func64, Try.ntmps64
  go_wp2_with (first | ((with_reducible refine gate_callee (f := 77) rfl ?_); refine goesL_ (some 4) rfl rfl Try.func77 (by kernel_rfl) rfl #[.int .i32 a0] rfl (by (try simp only [List.map_toArray, List.map_cons, List.map_nil]); first | done | rfl | (simp only [List.length_drop, List.length_take]; rfl) | (simp [*] <;> rfl)) ?_; (with_reducible refine (sieveref04_Upper.calls a0 true _ A2.out).mono ?_); rintro e w' ⟨rfl, ⟨nd, rfl⟩⟩; refine ⟨_, rfl, ?_⟩))
  go_ret
  exact ⟨by first | rfl | (simp; done) | (simp [*]; done), by repeat (first | exact Drawn0.refl _ | apply Drawn0.step)⟩
 ·replace c3 := Bool.eq_false_iff.mpr c3
  subst c3
  have H1 : (if a0 ≥ 97 then (some (decide (a0 ≤ 122))) else (some false)) = some r := by rw [if_neg (show ¬ (false = true) by decide)] at H; exact H
  clear H
  have H := H1
  clear H1
  by_cases c4 : a0 ≥ 97
  ·rw [if_pos c4] at H
   have c4b0 : decide (97 ≤ a0) = true := decide_eq_true c4
   clear c4
   obtain rfl := Option.some.inj H
   go_enter Try.func64, Try.ntmps64
   go_wp2_with (first | ((with_reducible refine gate_callee (f := 77) rfl ?_); refine goesL_ (some 4) rfl rfl Try.func77 (by kernel_rfl) rfl #[.int .i32 a0] rfl (by (try simp only [List.map_toArray, List.map_cons, List.map_nil]); first | done | rfl | (simp only [List.length_drop, List.length_take]; rfl) | (simp [*] <;> rfl)) ?_; (with_reducible refine (sieveref04_Upper.calls a0 false _ A2.out).mono ?_); rintro e w' ⟨rfl, ⟨nd, rfl⟩⟩; refine ⟨_, rfl, ?_⟩))
   go_ret
   exact ⟨by first | rfl | (simp; done) | (simp [*]; done), by repeat (first | exact Drawn0.refl _ | apply Drawn0.step)⟩
  ·rw [if_neg c4] at H
   have c4b0 : decide (97 ≤ a0) = false := decide_eq_false c4
   clear c4
   obtain rfl := Option.some.inj H
   go_enter Try.func64, Try.ntmps64
   go_wp2_with (first | ((with_reducible refine gate_callee (f := 77) rfl ?_); refine goesL_ (some 4) rfl rfl Try.func77 (by kernel_rfl) rfl #[.int .i32 a0] rfl (by (try simp only [List.map_toArray, List.map_cons, List.map_nil]); first | done | rfl | (simp only [List.length_drop, List.length_take]; rfl) | (simp [*] <;> rfl)) ?_; (with_reducible refine (sieveref04_Upper.calls a0 false _ A2.out).mono ?_); rintro e w' ⟨rfl, ⟨nd, rfl⟩⟩; refine ⟨_, rfl, ?_⟩))
   go_ret
   exact ⟨by first | rfl | (simp; done) | (simp [*]; done), by repeat (first | exact Drawn0.refl _ | apply Drawn0.step)⟩

/-! ### sieveref01_size: function 68 -/
mutual
def sieveref01_size.j0 : Nat → Int → Bool → Option (Int)
 | 0, _, _ => none
 | k + 1, x0, x6 => if x6 = true then (some 2) else (if x0 ≥ 224 then (sieveref01_size.j1 k x0 (decide (x0 ≤ 239))) else (sieveref01_size.j1 k x0 false))
def sieveref01_size.j1 : Nat → Int → Bool → Option (Int)
 | 0, _, _ => none
 | k + 1, x0, x13 => if x13 = true then (some 3) else (if x0 ≥ 240 then (if x0 ≤ 244 then (some 4) else (some 0)) else (some 0))
end
def sieveref01_size.f (k : Nat) (a0 : Int) : Option (Int) := if a0 < 128 then (some 1) else (if a0 ≥ 194 then (sieveref01_size.j0 k a0 (decide (a0 ≤ 223))) else (sieveref01_size.j0 k a0 false))
theorem sieveref01_size.mono_l : ∀ k, (∀ y0 y1, LeO (sieveref01_size.j0 k y0 y1) (sieveref01_size.j0 (k + 1) y0 y1)) ∧ (∀ y0 y1, LeO (sieveref01_size.j1 k y0 y1) (sieveref01_size.j1 (k + 1) y0 y1))
 | 0 => ⟨fun _ _ r h => by simp [sieveref01_size.j0] at h, fun _ _ r h => by simp [sieveref01_size.j1] at h⟩
 | k + 1 => by
  obtain ⟨ih0, ih1⟩ := sieveref01_size.mono_l k
  refine ⟨?_, ?_⟩
  ·intro y0 y1
   unfold sieveref01_size.j0
   repeat' first
   | (with_reducible exact ih0 _ _)
   | (with_reducible exact ih1 _ _)
   | (with_reducible exact LeO.refl _)
   | (with_reducible exact LeO.none _)
   | (with_reducible refine LeO.ite ?_ ?_)
   | (with_reducible refine LeO.bind ?_ (fun _ => ?_))
   | exact ih0 _ _
   | exact ih1 _ _
   | exact LeO.none _
   | refine LeO.ite ?_ ?_
   | refine LeO.bind ?_ (fun _ => ?_)
  ·intro y0 y1
   unfold sieveref01_size.j1
   repeat' first
   | (with_reducible exact ih0 _ _)
   | (with_reducible exact ih1 _ _)
   | (with_reducible exact LeO.refl _)
   | (with_reducible exact LeO.none _)
   | (with_reducible refine LeO.ite ?_ ?_)
   | (with_reducible refine LeO.bind ?_ (fun _ => ?_))
   | exact ih0 _ _
   | exact ih1 _ _
   | exact LeO.none _
   | refine LeO.ite ?_ ?_
   | refine LeO.bind ?_ (fun _ => ?_)
theorem sieveref01_size.mono : ∀ a0 k, LeO (sieveref01_size.f k a0) (sieveref01_size.f (k + 1) a0) := by
 intro a0 k
 obtain ⟨ih0, ih1⟩ := sieveref01_size.mono_l k
 unfold sieveref01_size.f
 repeat' first
   | (with_reducible exact ih0 _ _)
   | (with_reducible exact ih1 _ _)
   | (with_reducible exact LeO.refl _)
   | (with_reducible exact LeO.none _)
   | (with_reducible refine LeO.ite ?_ ?_)
   | (with_reducible refine LeO.bind ?_ (fun _ => ?_))
   | exact ih0 _ _
   | exact ih1 _ _
   | exact LeO.none _
   | refine LeO.ite ?_ ?_
   | refine LeO.bind ?_ (fun _ => ?_)
set_option maxHeartbeats 8000000 in
set_option maxRecDepth 100000 in
theorem sieveref01_size.calls (k : Nat) (a0 : Int) (r : Int) (w : World) (h : sieveref01_size.f k a0 = some r) :
  Calls Try.prog 68 #[.int .u8 a0] w fun e w' => e = .returned (.int .i64 r) ∧ Drawn0 w w' := by
 have H : (if a0 < 128 then (some 1) else (if a0 ≥ 194 then (sieveref01_size.j0 k a0 (decide (a0 ≤ 223))) else (sieveref01_size.j0 k a0 false))) = some r := h
 clear h
 by_cases c2 : a0 < 128
 ·rw [if_pos c2] at H
  have c2b0 : decide (a0 < 128) = true := decide_eq_true c2
  clear c2
  obtain rfl := Option.some.inj H
  go_enter Try.func68, Try.ntmps68
  go_wp2
  go_ret
  exact ⟨by first | rfl | (simp; done) | (simp [*]; done), by repeat (first | exact Drawn0.refl _ | apply Drawn0.step)⟩
 ·rw [if_neg c2] at H
  have c2b0 : decide (a0 < 128) = false := decide_eq_false c2
  clear c2
  have HC3 := Aside0.mk H
  clear H
  go_enter Try.func68, Try.ntmps68
  go_upto_region 3 with (fail)
  go_cut [6] (fun v6 wc => ∃ (kq : Nat) (x6_2 : Bool), v6 = .bool x6_2 ∧ Aside0 (sieveref01_size.j0 kq a0 x6_2 = some r) ∧ Aside0 (kq ≤ k) ∧ Drawn0 w wc)
  case first =>
   have H := HC3.out
   clear HC3
   by_cases c4 : a0 ≥ 194
   ·rw [if_pos c4] at H
    have c4b0 : decide (194 ≤ a0) = true := decide_eq_true c4
    clear c4
    (first | rw [c4b0] | (simp only [i64_w, i32_w]; rw [c4b0]) | skip)
    have H' := Aside0.mk H
    clear H
    go_wp2
    go_meet
    case rel => exact ⟨_, (decide (a0 ≤ 223)), (by first | rfl | (simp; done) | (simp [*]; done) | (unfold bt; split <;> first | rfl | (exfalso; simp_all; done) | (exfalso; simp_all; omega))), H', ⟨by first | omega | exact Nat.le_refl _⟩, by repeat (first | exact Drawn0.refl _ | apply Drawn0.step)⟩
   ·rw [if_neg c4] at H
    have c4b0 : decide (194 ≤ a0) = false := decide_eq_false c4
    clear c4
    (first | rw [c4b0] | (simp only [i64_w, i32_w]; rw [c4b0]) | skip)
    have H' := Aside0.mk H
    clear H
    go_wp2
    go_meet
    case rel => exact ⟨_, (false), (by first | rfl | (simp; done) | (simp [*]; done) | (unfold bt; split <;> first | rfl | (exfalso; simp_all; done) | (exfalso; simp_all; omega))), H', ⟨by first | omega | exact Nat.le_refl _⟩, by repeat (first | exact Drawn0.refl _ | apply Drawn0.step)⟩
  case rest =>
   clear HC3
   try clear c2
   try clear c2b0
   try clear p2
   try clear c4
   try clear c4b0
   obtain ⟨kq, x6_2, rfl, HA, HJ2, ⟨mc2, rfl⟩⟩ := hcut
   cases kq with
   | zero => exact absurd HA.out (by simp [sieveref01_size.j0])
   | succ kj2 =>
    have H := HA.out
    clear HA
    simp only [sieveref01_size.j0] at H
    by_cases c5 : x6_2 = true
    ·subst c5
     have H1 : (some 2) = some r := by rw [if_pos rfl] at H; exact H
     clear H
     have H := H1
     clear H1
     obtain rfl := Option.some.inj H
     go_wp2
     go_ret
     exact ⟨by first | rfl | (simp; done) | (simp [*]; done), by repeat (first | exact Drawn0.refl _ | apply Drawn0.step)⟩
    ·replace c5 := Bool.eq_false_iff.mpr c5
     subst c5
     have H1 : (if a0 ≥ 224 then (sieveref01_size.j1 kj2 a0 (decide (a0 ≤ 239))) else (sieveref01_size.j1 kj2 a0 false)) = some r := by rw [if_neg (show ¬ (false = true) by decide)] at H; exact H
     clear H
     have H := H1
     clear H1
     have HC6 := Aside0.mk H
     clear H
     go_upto_region 5 with (fail)
     go_cut [13] (fun v13 wc => ∃ (kq : Nat) (x13_5 : Bool), v13 = .bool x13_5 ∧ Aside0 (sieveref01_size.j1 kq a0 x13_5 = some r) ∧ Aside0 (kq ≤ kj2) ∧ Drawn0 w wc)
     case first =>
      have H := HC6.out
      clear HC6
      by_cases c7 : a0 ≥ 224
      ·rw [if_pos c7] at H
       have c7b0 : decide (224 ≤ a0) = true := decide_eq_true c7
       clear c7
       (first | rw [c7b0] | (simp only [i64_w, i32_w]; rw [c7b0]) | skip)
       have H' := Aside0.mk H
       clear H
       go_wp2
       go_meet
       case rel => exact ⟨_, (decide (a0 ≤ 239)), (by first | rfl | (simp; done) | (simp [*]; done) | (unfold bt; split <;> first | rfl | (exfalso; simp_all; done) | (exfalso; simp_all; omega))), H', ⟨by have := HJ2.out; first | omega | exact Nat.le_refl _⟩, by repeat (first | exact Drawn0.refl _ | apply Drawn0.step)⟩
      ·rw [if_neg c7] at H
       have c7b0 : decide (224 ≤ a0) = false := decide_eq_false c7
       clear c7
       (first | rw [c7b0] | (simp only [i64_w, i32_w]; rw [c7b0]) | skip)
       have H' := Aside0.mk H
       clear H
       go_wp2
       go_meet
       case rel => exact ⟨_, (false), (by first | rfl | (simp; done) | (simp [*]; done) | (unfold bt; split <;> first | rfl | (exfalso; simp_all; done) | (exfalso; simp_all; omega))), H', ⟨by have := HJ2.out; first | omega | exact Nat.le_refl _⟩, by repeat (first | exact Drawn0.refl _ | apply Drawn0.step)⟩
     case rest =>
      clear HC6
      try clear c2
      try clear c2b0
      try clear p2
      try clear c4
      try clear c4b0
      try clear c5
      try clear c6
      try clear c7
      try clear c7b0
      try clear p2
      obtain ⟨kq, x13_5, rfl, HA, HJ5, ⟨mc5, rfl⟩⟩ := hcut
      cases kq with
      | zero => exact absurd HA.out (by simp [sieveref01_size.j1])
      | succ kj5 =>
       have H := HA.out
       clear HA
       simp only [sieveref01_size.j1] at H
       by_cases c8 : x13_5 = true
       ·subst c8
        have H1 : (some 3) = some r := by rw [if_pos rfl] at H; exact H
        clear H
        have H := H1
        clear H1
        obtain rfl := Option.some.inj H
        go_wp2
        go_ret
        exact ⟨by first | rfl | (simp; done) | (simp [*]; done), by repeat (first | exact Drawn0.refl _ | apply Drawn0.step)⟩
       ·replace c8 := Bool.eq_false_iff.mpr c8
        subst c8
        have H1 : (if a0 ≥ 240 then (if a0 ≤ 244 then (some 4) else (some 0)) else (some 0)) = some r := by rw [if_neg (show ¬ (false = true) by decide)] at H; exact H
        clear H
        have H := H1
        clear H1
        by_cases c9 : a0 ≥ 240
        ·rw [if_pos c9] at H
         have c9b0 : decide (240 ≤ a0) = true := decide_eq_true c9
         clear c9
         by_cases c10 : a0 ≤ 244
         ·rw [if_pos c10] at H
          have c10b0 : decide (a0 ≤ 244) = true := decide_eq_true c10
          clear c10
          obtain rfl := Option.some.inj H
          go_wp2
          go_ret
          exact ⟨by first | rfl | (simp; done) | (simp [*]; done), by repeat (first | exact Drawn0.refl _ | apply Drawn0.step)⟩
         ·rw [if_neg c10] at H
          have c10b0 : decide (a0 ≤ 244) = false := decide_eq_false c10
          clear c10
          obtain rfl := Option.some.inj H
          go_wp2
          go_ret
          exact ⟨by first | rfl | (simp; done) | (simp [*]; done), by repeat (first | exact Drawn0.refl _ | apply Drawn0.step)⟩
        ·rw [if_neg c9] at H
         have c9b0 : decide (240 ≤ a0) = false := decide_eq_false c9
         clear c9
         obtain rfl := Option.some.inj H
         go_wp2
         go_ret
         exact ⟨by first | rfl | (simp; done) | (simp [*]; done), by repeat (first | exact Drawn0.refl _ | apply Drawn0.step)⟩

/-! ### sieveref01_second: function 69 -/
def sieveref01_second.f (a0 : Int) (a1 : Int) : Option (Bool) := if a0 = 224 then (if a1 ≥ 160 then (some (decide (a1 ≤ 191))) else (some false)) else (if a0 = 237 then (if a1 ≥ 128 then (some (decide (a1 ≤ 159))) else (some false)) else (if a0 = 240 then (if a1 ≥ 144 then (some (decide (a1 ≤ 191))) else (some false)) else (if a0 = 244 then (if a1 ≥ 128 then (some (decide (a1 ≤ 143))) else (some false)) else (if a1 ≥ 128 then (some (decide (a1 ≤ 191))) else (some false)))))
set_option maxHeartbeats 8000000 in
set_option maxRecDepth 100000 in
theorem sieveref01_second.calls (a0 : Int) (a1 : Int) (r : Bool) (w : World) (h : sieveref01_second.f a0 a1 = some r) :
  Calls Try.prog 69 #[.int .u8 a0, .int .u8 a1] w fun e w' => e = .returned (.bool r) ∧ Drawn0 w w' := by
 have H : (if a0 = 224 then (if a1 ≥ 160 then (some (decide (a1 ≤ 191))) else (some false)) else (if a0 = 237 then (if a1 ≥ 128 then (some (decide (a1 ≤ 159))) else (some false)) else (if a0 = 240 then (if a1 ≥ 144 then (some (decide (a1 ≤ 191))) else (some false)) else (if a0 = 244 then (if a1 ≥ 128 then (some (decide (a1 ≤ 143))) else (some false)) else (if a1 ≥ 128 then (some (decide (a1 ≤ 191))) else (some false)))))) = some r := h
 clear h
 by_cases c3 : a0 = 224
 ·rw [if_pos c3] at H
  have c3b0 : (a0 == 224) = true := beq_iff_eq.mpr c3
  have c3b1 : (a0 != 224) = false := bne_eq_false_iff_eq.mpr c3
  clear c3
  by_cases c4 : a1 ≥ 160
  ·rw [if_pos c4] at H
   have c4b0 : decide (160 ≤ a1) = true := decide_eq_true c4
   clear c4
   obtain rfl := Option.some.inj H
   go_enter Try.func69, Try.ntmps69
   go_wp2
   go_ret
   exact ⟨by first | rfl | (simp; done) | (simp [*]; done), by repeat (first | exact Drawn0.refl _ | apply Drawn0.step)⟩
  ·rw [if_neg c4] at H
   have c4b0 : decide (160 ≤ a1) = false := decide_eq_false c4
   clear c4
   obtain rfl := Option.some.inj H
   go_enter Try.func69, Try.ntmps69
   go_wp2
   go_ret
   exact ⟨by first | rfl | (simp; done) | (simp [*]; done), by repeat (first | exact Drawn0.refl _ | apply Drawn0.step)⟩
 ·rw [if_neg c3] at H
  have c3b0 : (a0 == 224) = false := beq_eq_false_iff_ne.mpr c3
  have c3b1 : (a0 != 224) = true := bne_iff_ne.mpr c3
  by_cases c5 : a0 = 237
  ·rw [if_pos c5] at H
   have c5b0 : (a0 == 237) = true := beq_iff_eq.mpr c5
   have c5b1 : (a0 != 237) = false := bne_eq_false_iff_eq.mpr c5
   clear c5
   by_cases c6 : a1 ≥ 128
   ·rw [if_pos c6] at H
    have c6b0 : decide (128 ≤ a1) = true := decide_eq_true c6
    clear c6
    obtain rfl := Option.some.inj H
    go_enter Try.func69, Try.ntmps69
    go_wp2
    go_ret
    exact ⟨by first | rfl | (simp; done) | (simp [*]; done), by repeat (first | exact Drawn0.refl _ | apply Drawn0.step)⟩
   ·rw [if_neg c6] at H
    have c6b0 : decide (128 ≤ a1) = false := decide_eq_false c6
    clear c6
    obtain rfl := Option.some.inj H
    go_enter Try.func69, Try.ntmps69
    go_wp2
    go_ret
    exact ⟨by first | rfl | (simp; done) | (simp [*]; done), by repeat (first | exact Drawn0.refl _ | apply Drawn0.step)⟩
  ·rw [if_neg c5] at H
   have c5b0 : (a0 == 237) = false := beq_eq_false_iff_ne.mpr c5
   have c5b1 : (a0 != 237) = true := bne_iff_ne.mpr c5
   by_cases c7 : a0 = 240
   ·rw [if_pos c7] at H
    have c7b0 : (a0 == 240) = true := beq_iff_eq.mpr c7
    have c7b1 : (a0 != 240) = false := bne_eq_false_iff_eq.mpr c7
    clear c7
    by_cases c8 : a1 ≥ 144
    ·rw [if_pos c8] at H
     have c8b0 : decide (144 ≤ a1) = true := decide_eq_true c8
     clear c8
     obtain rfl := Option.some.inj H
     go_enter Try.func69, Try.ntmps69
     go_wp2
     go_ret
     exact ⟨by first | rfl | (simp; done) | (simp [*]; done), by repeat (first | exact Drawn0.refl _ | apply Drawn0.step)⟩
    ·rw [if_neg c8] at H
     have c8b0 : decide (144 ≤ a1) = false := decide_eq_false c8
     clear c8
     obtain rfl := Option.some.inj H
     go_enter Try.func69, Try.ntmps69
     go_wp2
     go_ret
     exact ⟨by first | rfl | (simp; done) | (simp [*]; done), by repeat (first | exact Drawn0.refl _ | apply Drawn0.step)⟩
   ·rw [if_neg c7] at H
    have c7b0 : (a0 == 240) = false := beq_eq_false_iff_ne.mpr c7
    have c7b1 : (a0 != 240) = true := bne_iff_ne.mpr c7
    by_cases c9 : a0 = 244
    ·rw [if_pos c9] at H
     have c9b0 : (a0 == 244) = true := beq_iff_eq.mpr c9
     have c9b1 : (a0 != 244) = false := bne_eq_false_iff_eq.mpr c9
     clear c9
     by_cases c10 : a1 ≥ 128
     ·rw [if_pos c10] at H
      have c10b0 : decide (128 ≤ a1) = true := decide_eq_true c10
      clear c10
      obtain rfl := Option.some.inj H
      go_enter Try.func69, Try.ntmps69
      go_wp2
      go_ret
      exact ⟨by first | rfl | (simp; done) | (simp [*]; done), by repeat (first | exact Drawn0.refl _ | apply Drawn0.step)⟩
     ·rw [if_neg c10] at H
      have c10b0 : decide (128 ≤ a1) = false := decide_eq_false c10
      clear c10
      obtain rfl := Option.some.inj H
      go_enter Try.func69, Try.ntmps69
      go_wp2
      go_ret
      exact ⟨by first | rfl | (simp; done) | (simp [*]; done), by repeat (first | exact Drawn0.refl _ | apply Drawn0.step)⟩
    ·rw [if_neg c9] at H
     have c9b0 : (a0 == 244) = false := beq_eq_false_iff_ne.mpr c9
     have c9b1 : (a0 != 244) = true := bne_iff_ne.mpr c9
     by_cases c11 : a1 ≥ 128
     ·rw [if_pos c11] at H
      have c11b0 : decide (128 ≤ a1) = true := decide_eq_true c11
      clear c11
      obtain rfl := Option.some.inj H
      go_enter Try.func69, Try.ntmps69
      go_wp2
      go_ret
      exact ⟨by first | rfl | (simp; done) | (simp [*]; done), by repeat (first | exact Drawn0.refl _ | apply Drawn0.step)⟩
     ·rw [if_neg c11] at H
      have c11b0 : decide (128 ≤ a1) = false := decide_eq_false c11
      clear c11
      obtain rfl := Option.some.inj H
      go_enter Try.func69, Try.ntmps69
      go_wp2
      go_ret
      exact ⟨by first | rfl | (simp; done) | (simp [*]; done), by repeat (first | exact Drawn0.refl _ | apply Drawn0.step)⟩

end Go.Proofs.Ythmbbkbmlnaghaa.P
end
