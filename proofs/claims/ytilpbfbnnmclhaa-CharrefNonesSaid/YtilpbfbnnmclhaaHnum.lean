/-
  charref.numeric: what a numeric reference says: a label and a goto.
-/
import Derived.Test.YtilpbfbnnmclhaaPA6
import Derived.ScopeJumps
namespace Go.Proofs.Ytilpbfbnnmclhaa.P
open Go.RowKit Go.Proofs.YtilpbfbnnmclhaaW.PrintWords Go.Proofs.YtilpbfbnnmclhaaW.PrintLast Go.Proofs.YtilpbfbnnmclhaaW.PrintMore
set_option linter.unusedVariables false
set_option linter.unusedSimpArgs false

/-! ### plain -/
def digV (b : Nat) : Int := if 48 ≤ b ∧ b ≤ 57 then (b : Int) - 48 else if 97 ≤ b ∧ b ≤ 102 then (b : Int) - 87 else if 65 ≤ b ∧ b ≤ 70 then (b : Int) - 55 else -1
theorem digV_all : ∀ b : Fin 256, names_Value.f 9 (wrap32 ((b.val : Nat) : Int)) = some (digV b.val) := by decide +kernel
/-- is a byte a digit of a number? -/
def isDig (hex : Bool) (b : UInt8) : Bool := decide (0 ≤ digV b.toNat) && (hex || decide (digV b.toNat < 10))
/-- how many digits stand at the head -/
def nDig (hex : Bool) : List UInt8 → Nat
  | [] => 0
  | b :: t => if isDig hex b = true then nDig hex t + 1 else 0
theorem nDig_le (hex : Bool) : ∀ l : List UInt8, nDig hex l ≤ l.length
  | [] => Nat.le_refl _
  | b :: t => by
    unfold nDig
    have := nDig_le hex t
    split <;> simp only [List.length_cons] <;> omega
def numHex (s : ByteArray) : Bool := (bt s 1 == 120) || (bt s 1 == 88)
def numFrom (s : ByteArray) : Nat := if numHex s = true then 2 else 1
def numAt (s : ByteArray) : Nat := numFrom s + nDig (numHex s) (s.data.toList.drop (numFrom s))

def charref_numeric.f (k : Nat) (s : ByteArray) (e : Bool) : Option (ByteArray × Int × Bool) :=
  if s.size ≤ 35184372088831 ∧ 1 ≤ s.size then
    (if s.size = 1 then some ((⟨#[]⟩ : ByteArray), 0, e)
     else if numAt s = s.size ∧ e = false then some ((⟨#[]⟩ : ByteArray), 0, false)
     else if numAt s = numFrom s then some ((⟨#[]⟩ : ByteArray), 0, true)
     else (charref_Number.f k (s.extract (numFrom s) (numAt s)) (numHex s)).bind fun n =>
       some (Utf8.encode n.1, ((if numAt s < s.size ∧ bt s (numAt s : Nat) = 59 then numAt s + 1 else numAt s : Nat) : Int), true))
  else none
theorem charref_numeric.mono : ∀ s e k, LeO (charref_numeric.f k s e) (charref_numeric.f (k + 1) s e) := by
  intro s e k
  unfold charref_numeric.f
  repeat' first
      | (with_reducible exact charref_Number.mono _ _ _)
      | (with_reducible exact LeO.refl _)
      | (with_reducible exact LeO.none _)
      | (with_reducible refine LeO.ite ?_ ?_)
      | (with_reducible refine LeO.bind ?_ (fun _ => ?_))

theorem nDig_at (s : ByteArray) (hex : Bool) (p : Nat) (h : p < s.size) :
    p + nDig hex (s.data.toList.drop p) = if isDig hex (s.data.toList.getD p 0) = true then (p + 1) + nDig hex (s.data.toList.drop (p + 1)) else p := by
  have hl : p < s.data.toList.length := by simpa using h
  rw [List.drop_eq_getElem_cons hl]
  have : s.data.toList.getD p 0 = s.data.toList[p] := by rw [List.getD_eq_getElem?_getD, List.getElem?_eq_getElem hl]; rfl
  rw [this]
  show p + (if isDig hex s.data.toList[p] = true then nDig hex (s.data.toList.drop (p + 1)) + 1 else 0) = _
  split <;> omega
theorem bt_list (s : ByteArray) (p : Nat) (h : p < s.size) : bt s (p : Int) = ((s.data.toList.getD p 0).toNat : Int) := by
  have hl : p < s.data.toList.length := by simpa using h
  have : s.data.toList.getD p 0 = s.data.toList[p] := by rw [List.getD_eq_getElem?_getD, List.getElem?_eq_getElem hl]; rfl
  rw [this]
  unfold bt
  simp only [Int.toNat_natCast]
  rw [dif_pos h]
  rfl

/-! ### the walk -/
theorem scope_pass {P : Program} {a : Act} {w : World} {Q : Exit → Act → World → Prop} {c rest : Code} (l : Nat) (J : Act → World → Prop) (μ : Act → World → Nat) (hf : findLabel c l = some (Code.skip.seq rest))
    (pass : ∀ a w, J a w → rest.wp P (Exit.jump l (fun a' w' => J a' w' ∧ μ a' w' < μ a w) Q) a w)
    (first : (∀ a w, J a w → rest.wp P (Exit.jump l J Q) a w) → c.wp P (Exit.jump l J Q) a w) : (Code.scope c).wp P Q a w := by
  refine wp_scope_jumps l J μ hf (first fun a w hJ => wp_mono (pass a w hJ) ?_) (fun a w hJ => wp_seq (wp_skip (pass a w hJ)))
  intro e a' w' h
  cases e <;> first | exact h | exact ⟨h.1, h.2.1⟩
def numF (s : ByteArray) (e : Bool) (gb : Nat) (hex : Bool) (q : Nat) (u : Nat → Value) (p : Nat) : Act := { tmps := List.toArray (.string s :: .bool e :: u 2 :: u 3 :: .pointer (some ⟨gb, 0, none⟩) :: .int .i64 (p : Nat) :: .bool hex :: .int .i64 (q : Nat) :: u 8 :: u 9 :: u 10 :: u 11 :: u 12 :: u 13 :: u 14 :: u 15 :: u 16 :: u 17 :: u 18 :: u 19 :: u 20 :: u 21 :: u 22 :: u 23 :: u 24 :: u 25 :: u 26 :: u 27 :: u 28 :: u 29 :: u 30 :: u 31 :: u 32 :: u 33 :: u 34 :: u 35 :: u 36 :: u 37 :: u 38 :: u 39 :: u 40 :: u 41 :: u 42 :: u 43 :: u 44 :: u 45 :: u 46 :: u 47 :: u 48 :: u 49 :: u 50 :: u 51 :: u 52 :: u 53 :: u 54 :: u 55 :: u 56 :: u 57 :: u 58 :: u 59 :: u 60 :: u 61 :: u 62 :: u 63 :: u 64 :: u 65 :: u 66 :: u 67 :: u 68 :: u 69 :: u 70 :: u 71 :: u 72 :: u 73 :: u 74 :: u 75 :: u 76 :: u 77 :: u 78 :: u 79 :: u 80 :: u 81 :: u 82 :: u 83 :: u 84 :: u 85 :: u 86 :: u 87 :: []), defers := [] }
def numJ (s : ByteArray) (e : Bool) (gb : Nat) (w : World) (a : Act) (W : World) : Prop :=
  ∃ (p : Nat) (u : Nat → Value), a = numF s e gb (numHex s) (numFrom s) u p ∧ Aside0 (p ≤ s.size ∧ s.size ≠ 1) ∧ Aside0 (p + nDig (numHex s) (s.data.toList.drop p) = numAt s) ∧
    Aside0 (W.heap[gb]? = some (.cells #[.string (⟨#[]⟩ : ByteArray), .int .i64 0, .bool false] 60 (0, 0))) ∧ Aside0 (Below w.heap.size w W)
theorem numJ_of {s : ByteArray} {e : Bool} {gb : Nat} {w : World} {a : Act} {W : World} (p : Nat) (h : a = numF s e gb (numHex s) (numFrom s) (fun i => a.tmps.getD i undef) p) (h1 : p ≤ s.size ∧ s.size ≠ 1) (h2 : p + nDig (numHex s) (s.data.toList.drop p) = numAt s)
    (h3 : W.heap[gb]? = some (.cells #[.string (⟨#[]⟩ : ByteArray), .int .i64 0, .bool false] 60 (0, 0))) (h4 : Below w.heap.size w W) : numJ s e gb w a W :=
  ⟨p, _, h, ⟨h1⟩, ⟨h2⟩, ⟨h3⟩, ⟨h4⟩⟩
set_option maxRecDepth 100000 in
set_option maxHeartbeats 8000000 in
theorem charref_numeric.calls (k : Nat) (s : ByteArray) (e : Bool) (r1 : ByteArray) (r2 : Int) (r3 : Bool) (w : World) (h : charref_numeric.f k s e = some (r1, r2, r3)) :
    Calls Try.prog 43 #[.string s, .bool e] w fun e w' => e = .returned (.agg #[.string r1, .int .i64 r2, .bool r3]) ∧ Below w.heap.size w w' := by
  unfold charref_numeric.f at h
  by_cases hsz : s.size ≤ 35184372088831 ∧ 1 ≤ s.size
  case neg => rw [if_neg hsz] at h; cases h
  rw [if_pos hsz] at h
  obtain ⟨hs1, hs2⟩ := hsz
  have HH := Aside0.mk h
  clear h
  have hu60 := Try.underlying60
  have HB := Aside0.mk (Below.refl w.heap.size w)
  go_enter Try.func43, Try.ntmps43
  go_wp2_with (first | ((with_reducible refine gate_dst (N := 4) rfl ?_); refine box_event ?hg (N := 4) ?hd (cs := #[.string (⟨#[]⟩ : ByteArray), .int .i64 0, .bool false]) (t := 60) ?hr ?_; (case hd => rfl); (case hg => rfl); (case hr => first | (go_simp; done) | (go_simp; rfl)); intro gb hg w5 hbox hb; have n0_ := Aside0.mk (below_step (by repeat (first | (with_reducible first | exact HB.out | apply below_alloc | apply pw_below_drewN | apply below_drew1) | exact HB.out)) hb); have n1_ := Aside0.mk (hbox); have n2_ := Aside0.mk ((by rw [hg]; exact (below_size (by repeat (first | (with_reducible first | exact HB.out | apply below_alloc | apply pw_below_drewN | apply below_drew1) | exact HB.out))) : w.heap.size ≤ gb)); clear HB; have HB := n0_; have BK := n1_; have GW := n2_; clear n0_ n1_ n2_; clear hb hbox hg))
  refine scope_pass 0 (numJ s e gb w) (fun a _ => s.size - (intOf (a.tmps.getD 5 undef)).toNat) rfl ?pass ?first
  case pass =>
    rintro a W ⟨p, u, rfl, hp, hnd, BK', HB'⟩
    unfold numF
    refine wp_seq_k ?_
    intro K hK
    cases hh : numHex s with
    | true =>
      have HX := Aside0.mk hh
      clear hh
      go_cut [5] (fun v5 wc => v5 = .int .i64 (p : Nat) ∧ Aside0 (p = numAt s) ∧ Aside0 (wc.heap[gb]? = some (.cells #[.string (⟨#[]⟩ : ByteArray), .int .i64 0, .bool false] 60 (0, 0))) ∧ Aside0 (Below w.heap.size w wc))
      case first =>
        by_cases hlt : p < s.size
        · have hx0 : ∀ h : p < s.size, ((s[p]'h).toNat : Int) = bt s (p : Int) := bt_at s (p : Int)
          have hl1 : ((p : Int) < (s.size : Int)) = True := eq_true (by omega)
          have hl2 : ((0 : Int) ≤ (p : Int)) = True := eq_true (by omega)
          have hb := bt_list s p hlt
          have hnd1 := nDig_at s (numHex s) p hlt
          have hw1 : IntKind.i64.wrap ((p : Int) + 1) = ((p + 1 : Nat) : Int) := by rw [IntWalk.i64_in _ (by omega)]; omega
          have hval : names_Value.f 9 (wrap32 (bt s (p : Int))) = some (digV (s.data.toList.getD p 0).toNat) := by rw [hb]; exact digV_all ⟨_, UInt8.toNat_lt _⟩
          have hdig : isDig (numHex s) (s.data.toList.getD p 0) = (decide (0 ≤ digV (s.data.toList.getD p 0).toNat) && (numHex s || decide (digV (s.data.toList.getD p 0).toNat < 10))) := rfl
          generalize digV (s.data.toList.getD p 0).toNat = v at hval hdig
          have HVAL := Aside0.mk hval
          have HND1 := Aside0.mk hnd1
          have HDIG := Aside0.mk hdig
          clear hval hnd1 hdig hb
          by_cases cv : 0 ≤ v
          · have cv1 : decide (v ≥ 0) = true := decide_eq_true cv
            have cv2 : decide (0 ≤ v) = true := decide_eq_true cv
            have hd : isDig (numHex s) (s.data.toList.getD p 0) = true := by rw [HDIG.out, cv2, HX.out]; rfl
            have hpp := HND1.out
            rw [if_pos hd] at hpp
            have HPP := Aside0.mk hpp
            clear hpp hd
            go_wp2_with (go_at_call 60; refine (names_Value.calls 9 (wrap32 (bt s (p : Int))) v _ HVAL.out).mono ?_; rintro e1 w' ⟨rfl, ⟨nd, rfl⟩⟩)
            go_step3
            refine ⟨rfl, ?_, ?_⟩
            · refine numJ_of (p + 1) ?_ ⟨by omega, hp.out.2⟩ ?_ BK'.out (pw_below_drewN HB'.out nd)
              · rw [HX.out]
                rfl
              · rw [← hnd.out, HPP.out]
            · simp [intOf]
              omega
          · have cv1 : decide (v ≥ 0) = false := decide_eq_false cv
            have cv2 : decide (0 ≤ v) = false := decide_eq_false cv
            have hd : isDig (numHex s) (s.data.toList.getD p 0) = false := by rw [HDIG.out, cv2, Bool.false_and]
            have hpp := HND1.out
            rw [hd, if_neg (by decide), hnd.out] at hpp
            have HPE := Aside0.mk hpp.symm
            clear hpp hd
            go_wp2_with (go_at_call 60; refine (names_Value.calls 9 (wrap32 (bt s (p : Int))) v _ HVAL.out).mono ?_; rintro e1 w' ⟨rfl, ⟨nd, rfl⟩⟩)
            go_meet
            case rel => exact ⟨rfl, ⟨HPE.out⟩, ⟨BK'.out⟩, ⟨pw_below_drewN HB'.out nd⟩⟩
        · have hpe : p = s.size := by have := hp.out.1; omega
          have hpp := hnd.out
          rw [hpe, List.drop_eq_nil_of_le (by simp), nDig] at hpp
          have HPE := Aside0.mk ((hpe.trans hpp : p = numAt s))
          clear hpp hpe
          have hl1 : ((p : Int) < (s.size : Int)) = False := eq_false (by omega)
          go_wp2
          go_meet
          case rel => exact ⟨rfl, ⟨HPE.out⟩, BK', HB'⟩
      case rest =>
        obtain ⟨rfl, hpe, BK2, HB2⟩ := hcut
        have hpe := hpe.out
        have hp := hp.out
        subst hpe
        have HH' := HH.out
        rw [if_neg hp.2] at HH'
        clear HH
        refine hK _ _ ?_
        by_cases c1 : numAt s = s.size
        · have k1 : ((numAt s : Int) == (s.size : Int)) = true := beq_iff_eq.2 (by omega)
          have k3 : ((numAt s : Int) < (s.size : Int)) = False := eq_false (by omega)
          cases e with
          | false =>
            rw [if_pos ⟨c1, rfl⟩] at HH'
            simp only [Option.some.injEq, Prod.mk.injEq] at HH'
            obtain ⟨rfl, rfl, rfl⟩ := HH'
            clear c1
            have hcz0 : wc.cell? ⟨gb, 0, none⟩ = some (.string (⟨#[]⟩ : ByteArray)) := (blk_cell BK2.out 0).trans rfl
            have hcz1 : wc.cell? ⟨gb, 1, none⟩ = some (.int .i64 0) := (blk_cell BK2.out 1).trans rfl
            have hcz2 : wc.cell? ⟨gb, 2, none⟩ = some (.bool false) := (blk_cell BK2.out 2).trans rfl
            have hfz0 := blk_frozen BK2.out 0
            have hfz1 := blk_frozen BK2.out 1
            have hfz2 := blk_frozen BK2.out 2
            go_wp2
            (try simp only [Exit.jump])
            refine bodyPost_ret (results_cell_row rfl _ _ gb 60 #[.string (⟨#[]⟩ : ByteArray), .int .i64 0, .bool false] (0, 0) _ rfl (by (with_reducible repeat (first | refine blk_drewN ?_ _ | refine blk_drew ?_ | refine blk_alloc ?_ _)); refine blk_put (cs := #[.string (⟨#[]⟩ : ByteArray), .int .i64 0, .bool false]) ?_ 2 _ rfl; (with_reducible repeat (first | refine blk_drewN ?_ _ | refine blk_drew ?_ | refine blk_alloc ?_ _)); refine blk_put (cs := #[.string (⟨#[]⟩ : ByteArray), .int .i64 0, .bool false]) ?_ 1 _ rfl; (with_reducible repeat (first | refine blk_drewN ?_ _ | refine blk_drew ?_ | refine blk_alloc ?_ _)); refine blk_put (cs := #[.string (⟨#[]⟩ : ByteArray), .int .i64 0, .bool false]) ?_ 0 _ rfl; (with_reducible repeat (first | refine blk_drewN ?_ _ | refine blk_drew ?_ | refine blk_alloc ?_ _)); exact BK2.out) Try.underlying60 rfl (by kernel_rfl)) rfl ?_
            exact ⟨rfl, by repeat (first | (with_reducible first | exact HB2.out | apply below_alloc | apply pw_below_drewN | apply below_drew1 | refine below_set ?_ GW.out) | exact HB2.out)⟩
          | true =>
            rw [if_neg (by rintro ⟨_, h⟩; cases h)] at HH'
            by_cases c2 : numAt s = numFrom s
            · have k4 : ((numAt s : Int) == (numFrom s : Int)) = true := beq_iff_eq.2 (by omega)
              rw [if_pos c2] at HH'
              simp only [Option.some.injEq, Prod.mk.injEq] at HH'
              obtain ⟨rfl, rfl, rfl⟩ := HH'
              clear c2
              have hcz0 : wc.cell? ⟨gb, 0, none⟩ = some (.string (⟨#[]⟩ : ByteArray)) := (blk_cell BK2.out 0).trans rfl
              have hcz1 : wc.cell? ⟨gb, 1, none⟩ = some (.int .i64 0) := (blk_cell BK2.out 1).trans rfl
              have hcz2 : wc.cell? ⟨gb, 2, none⟩ = some (.bool false) := (blk_cell BK2.out 2).trans rfl
              have hfz0 := blk_frozen BK2.out 0
              have hfz1 := blk_frozen BK2.out 1
              have hfz2 := blk_frozen BK2.out 2
              go_wp2
              (try simp only [Exit.jump])
              refine bodyPost_ret (results_cell_row rfl _ _ gb 60 #[.string (⟨#[]⟩ : ByteArray), .int .i64 0, .bool true] (0, 0) _ rfl (by (with_reducible repeat (first | refine blk_drewN ?_ _ | refine blk_drew ?_ | refine blk_alloc ?_ _)); refine blk_put (cs := #[.string (⟨#[]⟩ : ByteArray), .int .i64 0, .bool false]) ?_ 2 _ rfl; (with_reducible repeat (first | refine blk_drewN ?_ _ | refine blk_drew ?_ | refine blk_alloc ?_ _)); refine blk_put (cs := #[.string (⟨#[]⟩ : ByteArray), .int .i64 0, .bool false]) ?_ 1 _ rfl; (with_reducible repeat (first | refine blk_drewN ?_ _ | refine blk_drew ?_ | refine blk_alloc ?_ _)); refine blk_put (cs := #[.string (⟨#[]⟩ : ByteArray), .int .i64 0, .bool false]) ?_ 0 _ rfl; (with_reducible repeat (first | refine blk_drewN ?_ _ | refine blk_drew ?_ | refine blk_alloc ?_ _)); exact BK2.out) Try.underlying60 rfl (by kernel_rfl)) rfl ?_
              exact ⟨rfl, by repeat (first | (with_reducible first | exact HB2.out | apply below_alloc | apply pw_below_drewN | apply below_drew1 | refine below_set ?_ GW.out) | exact HB2.out)⟩
            · have k4 : ((numAt s : Int) == (numFrom s : Int)) = false := beq_eq_false_iff_ne.2 (by omega)
              rw [if_neg c2, HX.out] at HH'
              obtain ⟨⟨n1, n2⟩, hN, heq⟩ := Option.bind_eq_some_iff.1 HH'
              clear HH' c2
              have HN := Aside0.mk hN
              clear hN
              simp only [Option.some.injEq, Prod.mk.injEq] at heq
              obtain ⟨rfl, he2, rfl⟩ := heq
              have hfa : numFrom s ≤ numAt s := by unfold numAt; omega
              have j1 : ((0 : Int) ≤ (numFrom s : Int)) = True := eq_true (by omega)
              have j2 : ((numFrom s : Int) ≤ (numAt s : Int)) = True := eq_true (by omega)
              have j3 : ((numAt s : Int) ≤ (s.size : Int)) = True := eq_true (by omega)
              have hat : ((if numAt s < s.size ∧ bt s (numAt s : Nat) = 59 then numAt s + 1 else numAt s : Nat) : Int) = (numAt s : Int) := by rw [if_neg (fun h => absurd h.1 (by omega))]
              rw [hat] at he2
              subst he2
              clear hat c1
              go_wp2_with (go_at_call 61; refine (charref_Number.calls k (s.extract (numFrom s) (numAt s)) true n1 n2 _ HN.out).mono ?_; rintro e1 w7 ⟨rfl, hb⟩; have BK3 := Aside0.mk (blk_below (g := gb) (o := .cells #[.string (⟨#[]⟩ : ByteArray), .int .i64 0, .bool false] 60 (0, 0)) BK2.out hb); have HB3 := Aside0.mk (below_step HB2.out hb); clear hb; have hcz0 : w7.cell? ⟨gb, 0, none⟩ = some (.string (⟨#[]⟩ : ByteArray)) := (blk_cell BK3.out 0).trans rfl; have hcz1 : w7.cell? ⟨gb, 1, none⟩ = some (.int .i64 0) := (blk_cell BK3.out 1).trans rfl; have hcz2 : w7.cell? ⟨gb, 2, none⟩ = some (.bool false) := (blk_cell BK3.out 2).trans rfl; have hfz0 := blk_frozen BK3.out 0; have hfz1 := blk_frozen BK3.out 1; have hfz2 := blk_frozen BK3.out 2)
              (try simp only [Exit.jump])
              refine bodyPost_ret (results_cell_row rfl _ _ gb 60 #[.string (Utf8.encode n1), .int .i64 ((numAt s : Nat) : Int), .bool true] (0, 0) _ rfl (by (with_reducible repeat (first | refine blk_drewN ?_ _ | refine blk_drew ?_ | refine blk_alloc ?_ _)); refine blk_put (cs := #[.string (Utf8.encode n1), .int .i64 ((numAt s : Nat) : Int), .bool false]) ?_ 2 _ rfl; (with_reducible repeat (first | refine blk_drewN ?_ _ | refine blk_drew ?_ | refine blk_alloc ?_ _)); refine blk_put (cs := #[.string (Utf8.encode n1), .int .i64 0, .bool false]) ?_ 1 _ rfl; (with_reducible repeat (first | refine blk_drewN ?_ _ | refine blk_drew ?_ | refine blk_alloc ?_ _)); refine blk_put (cs := #[.string (⟨#[]⟩ : ByteArray), .int .i64 0, .bool false]) ?_ 0 _ rfl; (with_reducible repeat (first | refine blk_drewN ?_ _ | refine blk_drew ?_ | refine blk_alloc ?_ _)); exact BK3.out) Try.underlying60 rfl (by kernel_rfl)) rfl ?_
              exact ⟨rfl, by repeat (first | (with_reducible first | exact HB3.out | apply below_alloc | apply pw_below_drewN | apply below_drew1 | refine below_set ?_ GW.out) | exact HB3.out)⟩
        · have k1 : ((numAt s : Int) == (s.size : Int)) = false := beq_eq_false_iff_ne.2 (by omega)
          have k3 : ((numAt s : Int) < (s.size : Int)) = True := eq_true (by omega)
          have k3' : (numAt s < s.size) = True := eq_true (by omega)
          rw [if_neg (fun h => c1 h.1)] at HH'
          by_cases c2 : numAt s = numFrom s
          · have k4 : ((numAt s : Int) == (numFrom s : Int)) = true := beq_iff_eq.2 (by omega)
            rw [if_pos c2] at HH'
            simp only [Option.some.injEq, Prod.mk.injEq] at HH'
            obtain ⟨rfl, rfl, rfl⟩ := HH'
            clear c2
            have hcz0 : wc.cell? ⟨gb, 0, none⟩ = some (.string (⟨#[]⟩ : ByteArray)) := (blk_cell BK2.out 0).trans rfl
            have hcz1 : wc.cell? ⟨gb, 1, none⟩ = some (.int .i64 0) := (blk_cell BK2.out 1).trans rfl
            have hcz2 : wc.cell? ⟨gb, 2, none⟩ = some (.bool false) := (blk_cell BK2.out 2).trans rfl
            have hfz0 := blk_frozen BK2.out 0
            have hfz1 := blk_frozen BK2.out 1
            have hfz2 := blk_frozen BK2.out 2
            go_wp2
            (try simp only [Exit.jump])
            refine bodyPost_ret (results_cell_row rfl _ _ gb 60 #[.string (⟨#[]⟩ : ByteArray), .int .i64 0, .bool true] (0, 0) _ rfl (by (with_reducible repeat (first | refine blk_drewN ?_ _ | refine blk_drew ?_ | refine blk_alloc ?_ _)); refine blk_put (cs := #[.string (⟨#[]⟩ : ByteArray), .int .i64 0, .bool false]) ?_ 2 _ rfl; (with_reducible repeat (first | refine blk_drewN ?_ _ | refine blk_drew ?_ | refine blk_alloc ?_ _)); refine blk_put (cs := #[.string (⟨#[]⟩ : ByteArray), .int .i64 0, .bool false]) ?_ 1 _ rfl; (with_reducible repeat (first | refine blk_drewN ?_ _ | refine blk_drew ?_ | refine blk_alloc ?_ _)); refine blk_put (cs := #[.string (⟨#[]⟩ : ByteArray), .int .i64 0, .bool false]) ?_ 0 _ rfl; (with_reducible repeat (first | refine blk_drewN ?_ _ | refine blk_drew ?_ | refine blk_alloc ?_ _)); exact BK2.out) Try.underlying60 rfl (by kernel_rfl)) rfl ?_
            exact ⟨rfl, by repeat (first | (with_reducible first | exact HB2.out | apply below_alloc | apply pw_below_drewN | apply below_drew1 | refine below_set ?_ GW.out) | exact HB2.out)⟩
          · have k4 : ((numAt s : Int) == (numFrom s : Int)) = false := beq_eq_false_iff_ne.2 (by omega)
            rw [if_neg c2, HX.out] at HH'
            obtain ⟨⟨n1, n2⟩, hN, heq⟩ := Option.bind_eq_some_iff.1 HH'
            clear HH' c2
            have HN := Aside0.mk hN
            clear hN
            simp only [Option.some.injEq, Prod.mk.injEq] at heq
            obtain ⟨rfl, he2, rfl⟩ := heq
            have hfa : numFrom s ≤ numAt s := by unfold numAt; omega
            have j1 : ((0 : Int) ≤ (numFrom s : Int)) = True := eq_true (by omega)
            have j2 : ((numFrom s : Int) ≤ (numAt s : Int)) = True := eq_true (by omega)
            have j3 : ((numAt s : Int) ≤ (s.size : Int)) = True := eq_true (by omega)
            have hx0 : ∀ h : numAt s < s.size, ((s[numAt s]'h).toNat : Int) = bt s (numAt s : Int) := bt_at s (numAt s : Int)
            have j4 : ((0 : Int) ≤ (numAt s : Int)) = True := eq_true (by omega)
            have hw2 : IntKind.i64.wrap ((numAt s : Int) + 1) = (numAt s : Int) + 1 := IntWalk.i64_in _ (by omega)
            by_cases c4 : bt s (numAt s : Int) = 59
            · have k5 : (bt s (numAt s : Int) == 59) = true := beq_iff_eq.2 c4
              have hat : ((if numAt s < s.size ∧ bt s (numAt s : Nat) = 59 then numAt s + 1 else numAt s : Nat) : Int) = (numAt s : Int) + 1 := by rw [if_pos ⟨by omega, c4⟩]; omega
              rw [hat] at he2
              subst he2
              clear hat
              go_wp2_with (go_at_call 61; refine (charref_Number.calls k (s.extract (numFrom s) (numAt s)) true n1 n2 _ HN.out).mono ?_; rintro e1 w7 ⟨rfl, hb⟩; have BK3 := Aside0.mk (blk_below (g := gb) (o := .cells #[.string (⟨#[]⟩ : ByteArray), .int .i64 0, .bool false] 60 (0, 0)) BK2.out hb); have HB3 := Aside0.mk (below_step HB2.out hb); clear hb; have hcz0 : w7.cell? ⟨gb, 0, none⟩ = some (.string (⟨#[]⟩ : ByteArray)) := (blk_cell BK3.out 0).trans rfl; have hcz1 : w7.cell? ⟨gb, 1, none⟩ = some (.int .i64 0) := (blk_cell BK3.out 1).trans rfl; have hcz2 : w7.cell? ⟨gb, 2, none⟩ = some (.bool false) := (blk_cell BK3.out 2).trans rfl; have hfz0 := blk_frozen BK3.out 0; have hfz1 := blk_frozen BK3.out 1; have hfz2 := blk_frozen BK3.out 2)
              (try simp only [Exit.jump])
              refine bodyPost_ret (results_cell_row rfl _ _ gb 60 #[.string (Utf8.encode n1), .int .i64 ((numAt s : Int) + 1), .bool true] (0, 0) _ rfl (by (with_reducible repeat (first | refine blk_drewN ?_ _ | refine blk_drew ?_ | refine blk_alloc ?_ _)); refine blk_put (cs := #[.string (Utf8.encode n1), .int .i64 ((numAt s : Int) + 1), .bool false]) ?_ 2 _ rfl; (with_reducible repeat (first | refine blk_drewN ?_ _ | refine blk_drew ?_ | refine blk_alloc ?_ _)); refine blk_put (cs := #[.string (Utf8.encode n1), .int .i64 0, .bool false]) ?_ 1 _ rfl; (with_reducible repeat (first | refine blk_drewN ?_ _ | refine blk_drew ?_ | refine blk_alloc ?_ _)); refine blk_put (cs := #[.string (⟨#[]⟩ : ByteArray), .int .i64 0, .bool false]) ?_ 0 _ rfl; (with_reducible repeat (first | refine blk_drewN ?_ _ | refine blk_drew ?_ | refine blk_alloc ?_ _)); exact BK3.out) Try.underlying60 rfl (by kernel_rfl)) rfl ?_
              exact ⟨rfl, by repeat (first | (with_reducible first | exact HB3.out | apply below_alloc | apply pw_below_drewN | apply below_drew1 | refine below_set ?_ GW.out) | exact HB3.out)⟩
            · have k5 : (bt s (numAt s : Int) == 59) = false := beq_eq_false_iff_ne.2 c4
              have hat : ((if numAt s < s.size ∧ bt s (numAt s : Nat) = 59 then numAt s + 1 else numAt s : Nat) : Int) = (numAt s : Int) := by rw [if_neg (fun h => c4 h.2)]
              rw [hat] at he2
              subst he2
              clear hat
              go_wp2_with (go_at_call 61; refine (charref_Number.calls k (s.extract (numFrom s) (numAt s)) true n1 n2 _ HN.out).mono ?_; rintro e1 w7 ⟨rfl, hb⟩; have BK3 := Aside0.mk (blk_below (g := gb) (o := .cells #[.string (⟨#[]⟩ : ByteArray), .int .i64 0, .bool false] 60 (0, 0)) BK2.out hb); have HB3 := Aside0.mk (below_step HB2.out hb); clear hb; have hcz0 : w7.cell? ⟨gb, 0, none⟩ = some (.string (⟨#[]⟩ : ByteArray)) := (blk_cell BK3.out 0).trans rfl; have hcz1 : w7.cell? ⟨gb, 1, none⟩ = some (.int .i64 0) := (blk_cell BK3.out 1).trans rfl; have hcz2 : w7.cell? ⟨gb, 2, none⟩ = some (.bool false) := (blk_cell BK3.out 2).trans rfl; have hfz0 := blk_frozen BK3.out 0; have hfz1 := blk_frozen BK3.out 1; have hfz2 := blk_frozen BK3.out 2)
              (try simp only [Exit.jump])
              refine bodyPost_ret (results_cell_row rfl _ _ gb 60 #[.string (Utf8.encode n1), .int .i64 ((numAt s : Nat) : Int), .bool true] (0, 0) _ rfl (by (with_reducible repeat (first | refine blk_drewN ?_ _ | refine blk_drew ?_ | refine blk_alloc ?_ _)); refine blk_put (cs := #[.string (Utf8.encode n1), .int .i64 ((numAt s : Nat) : Int), .bool false]) ?_ 2 _ rfl; (with_reducible repeat (first | refine blk_drewN ?_ _ | refine blk_drew ?_ | refine blk_alloc ?_ _)); refine blk_put (cs := #[.string (Utf8.encode n1), .int .i64 0, .bool false]) ?_ 1 _ rfl; (with_reducible repeat (first | refine blk_drewN ?_ _ | refine blk_drew ?_ | refine blk_alloc ?_ _)); refine blk_put (cs := #[.string (⟨#[]⟩ : ByteArray), .int .i64 0, .bool false]) ?_ 0 _ rfl; (with_reducible repeat (first | refine blk_drewN ?_ _ | refine blk_drew ?_ | refine blk_alloc ?_ _)); exact BK3.out) Try.underlying60 rfl (by kernel_rfl)) rfl ?_
              exact ⟨rfl, by repeat (first | (with_reducible first | exact HB3.out | apply below_alloc | apply pw_below_drewN | apply below_drew1 | refine below_set ?_ GW.out) | exact HB3.out)⟩
    | false =>
      have HX := Aside0.mk hh
      clear hh
      go_cut [5] (fun v5 wc => v5 = .int .i64 (p : Nat) ∧ Aside0 (p = numAt s) ∧ Aside0 (wc.heap[gb]? = some (.cells #[.string (⟨#[]⟩ : ByteArray), .int .i64 0, .bool false] 60 (0, 0))) ∧ Aside0 (Below w.heap.size w wc))
      case first =>
        by_cases hlt : p < s.size
        · have hx0 : ∀ h : p < s.size, ((s[p]'h).toNat : Int) = bt s (p : Int) := bt_at s (p : Int)
          have hl1 : ((p : Int) < (s.size : Int)) = True := eq_true (by omega)
          have hl2 : ((0 : Int) ≤ (p : Int)) = True := eq_true (by omega)
          have hb := bt_list s p hlt
          have hnd1 := nDig_at s (numHex s) p hlt
          have hw1 : IntKind.i64.wrap ((p : Int) + 1) = ((p + 1 : Nat) : Int) := by rw [IntWalk.i64_in _ (by omega)]; omega
          have hval : names_Value.f 9 (wrap32 (bt s (p : Int))) = some (digV (s.data.toList.getD p 0).toNat) := by rw [hb]; exact digV_all ⟨_, UInt8.toNat_lt _⟩
          have hdig : isDig (numHex s) (s.data.toList.getD p 0) = (decide (0 ≤ digV (s.data.toList.getD p 0).toNat) && (numHex s || decide (digV (s.data.toList.getD p 0).toNat < 10))) := rfl
          generalize digV (s.data.toList.getD p 0).toNat = v at hval hdig
          have HVAL := Aside0.mk hval
          have HND1 := Aside0.mk hnd1
          have HDIG := Aside0.mk hdig
          clear hval hnd1 hdig hb
          by_cases cv : 0 ≤ v
          · have cv1 : decide (v ≥ 0) = true := decide_eq_true cv
            have cv2 : decide (0 ≤ v) = true := decide_eq_true cv
            by_cases cx : v < 10
            · have cx1 : decide (v < 10) = true := decide_eq_true cx
              have hd : isDig (numHex s) (s.data.toList.getD p 0) = true := by rw [HDIG.out, cv2, HX.out, cx1]; rfl
              have hpp := HND1.out
              rw [if_pos hd] at hpp
              have HPP := Aside0.mk hpp
              clear hpp hd
              go_wp2_with (go_at_call 60; refine (names_Value.calls 9 (wrap32 (bt s (p : Int))) v _ HVAL.out).mono ?_; rintro e1 w' ⟨rfl, ⟨nd, rfl⟩⟩)
              go_step3
              refine ⟨rfl, ?_, ?_⟩
              · refine numJ_of (p + 1) ?_ ⟨by omega, hp.out.2⟩ ?_ BK'.out (pw_below_drewN HB'.out nd)
                · rw [HX.out]
                  rfl
                · rw [← hnd.out, HPP.out]
              · simp [intOf]
                omega
            · have cx1 : decide (v < 10) = false := decide_eq_false cx
              have hd : isDig (numHex s) (s.data.toList.getD p 0) = false := by rw [HDIG.out, cv2, HX.out, cx1]; rfl
              have hpp := HND1.out
              rw [hd, if_neg (by decide), hnd.out] at hpp
              have HPE := Aside0.mk hpp.symm
              clear hpp hd
              go_wp2_with (go_at_call 60; refine (names_Value.calls 9 (wrap32 (bt s (p : Int))) v _ HVAL.out).mono ?_; rintro e1 w' ⟨rfl, ⟨nd, rfl⟩⟩)
              go_meet
              case rel => exact ⟨rfl, ⟨HPE.out⟩, ⟨BK'.out⟩, ⟨pw_below_drewN HB'.out nd⟩⟩
          · have cv1 : decide (v ≥ 0) = false := decide_eq_false cv
            have cv2 : decide (0 ≤ v) = false := decide_eq_false cv
            have hd : isDig (numHex s) (s.data.toList.getD p 0) = false := by rw [HDIG.out, cv2, Bool.false_and]
            have hpp := HND1.out
            rw [hd, if_neg (by decide), hnd.out] at hpp
            have HPE := Aside0.mk hpp.symm
            clear hpp hd
            go_wp2_with (go_at_call 60; refine (names_Value.calls 9 (wrap32 (bt s (p : Int))) v _ HVAL.out).mono ?_; rintro e1 w' ⟨rfl, ⟨nd, rfl⟩⟩)
            go_meet
            case rel => exact ⟨rfl, ⟨HPE.out⟩, ⟨BK'.out⟩, ⟨pw_below_drewN HB'.out nd⟩⟩
        · have hpe : p = s.size := by have := hp.out.1; omega
          have hpp := hnd.out
          rw [hpe, List.drop_eq_nil_of_le (by simp), nDig] at hpp
          have HPE := Aside0.mk ((hpe.trans hpp : p = numAt s))
          clear hpp hpe
          have hl1 : ((p : Int) < (s.size : Int)) = False := eq_false (by omega)
          go_wp2
          go_meet
          case rel => exact ⟨rfl, ⟨HPE.out⟩, BK', HB'⟩
      case rest =>
        obtain ⟨rfl, hpe, BK2, HB2⟩ := hcut
        have hpe := hpe.out
        have hp := hp.out
        subst hpe
        have HH' := HH.out
        rw [if_neg hp.2] at HH'
        clear HH
        refine hK _ _ ?_
        by_cases c1 : numAt s = s.size
        · have k1 : ((numAt s : Int) == (s.size : Int)) = true := beq_iff_eq.2 (by omega)
          have k3 : ((numAt s : Int) < (s.size : Int)) = False := eq_false (by omega)
          cases e with
          | false =>
            rw [if_pos ⟨c1, rfl⟩] at HH'
            simp only [Option.some.injEq, Prod.mk.injEq] at HH'
            obtain ⟨rfl, rfl, rfl⟩ := HH'
            clear c1
            have hcz0 : wc.cell? ⟨gb, 0, none⟩ = some (.string (⟨#[]⟩ : ByteArray)) := (blk_cell BK2.out 0).trans rfl
            have hcz1 : wc.cell? ⟨gb, 1, none⟩ = some (.int .i64 0) := (blk_cell BK2.out 1).trans rfl
            have hcz2 : wc.cell? ⟨gb, 2, none⟩ = some (.bool false) := (blk_cell BK2.out 2).trans rfl
            have hfz0 := blk_frozen BK2.out 0
            have hfz1 := blk_frozen BK2.out 1
            have hfz2 := blk_frozen BK2.out 2
            go_wp2
            (try simp only [Exit.jump])
            refine bodyPost_ret (results_cell_row rfl _ _ gb 60 #[.string (⟨#[]⟩ : ByteArray), .int .i64 0, .bool false] (0, 0) _ rfl (by (with_reducible repeat (first | refine blk_drewN ?_ _ | refine blk_drew ?_ | refine blk_alloc ?_ _)); refine blk_put (cs := #[.string (⟨#[]⟩ : ByteArray), .int .i64 0, .bool false]) ?_ 2 _ rfl; (with_reducible repeat (first | refine blk_drewN ?_ _ | refine blk_drew ?_ | refine blk_alloc ?_ _)); refine blk_put (cs := #[.string (⟨#[]⟩ : ByteArray), .int .i64 0, .bool false]) ?_ 1 _ rfl; (with_reducible repeat (first | refine blk_drewN ?_ _ | refine blk_drew ?_ | refine blk_alloc ?_ _)); refine blk_put (cs := #[.string (⟨#[]⟩ : ByteArray), .int .i64 0, .bool false]) ?_ 0 _ rfl; (with_reducible repeat (first | refine blk_drewN ?_ _ | refine blk_drew ?_ | refine blk_alloc ?_ _)); exact BK2.out) Try.underlying60 rfl (by kernel_rfl)) rfl ?_
            exact ⟨rfl, by repeat (first | (with_reducible first | exact HB2.out | apply below_alloc | apply pw_below_drewN | apply below_drew1 | refine below_set ?_ GW.out) | exact HB2.out)⟩
          | true =>
            rw [if_neg (by rintro ⟨_, h⟩; cases h)] at HH'
            by_cases c2 : numAt s = numFrom s
            · have k4 : ((numAt s : Int) == (numFrom s : Int)) = true := beq_iff_eq.2 (by omega)
              rw [if_pos c2] at HH'
              simp only [Option.some.injEq, Prod.mk.injEq] at HH'
              obtain ⟨rfl, rfl, rfl⟩ := HH'
              clear c2
              have hcz0 : wc.cell? ⟨gb, 0, none⟩ = some (.string (⟨#[]⟩ : ByteArray)) := (blk_cell BK2.out 0).trans rfl
              have hcz1 : wc.cell? ⟨gb, 1, none⟩ = some (.int .i64 0) := (blk_cell BK2.out 1).trans rfl
              have hcz2 : wc.cell? ⟨gb, 2, none⟩ = some (.bool false) := (blk_cell BK2.out 2).trans rfl
              have hfz0 := blk_frozen BK2.out 0
              have hfz1 := blk_frozen BK2.out 1
              have hfz2 := blk_frozen BK2.out 2
              go_wp2
              (try simp only [Exit.jump])
              refine bodyPost_ret (results_cell_row rfl _ _ gb 60 #[.string (⟨#[]⟩ : ByteArray), .int .i64 0, .bool true] (0, 0) _ rfl (by (with_reducible repeat (first | refine blk_drewN ?_ _ | refine blk_drew ?_ | refine blk_alloc ?_ _)); refine blk_put (cs := #[.string (⟨#[]⟩ : ByteArray), .int .i64 0, .bool false]) ?_ 2 _ rfl; (with_reducible repeat (first | refine blk_drewN ?_ _ | refine blk_drew ?_ | refine blk_alloc ?_ _)); refine blk_put (cs := #[.string (⟨#[]⟩ : ByteArray), .int .i64 0, .bool false]) ?_ 1 _ rfl; (with_reducible repeat (first | refine blk_drewN ?_ _ | refine blk_drew ?_ | refine blk_alloc ?_ _)); refine blk_put (cs := #[.string (⟨#[]⟩ : ByteArray), .int .i64 0, .bool false]) ?_ 0 _ rfl; (with_reducible repeat (first | refine blk_drewN ?_ _ | refine blk_drew ?_ | refine blk_alloc ?_ _)); exact BK2.out) Try.underlying60 rfl (by kernel_rfl)) rfl ?_
              exact ⟨rfl, by repeat (first | (with_reducible first | exact HB2.out | apply below_alloc | apply pw_below_drewN | apply below_drew1 | refine below_set ?_ GW.out) | exact HB2.out)⟩
            · have k4 : ((numAt s : Int) == (numFrom s : Int)) = false := beq_eq_false_iff_ne.2 (by omega)
              rw [if_neg c2, HX.out] at HH'
              obtain ⟨⟨n1, n2⟩, hN, heq⟩ := Option.bind_eq_some_iff.1 HH'
              clear HH' c2
              have HN := Aside0.mk hN
              clear hN
              simp only [Option.some.injEq, Prod.mk.injEq] at heq
              obtain ⟨rfl, he2, rfl⟩ := heq
              have hfa : numFrom s ≤ numAt s := by unfold numAt; omega
              have j1 : ((0 : Int) ≤ (numFrom s : Int)) = True := eq_true (by omega)
              have j2 : ((numFrom s : Int) ≤ (numAt s : Int)) = True := eq_true (by omega)
              have j3 : ((numAt s : Int) ≤ (s.size : Int)) = True := eq_true (by omega)
              have hat : ((if numAt s < s.size ∧ bt s (numAt s : Nat) = 59 then numAt s + 1 else numAt s : Nat) : Int) = (numAt s : Int) := by rw [if_neg (fun h => absurd h.1 (by omega))]
              rw [hat] at he2
              subst he2
              clear hat c1
              go_wp2_with (go_at_call 61; refine (charref_Number.calls k (s.extract (numFrom s) (numAt s)) false n1 n2 _ HN.out).mono ?_; rintro e1 w7 ⟨rfl, hb⟩; have BK3 := Aside0.mk (blk_below (g := gb) (o := .cells #[.string (⟨#[]⟩ : ByteArray), .int .i64 0, .bool false] 60 (0, 0)) BK2.out hb); have HB3 := Aside0.mk (below_step HB2.out hb); clear hb; have hcz0 : w7.cell? ⟨gb, 0, none⟩ = some (.string (⟨#[]⟩ : ByteArray)) := (blk_cell BK3.out 0).trans rfl; have hcz1 : w7.cell? ⟨gb, 1, none⟩ = some (.int .i64 0) := (blk_cell BK3.out 1).trans rfl; have hcz2 : w7.cell? ⟨gb, 2, none⟩ = some (.bool false) := (blk_cell BK3.out 2).trans rfl; have hfz0 := blk_frozen BK3.out 0; have hfz1 := blk_frozen BK3.out 1; have hfz2 := blk_frozen BK3.out 2)
              (try simp only [Exit.jump])
              refine bodyPost_ret (results_cell_row rfl _ _ gb 60 #[.string (Utf8.encode n1), .int .i64 ((numAt s : Nat) : Int), .bool true] (0, 0) _ rfl (by (with_reducible repeat (first | refine blk_drewN ?_ _ | refine blk_drew ?_ | refine blk_alloc ?_ _)); refine blk_put (cs := #[.string (Utf8.encode n1), .int .i64 ((numAt s : Nat) : Int), .bool false]) ?_ 2 _ rfl; (with_reducible repeat (first | refine blk_drewN ?_ _ | refine blk_drew ?_ | refine blk_alloc ?_ _)); refine blk_put (cs := #[.string (Utf8.encode n1), .int .i64 0, .bool false]) ?_ 1 _ rfl; (with_reducible repeat (first | refine blk_drewN ?_ _ | refine blk_drew ?_ | refine blk_alloc ?_ _)); refine blk_put (cs := #[.string (⟨#[]⟩ : ByteArray), .int .i64 0, .bool false]) ?_ 0 _ rfl; (with_reducible repeat (first | refine blk_drewN ?_ _ | refine blk_drew ?_ | refine blk_alloc ?_ _)); exact BK3.out) Try.underlying60 rfl (by kernel_rfl)) rfl ?_
              exact ⟨rfl, by repeat (first | (with_reducible first | exact HB3.out | apply below_alloc | apply pw_below_drewN | apply below_drew1 | refine below_set ?_ GW.out) | exact HB3.out)⟩
        · have k1 : ((numAt s : Int) == (s.size : Int)) = false := beq_eq_false_iff_ne.2 (by omega)
          have k3 : ((numAt s : Int) < (s.size : Int)) = True := eq_true (by omega)
          have k3' : (numAt s < s.size) = True := eq_true (by omega)
          rw [if_neg (fun h => c1 h.1)] at HH'
          by_cases c2 : numAt s = numFrom s
          · have k4 : ((numAt s : Int) == (numFrom s : Int)) = true := beq_iff_eq.2 (by omega)
            rw [if_pos c2] at HH'
            simp only [Option.some.injEq, Prod.mk.injEq] at HH'
            obtain ⟨rfl, rfl, rfl⟩ := HH'
            clear c2
            have hcz0 : wc.cell? ⟨gb, 0, none⟩ = some (.string (⟨#[]⟩ : ByteArray)) := (blk_cell BK2.out 0).trans rfl
            have hcz1 : wc.cell? ⟨gb, 1, none⟩ = some (.int .i64 0) := (blk_cell BK2.out 1).trans rfl
            have hcz2 : wc.cell? ⟨gb, 2, none⟩ = some (.bool false) := (blk_cell BK2.out 2).trans rfl
            have hfz0 := blk_frozen BK2.out 0
            have hfz1 := blk_frozen BK2.out 1
            have hfz2 := blk_frozen BK2.out 2
            go_wp2
            (try simp only [Exit.jump])
            refine bodyPost_ret (results_cell_row rfl _ _ gb 60 #[.string (⟨#[]⟩ : ByteArray), .int .i64 0, .bool true] (0, 0) _ rfl (by (with_reducible repeat (first | refine blk_drewN ?_ _ | refine blk_drew ?_ | refine blk_alloc ?_ _)); refine blk_put (cs := #[.string (⟨#[]⟩ : ByteArray), .int .i64 0, .bool false]) ?_ 2 _ rfl; (with_reducible repeat (first | refine blk_drewN ?_ _ | refine blk_drew ?_ | refine blk_alloc ?_ _)); refine blk_put (cs := #[.string (⟨#[]⟩ : ByteArray), .int .i64 0, .bool false]) ?_ 1 _ rfl; (with_reducible repeat (first | refine blk_drewN ?_ _ | refine blk_drew ?_ | refine blk_alloc ?_ _)); refine blk_put (cs := #[.string (⟨#[]⟩ : ByteArray), .int .i64 0, .bool false]) ?_ 0 _ rfl; (with_reducible repeat (first | refine blk_drewN ?_ _ | refine blk_drew ?_ | refine blk_alloc ?_ _)); exact BK2.out) Try.underlying60 rfl (by kernel_rfl)) rfl ?_
            exact ⟨rfl, by repeat (first | (with_reducible first | exact HB2.out | apply below_alloc | apply pw_below_drewN | apply below_drew1 | refine below_set ?_ GW.out) | exact HB2.out)⟩
          · have k4 : ((numAt s : Int) == (numFrom s : Int)) = false := beq_eq_false_iff_ne.2 (by omega)
            rw [if_neg c2, HX.out] at HH'
            obtain ⟨⟨n1, n2⟩, hN, heq⟩ := Option.bind_eq_some_iff.1 HH'
            clear HH' c2
            have HN := Aside0.mk hN
            clear hN
            simp only [Option.some.injEq, Prod.mk.injEq] at heq
            obtain ⟨rfl, he2, rfl⟩ := heq
            have hfa : numFrom s ≤ numAt s := by unfold numAt; omega
            have j1 : ((0 : Int) ≤ (numFrom s : Int)) = True := eq_true (by omega)
            have j2 : ((numFrom s : Int) ≤ (numAt s : Int)) = True := eq_true (by omega)
            have j3 : ((numAt s : Int) ≤ (s.size : Int)) = True := eq_true (by omega)
            have hx0 : ∀ h : numAt s < s.size, ((s[numAt s]'h).toNat : Int) = bt s (numAt s : Int) := bt_at s (numAt s : Int)
            have j4 : ((0 : Int) ≤ (numAt s : Int)) = True := eq_true (by omega)
            have hw2 : IntKind.i64.wrap ((numAt s : Int) + 1) = (numAt s : Int) + 1 := IntWalk.i64_in _ (by omega)
            by_cases c4 : bt s (numAt s : Int) = 59
            · have k5 : (bt s (numAt s : Int) == 59) = true := beq_iff_eq.2 c4
              have hat : ((if numAt s < s.size ∧ bt s (numAt s : Nat) = 59 then numAt s + 1 else numAt s : Nat) : Int) = (numAt s : Int) + 1 := by rw [if_pos ⟨by omega, c4⟩]; omega
              rw [hat] at he2
              subst he2
              clear hat
              go_wp2_with (go_at_call 61; refine (charref_Number.calls k (s.extract (numFrom s) (numAt s)) false n1 n2 _ HN.out).mono ?_; rintro e1 w7 ⟨rfl, hb⟩; have BK3 := Aside0.mk (blk_below (g := gb) (o := .cells #[.string (⟨#[]⟩ : ByteArray), .int .i64 0, .bool false] 60 (0, 0)) BK2.out hb); have HB3 := Aside0.mk (below_step HB2.out hb); clear hb; have hcz0 : w7.cell? ⟨gb, 0, none⟩ = some (.string (⟨#[]⟩ : ByteArray)) := (blk_cell BK3.out 0).trans rfl; have hcz1 : w7.cell? ⟨gb, 1, none⟩ = some (.int .i64 0) := (blk_cell BK3.out 1).trans rfl; have hcz2 : w7.cell? ⟨gb, 2, none⟩ = some (.bool false) := (blk_cell BK3.out 2).trans rfl; have hfz0 := blk_frozen BK3.out 0; have hfz1 := blk_frozen BK3.out 1; have hfz2 := blk_frozen BK3.out 2)
              (try simp only [Exit.jump])
              refine bodyPost_ret (results_cell_row rfl _ _ gb 60 #[.string (Utf8.encode n1), .int .i64 ((numAt s : Int) + 1), .bool true] (0, 0) _ rfl (by (with_reducible repeat (first | refine blk_drewN ?_ _ | refine blk_drew ?_ | refine blk_alloc ?_ _)); refine blk_put (cs := #[.string (Utf8.encode n1), .int .i64 ((numAt s : Int) + 1), .bool false]) ?_ 2 _ rfl; (with_reducible repeat (first | refine blk_drewN ?_ _ | refine blk_drew ?_ | refine blk_alloc ?_ _)); refine blk_put (cs := #[.string (Utf8.encode n1), .int .i64 0, .bool false]) ?_ 1 _ rfl; (with_reducible repeat (first | refine blk_drewN ?_ _ | refine blk_drew ?_ | refine blk_alloc ?_ _)); refine blk_put (cs := #[.string (⟨#[]⟩ : ByteArray), .int .i64 0, .bool false]) ?_ 0 _ rfl; (with_reducible repeat (first | refine blk_drewN ?_ _ | refine blk_drew ?_ | refine blk_alloc ?_ _)); exact BK3.out) Try.underlying60 rfl (by kernel_rfl)) rfl ?_
              exact ⟨rfl, by repeat (first | (with_reducible first | exact HB3.out | apply below_alloc | apply pw_below_drewN | apply below_drew1 | refine below_set ?_ GW.out) | exact HB3.out)⟩
            · have k5 : (bt s (numAt s : Int) == 59) = false := beq_eq_false_iff_ne.2 c4
              have hat : ((if numAt s < s.size ∧ bt s (numAt s : Nat) = 59 then numAt s + 1 else numAt s : Nat) : Int) = (numAt s : Int) := by rw [if_neg (fun h => c4 h.2)]
              rw [hat] at he2
              subst he2
              clear hat
              go_wp2_with (go_at_call 61; refine (charref_Number.calls k (s.extract (numFrom s) (numAt s)) false n1 n2 _ HN.out).mono ?_; rintro e1 w7 ⟨rfl, hb⟩; have BK3 := Aside0.mk (blk_below (g := gb) (o := .cells #[.string (⟨#[]⟩ : ByteArray), .int .i64 0, .bool false] 60 (0, 0)) BK2.out hb); have HB3 := Aside0.mk (below_step HB2.out hb); clear hb; have hcz0 : w7.cell? ⟨gb, 0, none⟩ = some (.string (⟨#[]⟩ : ByteArray)) := (blk_cell BK3.out 0).trans rfl; have hcz1 : w7.cell? ⟨gb, 1, none⟩ = some (.int .i64 0) := (blk_cell BK3.out 1).trans rfl; have hcz2 : w7.cell? ⟨gb, 2, none⟩ = some (.bool false) := (blk_cell BK3.out 2).trans rfl; have hfz0 := blk_frozen BK3.out 0; have hfz1 := blk_frozen BK3.out 1; have hfz2 := blk_frozen BK3.out 2)
              (try simp only [Exit.jump])
              refine bodyPost_ret (results_cell_row rfl _ _ gb 60 #[.string (Utf8.encode n1), .int .i64 ((numAt s : Nat) : Int), .bool true] (0, 0) _ rfl (by (with_reducible repeat (first | refine blk_drewN ?_ _ | refine blk_drew ?_ | refine blk_alloc ?_ _)); refine blk_put (cs := #[.string (Utf8.encode n1), .int .i64 ((numAt s : Nat) : Int), .bool false]) ?_ 2 _ rfl; (with_reducible repeat (first | refine blk_drewN ?_ _ | refine blk_drew ?_ | refine blk_alloc ?_ _)); refine blk_put (cs := #[.string (Utf8.encode n1), .int .i64 0, .bool false]) ?_ 1 _ rfl; (with_reducible repeat (first | refine blk_drewN ?_ _ | refine blk_drew ?_ | refine blk_alloc ?_ _)); refine blk_put (cs := #[.string (⟨#[]⟩ : ByteArray), .int .i64 0, .bool false]) ?_ 0 _ rfl; (with_reducible repeat (first | refine blk_drewN ?_ _ | refine blk_drew ?_ | refine blk_alloc ?_ _)); exact BK3.out) Try.underlying60 rfl (by kernel_rfl)) rfl ?_
              exact ⟨rfl, by repeat (first | (with_reducible first | exact HB3.out | apply below_alloc | apply pw_below_drewN | apply below_drew1 | refine below_set ?_ GW.out) | exact HB3.out)⟩
  case first =>
    intro PASS
    have PASS' := Aside0.mk PASS
    clear PASS
    by_cases h1 : s.size = 1
    · have HH' := HH.out
      rw [if_pos h1] at HH'
      simp only [Option.some.injEq, Prod.mk.injEq] at HH'
      obtain ⟨rfl, rfl, rfl⟩ := HH'
      clear HH
      have hcz0 : w5.cell? ⟨gb, 0, none⟩ = some (.string (⟨#[]⟩ : ByteArray)) := (blk_cell BK.out 0).trans rfl
      have hcz1 : w5.cell? ⟨gb, 1, none⟩ = some (.int .i64 0) := (blk_cell BK.out 1).trans rfl
      have hcz2 : w5.cell? ⟨gb, 2, none⟩ = some (.bool false) := (blk_cell BK.out 2).trans rfl
      have hfz0 := blk_frozen BK.out 0
      have hfz1 := blk_frozen BK.out 1
      have hfz2 := blk_frozen BK.out 2
      have hk : ((1 : Int) == (s.size : Int)) = true := beq_iff_eq.2 (by omega)
      go_wp2
      (try simp only [Exit.jump])
      refine bodyPost_ret (results_cell_row rfl _ _ gb 60 #[.string (⟨#[]⟩ : ByteArray), .int .i64 0, .bool e] (0, 0) _ rfl (by (with_reducible repeat (first | refine blk_drewN ?_ _ | refine blk_drew ?_ | refine blk_alloc ?_ _)); refine blk_put (cs := #[.string (⟨#[]⟩ : ByteArray), .int .i64 0, .bool false]) ?_ 2 _ rfl; (with_reducible repeat (first | refine blk_drewN ?_ _ | refine blk_drew ?_ | refine blk_alloc ?_ _)); refine blk_put (cs := #[.string (⟨#[]⟩ : ByteArray), .int .i64 0, .bool false]) ?_ 1 _ rfl; (with_reducible repeat (first | refine blk_drewN ?_ _ | refine blk_drew ?_ | refine blk_alloc ?_ _)); refine blk_put (cs := #[.string (⟨#[]⟩ : ByteArray), .int .i64 0, .bool false]) ?_ 0 _ rfl; (with_reducible repeat (first | refine blk_drewN ?_ _ | refine blk_drew ?_ | refine blk_alloc ?_ _)); exact BK.out) Try.underlying60 rfl (by kernel_rfl)) rfl ?_
      exact ⟨rfl, by repeat (first | (with_reducible first | exact HB.out | apply below_alloc | apply pw_below_drewN | apply below_drew1 | refine below_set ?_ GW.out) | exact HB.out)⟩
    · have hk : ((1 : Int) == (s.size : Int)) = false := beq_eq_false_iff_ne.2 (by omega)
      have hx0 : ∀ h : 1 < s.size, ((s[1]'h).toNat : Int) = bt s 1 := bt_at s 1
      have hlt : ((1 : Int) < (s.size : Int)) = True := eq_true (by omega)
      have hlt' : (1 < s.size) = True := eq_true (by omega)
      by_cases c1 : bt s 1 = 120
      · have hh : numHex s = true := by simp [numHex, c1]
        have hf : numFrom s = 2 := by simp [numFrom, hh]
        have k1 : (bt s 1 == 120) = true := beq_iff_eq.2 c1
        go_wp2
        go_step3
        simp only [Exit.then]
        apply_assumption
        refine PASS'.out _ _ ?_
        refine numJ_of 2 ?_ ⟨by omega, h1⟩ (by unfold numAt; rw [hf]) BK.out HB.out
        rw [hh, hf]
        rfl
      have k1 : (bt s 1 == 120) = false := beq_eq_false_iff_ne.2 c1
      by_cases c2 : bt s 1 = 88
      · have hh : numHex s = true := by simp [numHex, c2]
        have hf : numFrom s = 2 := by simp [numFrom, hh]
        have k2 : (bt s 1 == 88) = true := beq_iff_eq.2 c2
        go_wp2
        go_step3
        simp only [Exit.then]
        apply_assumption
        refine PASS'.out _ _ ?_
        refine numJ_of 2 ?_ ⟨by omega, h1⟩ (by unfold numAt; rw [hf]) BK.out HB.out
        rw [hh, hf]
        rfl
      · have k2 : (bt s 1 == 88) = false := beq_eq_false_iff_ne.2 c2
        have hh : numHex s = false := by simp [numHex, c1, c2]
        have hf : numFrom s = 1 := by simp [numFrom, hh]
        go_wp2
        go_step3
        simp only [Exit.then]
        apply_assumption
        refine PASS'.out _ _ ?_
        refine numJ_of 1 ?_ ⟨by omega, h1⟩ (by unfold numAt; rw [hf]) BK.out HB.out
        rw [hh, hf]
        rfl
end Go.Proofs.Ytilpbfbnnmclhaa.P
