/-
  charref.replaced, the plain part: what is written, reference by reference.
-/
import Derived.Test.YtilpbfbnnmclhaaHeach
import Derived.Test.YtilpbfbnnmclhaaHbld
namespace Go.Proofs.Ytilpbfbnnmclhaa.P
open Go.RowKit Go.Shelf Go.Proofs.YtilpbfbnnmclhaaW.PrintWords Go.Proofs.YtilpbfbnnmclhaaW.PrintLast Go.Proofs.YtilpbfbnnmclhaaW.PrintMore
set_option linter.unusedVariables false
set_option linter.unusedSimpArgs false

def repStep (g : ByteArray → ByteArray) (m : List UInt8) (st : Nat × List UInt8) (x : Nat × ByteArray × Nat) : Nat × List UInt8 :=
  (x.1 + 1 + x.2.2, st.2 ++ ((m.drop st.1).take (x.1 - st.1) ++ (g x.2.1).data.toList))
def repSt (g : ByteArray → ByteArray) (m : List UInt8) (l : List (Nat × ByteArray × Nat)) : Nat × List UInt8 := l.foldl (repStep g m) (0, [])
theorem repSt_snoc (g : ByteArray → ByteArray) (m : List UInt8) (l : List (Nat × ByteArray × Nat)) (x : Nat × ByteArray × Nat) : repSt g m (l ++ [x]) = repStep g m (repSt g m l) x := by
  unfold repSt
  rw [List.foldl_append]
  rfl
def repText (g : ByteArray → ByteArray) (m : List UInt8) (refs : List (Nat × ByteArray × Nat)) : List UInt8 := (repSt g m refs).2 ++ m.drop (repSt g m refs).1

/-- the places go up -/
def Asc (n : Nat) : Nat → List (Nat × ByteArray × Nat) → Prop
  | _, [] => True
  | i, x :: t => i ≤ x.1 ∧ x.1 + 1 + x.2.2 ≤ n ∧ Asc n (x.1 + 1 + x.2.2) t
theorem Asc.weak {n : Nat} : ∀ {i j : Nat} {l : List (Nat × ByteArray × Nat)}, j ≤ i → Asc n i l → Asc n j l
  | _, _, [], _, _ => trivial
  | _, _, _ :: _, h, ⟨h1, h2, h3⟩ => ⟨Nat.le_trans h h1, h2, h3⟩
theorem refsGo_asc (attr : Bool) (s : ByteArray) : ∀ (k i : Nat) (l : List (Nat × ByteArray × Nat)), refsGo attr s k i = some l → Asc s.size i l
  | 0, i, l, h => by simp [refsGo] at h
  | k + 1, i, l, h => by
    unfold refsGo at h
    by_cases c1 : i < s.size
    · rw [if_pos c1] at h
      by_cases c2 : bt s i = 38
      · rw [if_pos c2] at h
        obtain ⟨n, _, h⟩ := Option.bind_eq_some_iff.1 h
        by_cases c3 : 0 ≤ n.2.1 ∧ i + 1 + n.2.1.toNat ≤ s.size
        · rw [if_pos c3] at h
          by_cases c4 : n.2.1 = 0
          · rw [if_pos c4] at h
            exact (refsGo_asc attr s k _ l h).weak (by omega)
          · rw [if_neg c4] at h
            obtain ⟨t, ht, h⟩ := Option.bind_eq_some_iff.1 h
            have := Option.some.inj h
            subst this
            exact ⟨Nat.le_refl _, c3.2, refsGo_asc attr s k _ t ht⟩
        · rw [if_neg c3] at h
          cases h
      · rw [if_neg c2] at h
        exact (refsGo_asc attr s k _ l h).weak (by omega)
    · rw [if_neg c1] at h
      have := Option.some.inj h
      subst this
      trivial
theorem Asc.mid {n : Nat} (g : ByteArray → ByteArray) (m : List UInt8) : ∀ (pre : List (Nat × ByteArray × Nat)) (st : Nat × List UInt8) (x : Nat × ByteArray × Nat) (post : List (Nat × ByteArray × Nat)), Asc n st.1 (pre ++ x :: post) →
    (pre.foldl (repStep g m) st).1 ≤ x.1 ∧ x.1 + 1 + x.2.2 ≤ n ∧ pre.length + st.1 ≤ (pre.foldl (repStep g m) st).1
  | [], st, x, post, h => ⟨h.1, h.2.1, by simp⟩
  | y :: t, st, x, post, h => by
    have := Asc.mid g m t (repStep g m st y) x post (h.2.2)
    refine ⟨this.1, this.2.1, ?_⟩
    have h3 := this.2.2
    have h1 := h.1
    simp only [List.foldl_cons, List.length_cons]
    have e : (repStep g m st y).1 = y.1 + 1 + y.2.2 := rfl
    omega
theorem Asc.end_ {n : Nat} (g : ByteArray → ByteArray) (m : List UInt8) : ∀ (pre : List (Nat × ByteArray × Nat)) (st : Nat × List UInt8), st.1 ≤ n → Asc n st.1 pre → (pre.foldl (repStep g m) st).1 ≤ n ∧ pre.length + st.1 ≤ (pre.foldl (repStep g m) st).1
  | [], st, h0, h => ⟨h0, by simp⟩
  | y :: t, st, h0, h => by
    have := Asc.end_ g m t (repStep g m st y) h.2.1 h.2.2
    refine ⟨this.1, ?_⟩
    have h3 := this.2
    have h1 := h.1
    simp only [List.foldl_cons, List.length_cons]
    have e : (repStep g m st y).1 = y.1 + 1 + y.2.2 := rfl
    omega
theorem repFold_len (g : ByteArray → ByteArray) (m : List UInt8) : ∀ (l : List (Nat × ByteArray × Nat)) (st : Nat × List UInt8), st.2.length ≤ (l.foldl (repStep g m) st).2.length
  | [], st => Nat.le_refl _
  | y :: t, st => by
    have := repFold_len g m t (repStep g m st y)
    have e : (repStep g m st y).2.length = st.2.length + ((m.drop st.1).take (y.1 - st.1) ++ (g y.2.1).data.toList).length := by simp only [repStep, List.length_append]
    simp only [List.foldl_cons]
    omega
theorem repSt_len (g : ByteArray → ByteArray) (m : List UInt8) (a b : List (Nat × ByteArray × Nat)) : (repSt g m a).2.length ≤ (repSt g m (a ++ b)).2.length := by
  have := repFold_len g m b (repSt g m a)
  unfold repSt at this ⊢
  rw [List.foldl_append]
  exact this

/-- A builder is kept where its own block and the rows of bytes are kept. -/
theorem bld_kept {T e : TypeId} {B b : Nat} {bs : List Value} {w w' : World} (h : Lib.IsBuilderF T e B b bs w)
    (hk : ∀ k o, w.heap[k]? = some o → (k = b ∨ ∃ c fz, o = Obj.cells c e fz) → w'.heap[k]? = some o) : Lib.IsBuilderF T e B b bs w' := by
  have key : ∀ p, Lib.BuilderAtF T e B b p bs w → Lib.BuilderAtF T e B b p bs w' := by
    rintro p ⟨hB, v, hb, hown, hne⟩
    refine ⟨hB, v, hk _ _ hb (.inl rfl), ⟨hown.1, ?_⟩, hne⟩
    rcases hown.2 with hn | ⟨g, cap, cur, fz, hv, hbg, hg, rest⟩
    · exact .inl hn
    · exact .inr ⟨g, cap, cur, fz, hv, hbg, hk _ _ hg (.inr ⟨_, _, rfl⟩), rest⟩
  exact h.elim (fun x => .inl (key _ x)) (fun x => .inr (key _ x))
theorem bld_below {T e : TypeId} {B b : Nat} {bs : List Value} {w w' : World} (h : Lib.IsBuilderF T e B b bs w) (hb : Below w.heap.size w w') : Lib.IsBuilderF T e B b bs w' :=
  bld_kept h fun k o ho _ => by
    have hlt : k < w.heap.size := (Array.getElem?_eq_some_iff.1 ho).1
    rw [hb.block k hlt]
    exact ho
theorem blk_kept {w w' : World} {k : Nat} {o : Obj} (hb : Below w.heap.size w w') (h : w.heap[k]? = some o) : w'.heap[k]? = some o := by
  rw [hb.block k (Array.getElem?_eq_some_iff.1 h).1]
  exact h

/-- what stands between two references: the five variables that 'replaced' and its literal share -/
def RepI (BY b0 : Nat) (m : ByteArray) (g : ByteArray → ByteArray) (W0 : World) (pre : List (Nat × ByteArray × Nat)) (W : World) : Prop :=
  Lib.IsBuilderF 86 5 b0 (b0 + 2) (Lib.byteCells (repSt g m.data.toList pre).2) W ∧ W.heap[b0]? = some (.cells #[.string m] 9 (0, 0)) ∧
    W.heap[b0 + 1]? = some (.cells #[.func (.func BY) #[] #[]] 69 (0, 0)) ∧ W.heap[b0 + 3]? = some (.cells #[.int .i64 ((repSt g m.data.toList pre).1 : Nat)] 3 (0, 0)) ∧
    W.heap[b0 + 4]? = some (.cells #[.int .i64 (pre.length : Nat)] 3 (0, 0)) ∧ Below b0 W0 W
theorem RepI.below {BY b0 : Nat} {m : ByteArray} {g : ByteArray → ByteArray} {W0 : World} {pre : List (Nat × ByteArray × Nat)} {W W' : World} (h : RepI BY b0 m g W0 pre W) (hb : Below W.heap.size W W') : RepI BY b0 m g W0 pre W' := by
  obtain ⟨hI, hS, hBy, hF, hN, hB⟩ := h
  have hlt : b0 < W.heap.size := (Array.getElem?_eq_some_iff.1 hS).1
  exact ⟨bld_below hI hb, blk_kept hb hS, blk_kept hb hBy, blk_kept hb hF, blk_kept hb hN, hB.trans (hb.mono (by omega))⟩
end Go.Proofs.Ytilpbfbnnmclhaa.P
