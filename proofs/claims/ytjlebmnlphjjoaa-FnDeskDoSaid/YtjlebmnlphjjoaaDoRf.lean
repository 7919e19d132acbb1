import Derived.Test.YtjlebmnlphjjoaaDoRe
set_option linter.unusedVariables false
set_option linter.unusedSimpArgs false
/- Corners of what sentences allow, as the program reckons them: the loops; no condition. -/
open Go Go.Proofs.Ytjlebmnlphjjoaa.Abs
namespace Go.Proofs.Ytjlebmnlphjjoaa.Fx
set_option maxRecDepth 100000
set_option maxHeartbeats 8000000
set_option linter.unusedSimpArgs false
def st (B o : List R4) (x y z : R4) : List R4 := match lin (crs x y z) with
  | none => o
  | some r => if (B.any fun w => decide (dot r w < 0)) = true then o else if (o.any fun w => decide (w = r)) = true then o else o ++ [r]
def f3 (B : List R4) (x y : R4) : List R4 → List R4 → List R4
  | [], o => o
  | z :: l, o => f3 B x y l (st B o x y z)
def f2 (B : List R4) (x : R4) : List R4 → List R4 → List R4 → List R4
  | _, [], o => o
  | D, y :: l, o => f2 B x (D ++ [y]) l (f3 B x y D o)
def f1 (B : List R4) : List R4 → List R4 → List R4 → List R4
  | _, [], o => o
  | D, x :: l, o => f1 B (D ++ [x]) l (f2 B x [] D o)
theorem Bd.mono {M N : Int} (h : M ≤ N) {x : R4} (hx : Bd M x) : Bd N x := by
  obtain ⟨a, b, c, d⟩ := hx
  exact ⟨by omega, by omega, by omega, by omega⟩
theorem lin_b {x r : R4} (hx : Bd 6 x) (h : lin x = some r) : Bd 6 r := by
  have q : ∀ g o : Int, -6 ≤ o ∧ o ≤ 6 → -6 ≤ o.tdiv g ∧ o.tdiv g ≤ 6 := fun g o ho => by
    have : (o.tdiv g).natAbs ≤ o.natAbs := Int.natAbs_tdiv_le_natAbs o g
    omega
  obtain ⟨G, hG⟩ : ∃ G, lin x = if g4 x.a x.b x.c x.d = 0 then none else if mn (low x G) < 0 then none else some (low x G) := ⟨_, rfl⟩
  rw [hG] at h
  split at h
  · cases h
  · split at h
    · cases h
    · simp only [Option.some.injEq] at h
      subst h
      obtain ⟨a, b, c, d⟩ := hx
      exact ⟨q _ _ a, q _ _ b, q _ _ c, q _ _ d⟩
theorem crs_b {x y z : R4} (hx : Bd 1 x) (hy : Bd 1 y) (hz : Bd 1 z) : Bd 6 (crs x y z) := by
  have h := minor_b x y z hx hy hz
  have h0 := h 0; have h1 := h 1; have h2 := h 2; have h3 := h 3
  simp only [crs]
  exact ⟨h0, ⟨by simp only []; omega, by simp only []; omega⟩, h2, ⟨by simp only []; omega, by simp only []; omega⟩⟩
theorem st_len (B o : List R4) (x y z : R4) : (st B o x y z).length ≤ o.length + 1 := by
  unfold st; split
  · omega
  · split
    · omega
    · split
      · omega
      · simp
theorem lp356 (B : List R4) (hB : B.length ≤ 100) (hb1 : ∀ w ∈ B, Bd 1 w) (x y : R4) (hx : Bd 1 x) (hy : Bd 1 y) (b : AC) (hb : b = lb x56.1 3) (i k : Nat) (hi : i ≤ B.length) (hk : k ≤ i) : ∀ (l : List R4) (j : Nat) (o : List R4), (B.take k).drop j = l → o.length + l.length ≤ 1000000 →
  CL E [3, 6, 8, 10, 35, 36, 37, 44, 45, 46, 53, 54, 55] [3, 6, 8, 35, 36, 37, 44, 45, 46] b ⟨mkT [(3, .ms 3003 0 0 B.length 1), (6, .ms 3006 0 0 o.length 1), (8, .p (r4 x)), (10, .p (r4 y)), (35, .ms 3003 0 0 B.length 1), (36, .p (.int .i64 B.length)), (37, .p (.int .i64 i)), (44, .ms 3003 0 0 i 1), (45, .p (.int .i64 i)), (46, .p (.int .i64 k)), (53, .ms 3003 0 0 k 1), (54, .p (.int .i64 k)), (55, .p (.int .i64 j))], mkS [(3003, (B.map r4).map .p), (3006, (o.map r4).map .p)]⟩ =
    some (.ex 6, ⟨mkT [(3, .ms 3003 0 0 B.length 1), (6, .ms 3006 0 0 (f3 B x y l o).length 1), (8, .p (r4 x)), (35, .ms 3003 0 0 B.length 1), (36, .p (.int .i64 B.length)), (37, .p (.int .i64 i)), (44, .ms 3003 0 0 i 1), (45, .p (.int .i64 i)), (46, .p (.int .i64 k))], mkS [(3003, (B.map r4).map .p), (3006, ((f3 B x y l o).map r4).map .p)]⟩) := by
  simp only [x56, go_sem] at hb; subst hb
  intro l; induction l with
  | nil => 
    intro j o hj ho; have h1 := dropn hj
    have h2 : ¬ ((j : Int) < k) := by rw [List.length_take] at h1; omega
    rw [loop_eq]; simp (contextual := true) (implicitDefEqProofs := false) (decide := true) (maxSteps := 1000000) only [go_sem, h2, f3]
  | cons z l ih =>
    intro j o hj ho; obtain ⟨h1, h2, h3, h4⟩ := dropc hj
    have h5 : j < k := by rw [List.length_take] at h1; omega
    have h6 : ((j : Int) < k) := by omega
    have h7 := w64s (n := j) (by omega)
    have h8 : B[j]? = some z := by rw [List.getElem?_take_of_lt h5] at h2; exact h2
    have hz := hb1 z (List.mem_of_getElem? h8)
    have eL := e61 x y z hx hy hz
    have h9 := room_ge (n := B.length) (by omega)
    have h10 : o.length ≤ room := by unfold room; omega
    have h11 : o.length + 1 ≤ room := by unfold room; omega
    have h12 : ((j : Int) < B.length) := by omega
    have ih := ih (j + 1) (st B o x y z) h3
    unfold f3
    cases hl : lin (crs x y z) with
    | none =>
      have hst : st B o x y z = o := by simp only [st, hl]
      rw [hst] at ih
      have ih := ih (by simp at ho; omega)
      rw [hl] at eL
      simp (contextual := true) (implicitDefEqProofs := false) (decide := true) (maxSteps := 1000000) only [r4, go_sem, ro] at ih eL
      rw [hst]
      rw [loop_eq]; simp (contextual := true) (implicitDefEqProofs := false) (decide := true) (maxSteps := 1000000) only [go_sem, r4, h6, h7, h8, h12, eL, ih]
    | some r =>
      have hr6 := lin_b (crs_b hx hy hz) hl
      have hr := hr6.mono (by decide : (6 : Int) ≤ 1000000)
      rw [hl] at eL
      have cB := e62 B h9 63 rfl (.ls 1 [.int .i64 r.a, .int .i64 r.b, .int .i64 r.c, .int .i64 r.d]) (fun w => decide (dot r w < 0)) (fun w hw => e63 w r (hb1 w hw) hr)
      have cO := e62 o h10 65 rfl (.ls 1 [.int .i64 r.a, .int .i64 r.b, .int .i64 r.c, .int .i64 r.d]) (fun w => decide (w = r)) (fun w hw => e65 w r)
      have hst : st B o x y z = if (B.any fun w => decide (dot r w < 0)) = true then o else if (o.any fun w => decide (w = r)) = true then o else o ++ [r] := by simp only [st, hl]
      rw [hst] at ih ⊢
      cases d1 : B.any (fun w => decide (dot r w < 0)) with
      | true =>
        rw [d1] at cB ih
        simp only [if_true] at ih ⊢
        have ih := ih (by simp at ho; omega)
        simp (contextual := true) (implicitDefEqProofs := false) (decide := true) (maxSteps := 1000000) only [r4, go_sem, ro] at ih eL
        rw [loop_eq]; simp (contextual := true) (implicitDefEqProofs := false) (decide := true) (maxSteps := 1000000) only [go_sem, r4, h6, h7, h8, h12, eL, cB, cO, ih]
      | false =>
        rw [d1] at cB ih
        cases d2 : o.any (fun w => decide (w = r)) with
        | true =>
          rw [d2] at cO ih
          simp only [if_true, Bool.false_eq_true, if_false] at ih ⊢
          have ih := ih (by simp at ho; omega)
          simp (contextual := true) (implicitDefEqProofs := false) (decide := true) (maxSteps := 1000000) only [r4, go_sem, ro] at ih eL
          rw [loop_eq]; simp (contextual := true) (implicitDefEqProofs := false) (decide := true) (maxSteps := 1000000) only [go_sem, r4, h6, h7, h8, h12, eL, cB, cO, ih]
        | false =>
          rw [d2] at cO ih
          simp only [Bool.false_eq_true, if_false] at ih ⊢
          have ih := ih (by simp at ho ⊢; omega)
          simp (contextual := true) (implicitDefEqProofs := false) (decide := true) (maxSteps := 1000000) only [r4, go_sem, ro] at ih eL
          rw [loop_eq]; simp (contextual := true) (implicitDefEqProofs := false) (decide := true) (maxSteps := 1000000) only [go_sem, r4, h6, h7, h8, h11, h12, eL, cB, cO, apK_grow, ih]
