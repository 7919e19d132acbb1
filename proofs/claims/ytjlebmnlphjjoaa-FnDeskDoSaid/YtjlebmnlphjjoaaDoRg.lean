import Derived.Test.YtjlebmnlphjjoaaDoRf
set_option linter.unusedVariables false
set_option linter.unusedSimpArgs false
/- Corners of what sentences allow, as the program reckons them: the outer loops; no condition. -/
open Go Go.Proofs.Ytjlebmnlphjjoaa.Abs
namespace Go.Proofs.Ytjlebmnlphjjoaa.Fx
set_option maxRecDepth 100000
set_option maxHeartbeats 8000000
set_option linter.unusedSimpArgs false
theorem f3_len (B : List R4) (x y : R4) : ∀ (l o : List R4), (f3 B x y l o).length ≤ o.length + l.length
  | [], o => by simp [f3]
  | z :: l, o => by
    have := f3_len B x y l (st B o x y z)
    have := st_len B o x y z
    simp only [f3, List.length_cons]; omega
theorem f2_len (B : List R4) (x : R4) : ∀ (l D o : List R4), (f2 B x D l o).length ≤ o.length + l.length * (D.length + l.length)
  | [], D, o => by simp [f2]
  | y :: l, D, o => by
    have h1 := f2_len B x l (D ++ [y]) (f3 B x y D o)
    have h2 := f3_len B x y D o
    simp only [f2, List.length_cons, List.length_append, List.length_nil] at h1 ⊢
    have e1 : D.length + (0 + 1) + l.length = D.length + (l.length + 1) := by omega
    rw [e1] at h1
    have e2 : (l.length + 1) * (D.length + (l.length + 1)) = l.length * (D.length + (l.length + 1)) + (D.length + (l.length + 1)) := by rw [Nat.add_mul, Nat.one_mul]
    omega
theorem lp256 (B : List R4) (hB : B.length ≤ 100) (hb1 : ∀ w ∈ B, Bd 1 w) (x : R4) (hx : Bd 1 x) (b : AC) (hb : b = lb x56.1 2) (i : Nat) (hi : i ≤ B.length) : ∀ (l D o : List R4), D ++ l = B.take i → o.length + l.length * (D.length + l.length) ≤ 900000 →
  CL E [3, 6, 8, 35, 36, 37, 44, 45, 46] [3, 6, 35, 36, 37] b ⟨mkT [(3, .ms 3003 0 0 B.length 1), (6, .ms 3006 0 0 o.length 1), (8, .p (r4 x)), (35, .ms 3003 0 0 B.length 1), (36, .p (.int .i64 B.length)), (37, .p (.int .i64 i)), (44, .ms 3003 0 0 i 1), (45, .p (.int .i64 i)), (46, .p (.int .i64 D.length))], mkS [(3003, (B.map r4).map .p), (3006, (o.map r4).map .p)]⟩ =
    some (.ex 4, ⟨mkT [(3, .ms 3003 0 0 B.length 1), (6, .ms 3006 0 0 (f2 B x D l o).length 1), (35, .ms 3003 0 0 B.length 1), (36, .p (.int .i64 B.length)), (37, .p (.int .i64 i))], mkS [(3003, (B.map r4).map .p), (3006, ((f2 B x D l o).map r4).map .p)]⟩) := by
  have L := lp356 B hB hb1 x
  simp only [x56, go_sem] at hb; subst hb
  intro l; induction l with
  | nil => 
    intro D o hj ho
    have h1 : D.length = i := by
      have := congrArg List.length hj
      simp at this; omega
    have h2 : ¬ ((D.length : Int) < i) := by omega
    rw [loop_eq]; simp (contextual := true) (implicitDefEqProofs := false) (decide := true) (maxSteps := 1000000) only [go_sem, h2, f2]
  | cons y l ih =>
    intro D o hj ho; obtain ⟨h1, h2, h3⟩ := appc hj
    have h5 : D.length < i := by rw [List.length_take] at h1; omega
    have h6 : ((D.length : Int) < i) := by omega
    have h7 := w64s (n := D.length) (by omega)
    have h8 : B[D.length]? = some y := by rw [List.getElem?_take_of_lt h5] at h2; exact h2
    have hy := hb1 y (List.mem_of_getElem? h8)
    have h9 : B.take D.length = D := by
      have : (B.take i).take D.length = D := by rw [← hj]; simp
      rw [List.take_take] at this
      rwa [Nat.min_eq_left (by omega)] at this
    have h10 : ((D.length : Int) < B.length) := by omega
    have h11 : ((D.length : Int) ≤ B.length) := by omega
    have hl3 := f3_len B x y D o
    have L := L y hx hy _ rfl i D.length hi (by omega) D 0 o h9 (by
      simp only [List.length_cons] at ho
      rw [Nat.add_mul, Nat.one_mul] at ho
      omega)
    have ih := ih (D ++ [y]) (f3 B x y D o) h3 (by
      simp only [List.length_cons, List.length_append, List.length_nil] at ho ⊢
      rw [Nat.add_mul, Nat.one_mul] at ho
      have e1 : D.length + (0 + 1) + l.length = D.length + (l.length + 1) := by omega
      rw [e1]; omega)
    unfold f2
    simp (contextual := true) (implicitDefEqProofs := false) (decide := true) (maxSteps := 1000000) only [x56, r4, go_sem] at ih L
    rw [loop_eq]; simp (contextual := true) (implicitDefEqProofs := false) (decide := true) (maxSteps := 1000000) only [go_sem, r4, h6, h7, h8, h10, h11, L, ih]
theorem lp156 (B : List R4) (hB : B.length ≤ 50) (hb1 : ∀ w ∈ B, Bd 1 w) (b : AC) (hb : b = lb x56.1 1) : ∀ (l D o : List R4), D ++ l = B → o.length + l.length * 2600 ≤ 800000 →
  CL E [3, 6, 35, 36, 37] [6] b ⟨mkT [(3, .ms 3003 0 0 B.length 1), (6, .ms 3006 0 0 o.length 1), (35, .ms 3003 0 0 B.length 1), (36, .p (.int .i64 B.length)), (37, .p (.int .i64 D.length))], mkS [(3003, (B.map r4).map .p), (3006, (o.map r4).map .p)]⟩ =
    some (.ex 2, ⟨mkT [(6, .ms 3006 0 0 (f1 B D l o).length 1)], mkS [(3006, ((f1 B D l o).map r4).map .p)]⟩) := by
  have L := lp256 B (by omega) hb1
  simp only [x56, go_sem] at hb; subst hb
  intro l; induction l with
  | nil => 
    intro D o hj ho
    have h1 : D.length = B.length := by
      have := congrArg List.length hj
      simpa using this
    have h2 : ¬ ((D.length : Int) < B.length) := by omega
    rw [loop_eq]; simp (contextual := true) (implicitDefEqProofs := false) (decide := true) (maxSteps := 1000000) only [go_sem, h2, f1]
  | cons x l ih =>
    intro D o hj ho; obtain ⟨h1, h2, h3⟩ := appc hj
    have h6 : ((D.length : Int) < B.length) := by omega
    have h7 := w64s (n := D.length) (by omega)
    have hx := hb1 x (List.mem_of_getElem? h2)
    have h9 : B.take D.length = D := by rw [← hj]; simp
    have h11 : ((D.length : Int) ≤ B.length) := by omega
    have hl2 := f2_len B x D [] o
    have hm : D.length * (0 + D.length) ≤ 50 * 50 := Nat.mul_le_mul (by omega) (by omega)
    simp only [List.length_nil] at hl2
    have L := L x hx _ rfl D.length (by omega) D [] o (by rw [h9]; rfl) (by simp only [List.length_nil, List.length_cons] at ho ⊢; omega)
    have ih := ih (D ++ [x]) (f2 B x [] D o) h3 (by simp only [List.length_cons] at ho ⊢; omega)
    unfold f1
    simp (contextual := true) (implicitDefEqProofs := false) (decide := true) (maxSteps := 1000000) only [x56, r4, go_sem] at ih L
    rw [loop_eq]; simp (contextual := true) (implicitDefEqProofs := false) (decide := true) (maxSteps := 1000000) only [go_sem, r4, h2, h6, h7, h11, L, ih]
