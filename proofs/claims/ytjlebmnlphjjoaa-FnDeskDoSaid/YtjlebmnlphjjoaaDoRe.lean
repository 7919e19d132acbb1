import Derived.Test.YtjlebmnlphjjoaaDoRd
set_option linter.unusedVariables false
set_option linter.unusedSimpArgs false
/- Corners of what sentences allow, as the program reckons them; no condition. -/
open Go Go.Proofs.Ytjlebmnlphjjoaa.Abs
namespace Go.Proofs.Ytjlebmnlphjjoaa.Fx
set_option maxRecDepth 100000
set_option maxHeartbeats 8000000
set_option linter.unusedSimpArgs false
theorem R4_eq (x y : R4) : (x = y) = (x.a = y.a ∧ x.b = y.b ∧ x.c = y.c ∧ x.d = y.d) := by cases x; cases y; simp
@[go_sem] theorem e66 (x y : R4) : CF E 66 [.p (.ls 1 [.int .i64 x.a, .int .i64 x.b, .int .i64 x.c, .int .i64 x.d]), .p (.ls 1 [.int .i64 y.a, .int .i64 y.b, .int .i64 y.c, .int .i64 y.d])] [] = some ⟨.p (.bool (decide (x = y))), [], []⟩ := by
  rw [q66]; simp (contextual := true) (implicitDefEqProofs := false) (decide := true) (maxSteps := 1000000) only [x66, go_sem, loop_eq, R4_eq]
  by_cases h1 : x.a = y.a <;> by_cases h2 : x.b = y.b <;> by_cases h3 : x.c = y.c <;> by_cases h4 : x.d = y.d <;> simp [h1, h2, h3, h4]
theorem e63 (w r : R4) (hw : Bd 1 w) (hr : Bd 1000000 r) : CF E 63 [.p (.ls 1 [.int .i64 w.a, .int .i64 w.b, .int .i64 w.c, .int .i64 w.d]), .p (.fp [.ls 1 [.int .i64 r.a, .int .i64 r.b, .int .i64 r.c, .int .i64 r.d]] 0)] [] = some ⟨.p (.bool (decide (dot r w < 0))), [], []⟩ := by
  rw [q63]; simp (contextual := true) (implicitDefEqProofs := false) (decide := true) (maxSteps := 1000000) only [x63, go_sem, hw, hr]
theorem e65 (w r : R4) : CF E 65 [.p (.ls 1 [.int .i64 w.a, .int .i64 w.b, .int .i64 w.c, .int .i64 w.d]), .p (.fp [.ls 1 [.int .i64 r.a, .int .i64 r.b, .int .i64 r.c, .int .i64 r.d]] 0)] [] = some ⟨.p (.bool (decide (w = r))), [], []⟩ := by
  rw [q65]; simp (contextual := true) (implicitDefEqProofs := false) (decide := true) (maxSteps := 1000000) only [x65, go_sem]
theorem lp73 (N : List R4) (hN : N.length ≤ room) (g : FuncId) (hm : E.mode g = .borrow) (r : PV) (p : R4 → Bool) (hp : ∀ a ∈ N, CF E g [.p (.ls 1 [.int .i64 a.a, .int .i64 a.b, .int .i64 a.c, .int .i64 a.d]), .p (.fp [r] 0)] [] = some ⟨.p (.bool (p a)), [], []⟩) (b : AC) (hb : b = lb x73.1 0) : ∀ (l : List R4) (i : Nat), N.drop i = l →
   CL E [0, 1, 7, 8] [4] b ⟨mkT [(0, .p (.ls 1 (N.map r4))), (1, .p (.fn g [] [.fp [r] 0])), (7, .p (.int .i64 N.length)), (8, .p (.int .i64 i))], mkS []⟩ =
    bif l.any p then some (.ret, ⟨mkT [(4, .p (.int .i64 (find p l i)))], mkS []⟩) else some (.ex 0, ⟨mkT [(4, .un)], mkS []⟩) := by
  simp only [x73, go_sem] at hb; subst hb
  intro l; induction l with
  | nil => 
    intro i hi; have h1 := dropn hi
    have h2 : ¬ ((i : Int) < N.length) := by omega
    rw [loop_eq]; simp (contextual := true) (implicitDefEqProofs := false) (decide := true) (maxSteps := 1000000) only [go_sem, h2]
  | cons a l ih =>
    intro i hi; obtain ⟨h1, h2, h3, h4⟩ := dropc hi
    have h5 : ((i : Int) < N.length) := by omega
    have h6 := w64s (n := i) (by unfold room at hN; omega)
    have h7 := hp a (List.mem_of_getElem? h2)
    rw [loop_eq]; simp (contextual := true) (implicitDefEqProofs := false) (decide := true) (maxSteps := 1000000) only [go_sem, h2, h5, h6, r4, h7, hm, ih _ h3]
    cases c1 : p a <;> simp [find, c1]
theorem e62 (N : List R4) (hN : N.length ≤ room) (g : FuncId) (hm : E.mode g = .borrow) (r : PV) (p : R4 → Bool) (hp : ∀ a ∈ N, CF E g [.p (.ls 1 [.int .i64 a.a, .int .i64 a.b, .int .i64 a.c, .int .i64 a.d]), .p (.fp [r] 0)] [] = some ⟨.p (.bool (p a)), [], []⟩) : CF E 62 [.p (.ls 1 (N.map r4)), .p (.fn g [] [.fp [r] 0])] [] = some ⟨.p (.bool (N.any p)), [], []⟩ := by
  have L := lp73 N hN g hm r p hp _ rfl N 0 rfl
  simp (contextual := true) (implicitDefEqProofs := false) (decide := true) (maxSteps := 1000000) only [x73, go_sem] at L
  have h := find_lt p N 0 (by decide)
  rw [q62]; simp (contextual := true) (implicitDefEqProofs := false) (decide := true) (maxSteps := 1000000) only [x62, go_sem, q73, x73, L]
  cases c1 : N.any p <;> simp [c1] at h ⊢
  all_goals omega
