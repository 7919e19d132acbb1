import Derived.Test.YtjlebmnlphjjoaaDoRa
set_option linter.unusedVariables false
set_option linter.unusedSimpArgs false
/- Sums of weights, and what sentences say of numbers; no condition. -/
open Go Go.Proofs.Ytjlebmnlphjjoaa.Abs
namespace Go.Proofs.Ytjlebmnlphjjoaa.Fx
set_option maxRecDepth 100000
set_option maxHeartbeats 4000000
set_option linter.unusedSimpArgs false
def Bd (M : Int) (x : R4) : Prop := (-M ≤ x.a ∧ x.a ≤ M) ∧ (-M ≤ x.b ∧ x.b ≤ M) ∧ (-M ≤ x.c ∧ x.c ≤ M) ∧ (-M ≤ x.d ∧ x.d ≤ M)
theorem one3 {y : Int} (h : -1 ≤ y ∧ y ≤ 1) : y = -1 ∨ y = 0 ∨ y = 1 := by omega
theorem mulb {M x y : Int} (h : -M ≤ x ∧ x ≤ M) (hy : -1 ≤ y ∧ y ≤ 1) : -M ≤ x * y ∧ x * y ≤ M := by
  rcases one3 hy with rfl | rfl | rfl <;> simp <;> omega
theorem ind01 (k t : Int) : ind k t = 0 ∨ ind k t = 1 := by unfold ind; split <;> simp
theorem wt_b (s : Say) (k : Int) : -1 ≤ wt s k ∧ wt s k ≤ 1 := by
  unfold wt w1
  rcases ind01 k s.o with h | h <;> rcases ind01 k s.t with h' | h' <;> rw [h, h'] <;> (repeat' split) <;> omega
theorem wts_b (s : Say) : Bd 1 (wts s) := ⟨wt_b s 0, wt_b s 1, wt_b s 2, wt_b s 3⟩
def dot (x y : R4) : Int := x.a * y.a + x.b * y.b + x.c * y.c + x.d * y.d
@[go_sem] theorem e64 (x y : R4) (hx : Bd 1000000 x) (hy : Bd 1 y) : CF E 64 [.p (.ls 1 [.int .i64 x.a, .int .i64 x.b, .int .i64 x.c, .int .i64 x.d]), .p (.ls 1 [.int .i64 y.a, .int .i64 y.b, .int .i64 y.c, .int .i64 y.d])] [] = some ⟨.p (.int .i64 (dot x y)), [], []⟩ := by
  obtain ⟨x1, x2, x3, x4⟩ := hx
  obtain ⟨y1, y2, y3, y4⟩ := hy
  have m1 := mulb x1 y1
  have m2 := mulb x2 y2
  have m3 := mulb x3 y3
  have m4 := mulb x4 y4
  rw [q64]; simp (contextual := true) (implicitDefEqProofs := false) (decide := true) (maxSteps := 1000000) only [x64, go_sem, loop_eq]
  unfold dot
  generalize x.a * y.a = p1 at *
  generalize x.b * y.b = p2 at *
  generalize x.c * y.c = p3 at *
  generalize x.d * y.d = p4 at *
  rw [w64 (n := p1) (by omega) (by omega), w64 (n := p2) (by omega) (by omega), w64 (n := p3) (by omega) (by omega), w64 (n := p4) (by omega) (by omega), w64 (n := 0 + p1) (by omega) (by omega), w64 (n := 0 + p1 + p2) (by omega) (by omega), w64 (n := 0 + p1 + p2 + p3) (by omega) (by omega), w64 (by omega) (by omega), Int.zero_add]
def strict (s : Say) : Bool := decide (s.f = 1 ∨ s.f = 3 ∨ s.f = 4)
@[go_sem] theorem e69 (s : Say) : CF E 69 [.p (.agg [.int .i64 s.f, .int .i64 s.o, .int .i64 s.t])] [] = some ⟨.p (.bool (strict s)), [], []⟩ := by
  rw [q69]; simp (contextual := true) (implicitDefEqProofs := false) (decide := true) (maxSteps := 1000000) only [x69, go_sem]
  unfold strict
  repeat' split
  all_goals simp_all
def so (x : R4) (s : Say) : Bool := if strict s = true then decide (dot x (wts s) > 0) else decide (dot x (wts s) ≥ 0)
theorem e58 (x : R4) (s : Say) (hx : Bd 1000000 x) (hs : wOk s = true) : CF E 58 [.p (.ls 1 [.int .i64 x.a, .int .i64 x.b, .int .i64 x.c, .int .i64 x.d]), .p (.agg [.int .i64 s.f, .int .i64 s.o, .int .i64 s.t])] [] = some ⟨.p (.bool (so x s)), [], []⟩ := by
  have e := e64 x (wts s) hx (wts_b s)
  rw [show (wts s).a = wt s 0 from rfl, show (wts s).b = wt s 1 from rfl, show (wts s).c = wt s 2 from rfl, show (wts s).d = wt s 3 from rfl] at e
  rw [q58]; simp (contextual := true) (implicitDefEqProofs := false) (decide := true) (maxSteps := 1000000) only [x58, go_sem, hs, e]
  unfold so
  cases strict s <;> simp
def oth (t : Int) : Int := if t = 0 then 1 else if t = 1 then 0 else if t = 2 then 3 else 2
def con (s : Say) : Say := if s.f = 0 then ⟨1, s.o, oth s.t⟩ else if s.f = 1 then ⟨0, s.o, oth s.t⟩ else if s.f = 2 then ⟨3, s.t, s.o⟩ else if s.f = 3 then ⟨2, s.t, s.o⟩ else if s.f = 4 then ⟨5, s.o, s.t⟩ else ⟨4, s.o, s.t⟩
@[go_sem] theorem e50 (s : Say) (hs : wOk s = true) : CF E 50 [.p (.agg [.int .i64 s.f, .int .i64 s.o, .int .i64 s.t])] [] = some ⟨.p (.agg [.int .i64 (con s).f, .int .i64 (con s).o, .int .i64 (con s).t]), [], []⟩ := by
  obtain ⟨f, o, t⟩ := s
  simp only [wOk, decide_eq_true_eq] at hs
  obtain ⟨f1, f2, o1, o2, t1, t2⟩ := hs
  have : f = 0 ∨ f = 1 ∨ f = 2 ∨ f = 3 ∨ f = 4 ∨ f = 5 := by omega
  rcases this with rfl | rfl | rfl | rfl | rfl | rfl <;> (rw [q50]; simp (contextual := true) (implicitDefEqProofs := false) (decide := true) (maxSteps := 1000000) only [x50, go_sem, con])
  all_goals (rcases four t1 t2 with rfl | rfl | rfl | rfl <;> rfl)
theorem con_ok {s : Say} (hs : wOk s = true) : wOk (con s) = true := by
  obtain ⟨f, o, t⟩ := s
  simp only [wOk, decide_eq_true_eq] at hs
  obtain ⟨f1, f2, o1, o2, t1, t2⟩ := hs
  unfold con
  have h : 0 ≤ oth t ∧ oth t ≤ 3 := by unfold oth; repeat' split
                                       all_goals omega
  repeat' split
  all_goals simp only [wOk, decide_eq_true_eq]; omega
