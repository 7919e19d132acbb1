import Derived.Test.YtjlebmnlphjjoaaDoQc
set_option linter.unusedVariables false
set_option linter.unusedSimpArgs false
/- What sentences weigh; no condition. -/
open Go Go.Proofs.Ytjlebmnlphjjoaa.Abs
namespace Go.Proofs.Ytjlebmnlphjjoaa.Fx
set_option maxRecDepth 100000
set_option maxHeartbeats 4000000
set_option linter.unusedSimpArgs false
def tab (k t : Int) : Bool := decide ((k = 0 ∧ (t = 1 ∨ t = 3)) ∨ (k = 1 ∧ (t = 0 ∨ t = 3)) ∨ (k = 2 ∧ (t = 1 ∨ t = 2)) ∨ (k = 3 ∧ (t = 0 ∨ t = 2)))
def ind (k t : Int) : Int := if tab k t = true then 1 else 0
theorem four {k : Int} (h0 : 0 ≤ k) (h3 : k ≤ 3) : k = 0 ∨ k = 1 ∨ k = 2 ∨ k = 3 := by omega
theorem e70 (k t : Int) (h0 : 0 ≤ k) (h1 : k ≤ 3) (h2 : 0 ≤ t) (h3 : t ≤ 3) : CF E 70 [.p (.int .i64 k), .p (.int .i64 t)] [] = some ⟨.p (.bool (tab k t)), [], []⟩ := by
  rw [q70]
  rcases four h0 h1 with rfl | rfl | rfl | rfl <;> rcases four h2 h3 with rfl | rfl | rfl | rfl <;> simp (contextual := true) (implicitDefEqProofs := false) (decide := true) (maxSteps := 1000000) only [x70, go_sem, tab]
  all_goals rfl
def w1 (f a b : Int) : Int := if f = 0 then a * (b - 1) else if f = 1 then a * b else if f = 2 ∨ f = 3 then a - b else if f = 4 then 2 * a * b - a else a - 2 * a * b
def wt (s : Say) (k : Int) : Int := w1 s.f (ind k s.o) (ind k s.t)
def wts (s : Say) : R4 := ⟨wt s 0, wt s 1, wt s 2, wt s 3⟩
def num (n : Int) : PV := .int .i64 n
theorem lp60 (s : Say) (hs : wOk s = true) (b : AC) (hb : b = lb x60.1 0) : ∀ (l D : List Nat), D ++ l = List.range 4 →
  CL E [1, 3, 9] [3] b ⟨mkT [(1, .mp 1 0 0 0), (3, .ms 3003 0 0 D.length 1), (9, .p (.int .i64 D.length))], mkS [(1, [.p (.agg [.int .i64 s.f, .int .i64 s.o, .int .i64 s.t])]), (3003, (D.map fun (k : Nat) => num (wt s k)).map .p)]⟩ =
    some (.ex 0, ⟨mkT [(3, .ms 3003 0 0 4 1)], mkS [(3003, ((List.range 4).map fun (k : Nat) => num (wt s k)).map .p)]⟩) := by
  simp only [x60, go_sem] at hb; subst hb
  obtain ⟨f, o, t⟩ := s
  simp only [wOk, decide_eq_true_eq] at hs
  obtain ⟨f1, f2, o1, o2, t1, t2⟩ := hs
  intro l; induction l with
  | nil => 
    intro D hi; obtain rfl : D = List.range 4 := by simpa using hi
    rw [loop_eq]; simp (contextual := true) (implicitDefEqProofs := false) (decide := true) (maxSteps := 1000000) only [go_sem, List.length_range, num]
  | cons a l ih =>
    intro D hi; obtain ⟨h1, h2, h3⟩ := appc hi
    have h4 : D.length < 4 := by simpa using h1
    obtain rfl : a = D.length := by rw [List.getElem?_range h4] at h2; simpa using h2.symm
    have h5 : ((D.length : Int) < 4) := by omega
    have h6 := w64s (n := D.length) (by omega)
    have h7 : D.length + 1 ≤ room := by unfold room; omega
    have ih := ih _ h3
    simp (contextual := true) (implicitDefEqProofs := false) (decide := true) (maxSteps := 1000000) only [go_sem] at ih
    have i1 := e70 D.length o (by omega) (by omega) o1 o2
    have i2 := e70 D.length t (by omega) (by omega) t1 t2
    have hw : num (wt ⟨f, o, t⟩ D.length) = .int .i64 (w1 f (ind D.length o) (ind D.length t)) := rfl
    rw [hw] at ih
    have : f = 0 ∨ f = 1 ∨ f = 2 ∨ f = 3 ∨ f = 4 ∨ f = 5 := by omega
    cases c1 : tab D.length o <;> cases c2 : tab D.length t <;> rw [c1] at i1 <;> rw [c2] at i2 <;> simp only [ind, c1, c2] at ih <;> rcases this with rfl | rfl | rfl | rfl | rfl | rfl <;> simp (contextual := true) (implicitDefEqProofs := false) (decide := true) (maxSteps := 1000000) only [w1, go_sem] at ih <;> rw [loop_eq] <;> simp (contextual := true) (implicitDefEqProofs := false) (decide := true) (maxSteps := 1000000) only [go_sem, h5, h6, i1, i2, h7, apK_grow, ih]
@[go_sem] theorem e60 (s : Say) (hs : wOk s = true) : CF E 60 [.p (.agg [.int .i64 s.f, .int .i64 s.o, .int .i64 s.t])] [] = some ⟨.p (.ls 1 [.int .i64 (wt s 0), .int .i64 (wt s 1), .int .i64 (wt s 2), .int .i64 (wt s 3)]), [], []⟩ := by
  have L := lp60 s hs _ rfl (List.range 4) [] rfl
  have hr : List.range 4 = [0, 1, 2, 3] := by decide
  rw [hr] at L
  simp (contextual := true) (implicitDefEqProofs := false) (decide := true) (maxSteps := 1000000) only [x60, go_sem, num] at L
  rw [q60]; simp (contextual := true) (implicitDefEqProofs := false) (decide := true) (maxSteps := 1000000) only [x60, go_sem, L]
