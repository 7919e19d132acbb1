import Derived.Test.YtjlebmnlphjjoaaDoRc
set_option linter.unusedVariables false
set_option linter.unusedSimpArgs false
/- The line of three rows; no condition. -/
open Go Go.Proofs.Ytjlebmnlphjjoaa.Abs
namespace Go.Proofs.Ytjlebmnlphjjoaa.Fx
set_option maxRecDepth 100000
set_option maxHeartbeats 8000000
set_option linter.unusedSimpArgs false
theorem gcd_step (a b : Int) : Int.gcd b (a.tmod b) = Int.gcd a b := by
  rw [Int.gcd, Int.gcd, Int.natAbs_tmod, Nat.gcd_comm a.natAbs, Nat.gcd_rec b.natAbs a.natAbs, Nat.gcd_comm]
theorem lp161 (R O : List PV) (b : AC) (hb : b = lb x61.1 1) (sg n i : Int) : ∀ (k : Nat) (x y : Int), y.natAbs ≤ k → -6 ≤ x → x ≤ 6 → -6 ≤ y → y ≤ 6 →
  CL E [1, 3, 5, 7, 8, 12, 13] [1, 3, 4, 5, 12, 13] b ⟨mkT [(1, .mp 1 0 0 0), (3, .ms 3003 0 0 4 1), (5, .p (.int .i64 sg)), (7, .p (.int .i64 x)), (8, .p (.int .i64 y)), (12, .p (.int .i64 n)), (13, .p (.int .i64 i))], mkS [(1, [.p (.agg R)]), (3003, O.map .p)]⟩ =
    some (.ex 2, ⟨mkT [(1, .mp 1 0 0 0), (3, .ms 3003 0 0 4 1), (4, .p (.int .i64 (Int.gcd x y : Nat))), (5, .p (.int .i64 sg)), (12, .p (.int .i64 n)), (13, .p (.int .i64 i))], mkS [(1, [.p (.agg R)]), (3003, O.map .p)]⟩) := by
  simp only [x61, go_sem] at hb; subst hb
  have zero : ∀ x : Int, -6 ≤ x → x ≤ 6 → (if IntKind.wrap .i64 (0 - x) > x then IntKind.wrap .i64 (0 - x) else x) = ((Int.gcd x 0 : Nat) : Int) := by
    intro x h1 h2
    rw [w64 (by omega) (by omega), Int.gcd_zero_right]
    split <;> omega
  intro k; induction k with
  | zero =>
    intro x y hk x1 x2 y1 y2
    obtain rfl : y = 0 := by omega
    rw [loop_eq]; simp (contextual := true) (implicitDefEqProofs := false) (decide := true) (maxSteps := 1000000) only [go_sem, zero x x1 x2]
  | succ k ih =>
    intro x y hk x1 x2 y1 y2
    by_cases hy : y = 0
    · subst hy
      rw [loop_eq]; simp (contextual := true) (implicitDefEqProofs := false) (decide := true) (maxSteps := 1000000) only [go_sem, zero x x1 x2]
    · have h1 : (x.tmod y).natAbs < y.natAbs := by rw [Int.natAbs_tmod]; exact Nat.mod_lt _ (by omega)
      have ih := ih y (x.tmod y) (by omega) y1 y2 (by omega) (by omega)
      rw [gcd_step] at ih
      rw [loop_eq]; simp (contextual := true) (implicitDefEqProofs := false) (decide := true) (maxSteps := 1000000) only [go_sem, hy, ih]
def mn (r : R4) : Int :=
  let m := if r.b < r.a then r.b else r.a
  let m := if r.c < m then r.c else m
  if r.d < m then r.d else m
@[go_sem] theorem e72 (r : R4) : CF E 72 [.p (.ls 1 [.int .i64 r.a, .int .i64 r.b, .int .i64 r.c, .int .i64 r.d])] [] = some ⟨.p (.int .i64 (mn r)), [], []⟩ := by
  rw [q72]; simp (contextual := true) (implicitDefEqProofs := false) (decide := true) (maxSteps := 1000000) only [x72, go_sem, loop_eq]
  rfl
def g4 (a b c d : Int) : Nat := Int.gcd (Int.gcd (Int.gcd (Int.gcd 0 a : Nat) b : Nat) c : Nat) d
def low (r : R4) (g : Int) : R4 := ⟨r.a.tdiv g, r.b.tdiv g, r.c.tdiv g, r.d.tdiv g⟩
def crs (x y z : R4) : R4 := ⟨minor x y z 0, -minor x y z 1, minor x y z 2, -minor x y z 3⟩
def lin (r : R4) : Option R4 :=
  let g := g4 r.a r.b r.c r.d
  if g = 0 then none else
  let q := low r (if mn r < 0 then -(g : Int) else g)
  if mn q < 0 then none else some q
def ro (r : Option R4) : PV := match r with | some r => .ls 1 [.int .i64 r.a, .int .i64 r.b, .int .i64 r.c, .int .i64 r.d] | none => .nls
theorem minor_b (x y z : R4) (hx : Bd 1 x) (hy : Bd 1 y) (hz : Bd 1 z) (k : Nat) : -6 ≤ minor x y z k ∧ minor x y z k ≤ 6 := by
  obtain ⟨hxa, hxb, hxc, hxd⟩ := hx
  obtain ⟨hya, hyb, hyc, hyd⟩ := hy
  obtain ⟨hza, hzb, hzc, hzd⟩ := hz
  unfold minor
  split <;> apply det_b <;> assumption
theorem gcd_le (a b : Int) (h : a ≠ 0 ∨ b ≠ 0) (ha : -6 ≤ a ∧ a ≤ 6) (hb : -6 ≤ b ∧ b ≤ 6) : Int.gcd a b ≤ 6 := by
  rcases h with h | h
  · have := Nat.gcd_le_left (n := b.natAbs) (m := a.natAbs) (by omega)
    simp only [Int.gcd]; omega
  · have := Nat.gcd_le_right (m := a.natAbs) (n := b.natAbs) (by omega)
    simp only [Int.gcd]; omega
theorem gcd_b (a b : Int) (ha : -6 ≤ a ∧ a ≤ 6) (hb : -6 ≤ b ∧ b ≤ 6) : -6 ≤ ((Int.gcd a b : Nat) : Int) ∧ ((Int.gcd a b : Nat) : Int) ≤ 6 := by
  by_cases h : a ≠ 0 ∨ b ≠ 0
  · have := gcd_le a b h ha hb; omega
  · obtain ⟨rfl, rfl⟩ : a = 0 ∧ b = 0 := by omega
    simp
theorem e61 (x y z : R4) (hx : Bd 1 x) (hy : Bd 1 y) (hz : Bd 1 z) : CF E 61 [.p (.agg [.ls 1 [.int .i64 x.a, .int .i64 x.b, .int .i64 x.c, .int .i64 x.d], .ls 1 [.int .i64 y.a, .int .i64 y.b, .int .i64 y.c, .int .i64 y.d], .ls 1 [.int .i64 z.a, .int .i64 z.b, .int .i64 z.c, .int .i64 z.d]])] [] = some ⟨.p (ro (lin (crs x y z))), [], []⟩ := by
  have n0 := minor0 x y z hx hy hz
  have n1 := minor1 x y z hx hy hz
  have n2 := minor2 x y z hx hy hz
  have n3 := minor3 x y z hx hy hz
  have b0 := minor_b x y z hx hy hz 0
  have b1 := minor_b x y z hx hy hz 1
  have b2 := minor_b x y z hx hy hz 2
  have b3 := minor_b x y z hx hy hz 3
  unfold crs
  generalize minor x y z 0 = m0 at *
  generalize minor x y z 1 = m1 at *
  generalize minor x y z 2 = m2 at *
  generalize minor x y z 3 = m3 at *
  have h4 : (4 : Int) ≤ room := by decide
  have L := lp161 [.ls 1 [.int .i64 x.a, .int .i64 x.b, .int .i64 x.c, .int .i64 x.d], .ls 1 [.int .i64 y.a, .int .i64 y.b, .int .i64 y.c, .int .i64 y.d], .ls 1 [.int .i64 z.a, .int .i64 z.b, .int .i64 z.c, .int .i64 z.d]]
  have w0 : IntKind.wrap .i64 (1 * m0) = m0 := by rw [w64] <;> omega
  have w1 : IntKind.wrap .i64 (-1 * m1) = -m1 := by rw [w64] <;> omega
  have w2 : IntKind.wrap .i64 (1 * m2) = m2 := by rw [w64] <;> omega
  have w3 : IntKind.wrap .i64 (-1 * m3) = -m3 := by rw [w64] <;> omega
  have c0 := gcd_b 0 m0 (by omega) b0
  have c1 := gcd_b _ (-m1) c0 (by omega)
  have c2 := gcd_b _ m2 c1 b2
  have c3 := gcd_b _ (-m3) c2 (by omega)
  have L0 := L [.int .i64 m0, .int .i64 0, .int .i64 0, .int .i64 0] _ rfl (-1) 4 0 _ 0 m0 (Nat.le_refl _) (by omega) (by omega) b0.1 b0.2
  have L1 := L [.int .i64 m0, .int .i64 (-m1), .int .i64 0, .int .i64 0] _ rfl 1 4 1 _ (Int.gcd 0 m0 : Nat) (-m1) (Nat.le_refl _) c0.1 c0.2 (by omega) (by omega)
  have L2 := L [.int .i64 m0, .int .i64 (-m1), .int .i64 m2, .int .i64 0] _ rfl (-1) 4 2 _ (Int.gcd (Int.gcd 0 m0 : Nat) (-m1) : Nat) m2 (Nat.le_refl _) c1.1 c1.2 b2.1 b2.2
  have L3 := L [.int .i64 m0, .int .i64 (-m1), .int .i64 m2, .int .i64 (-m3)] _ rfl 1 4 3 _ (Int.gcd (Int.gcd (Int.gcd 0 m0 : Nat) (-m1) : Nat) m2 : Nat) (-m3) (Nat.le_refl _) c2.1 c2.2 (by omega) (by omega)
  clear L
  simp (contextual := true) (implicitDefEqProofs := false) (decide := true) (maxSteps := 1000000) only [x61, go_sem] at L0 L1 L2 L3
  have hgd : g4 m0 (-m1) m2 (-m3) = Int.gcd (Int.gcd (Int.gcd (Int.gcd 0 m0 : Nat) (-m1) : Nat) m2 : Nat) (-m3) := rfl
  rw [← hgd] at L3 c3
  have q : ∀ g o : Int, -6 ≤ o ∧ o ≤ 6 → IntKind.wrap .i64 (o.tdiv g) = o.tdiv g := fun g o ho => by
    have : (o.tdiv g).natAbs ≤ o.natAbs := Int.natAbs_tdiv_le_natAbs o g
    rw [w64] <;> omega
  have q0 := fun g => q g m0 b0
  have q1 := fun g => q g (-m1) (by omega)
  have q2 := fun g => q g m2 b2
  have q3 := fun g => q g (-m3) (by omega)
  have hmn := e72 ⟨m0, -m1, m2, -m3⟩
  have hml := fun g => e72 (low ⟨m0, -m1, m2, -m3⟩ g)
  simp only [low] at hml
  have fin : lin ⟨m0, -m1, m2, -m3⟩ = if g4 m0 (-m1) m2 (-m3) = 0 then none else if mn (low ⟨m0, -m1, m2, -m3⟩ (if mn ⟨m0, -m1, m2, -m3⟩ < 0 then -(g4 m0 (-m1) m2 (-m3) : Int) else g4 m0 (-m1) m2 (-m3))) < 0 then none else some (low ⟨m0, -m1, m2, -m3⟩ (if mn ⟨m0, -m1, m2, -m3⟩ < 0 then -(g4 m0 (-m1) m2 (-m3) : Int) else g4 m0 (-m1) m2 (-m3))) := rfl
  rw [fin]
  generalize g4 m0 (-m1) m2 (-m3) = g at *
  have hneg : IntKind.wrap .i64 (0 - (g : Int)) = -(g : Int) := by rw [w64] <;> omega
  rw [q61]; simp (contextual := true) (implicitDefEqProofs := false) (decide := true) (maxSteps := 1000000) only [x61, go_sem, h4]
  rw [loop_eq]; simp (contextual := true) (implicitDefEqProofs := false) (decide := true) (maxSteps := 1000000) only [go_sem, n0, w0, L0]
  rw [loop_eq]; simp (contextual := true) (implicitDefEqProofs := false) (decide := true) (maxSteps := 1000000) only [go_sem, n1, w1, L1]
  rw [loop_eq]; simp (contextual := true) (implicitDefEqProofs := false) (decide := true) (maxSteps := 1000000) only [go_sem, n2, w2, L2]
  rw [loop_eq]; simp (contextual := true) (implicitDefEqProofs := false) (decide := true) (maxSteps := 1000000) only [go_sem, n3, w3, L3]
  rw [loop_eq]
  by_cases hg : g = 0
  · subst hg
    simp (contextual := true) (implicitDefEqProofs := false) (decide := true) (maxSteps := 1000000) only [go_sem, ro]
  · have hg1 : ¬ ((g : Int) = 0) := by omega
    have hg2 : ¬ (-(g : Int) = 0) := by omega
    by_cases hm : mn ⟨m0, -m1, m2, -m3⟩ < 0
    · simp (contextual := true) (implicitDefEqProofs := false) (decide := true) (maxSteps := 1000000) only [go_sem, hg, hg1, hg2, hmn, hm, hneg, q0, q1, q2, q3, hml, loop_eq, low]
      split <;> rfl
    · simp (contextual := true) (implicitDefEqProofs := false) (decide := true) (maxSteps := 1000000) only [go_sem, hg, hg1, hg2, hmn, hm, hneg, q0, q1, q2, q3, hml, loop_eq, low]
      split <;> rfl
