import Derived.Test.YtjlebmnlphjjoaaDoRb
set_option linter.unusedVariables false
set_option linter.unusedSimpArgs false
/- Determinants of three rows; no condition. -/
open Go Go.Proofs.Ytjlebmnlphjjoaa.Abs
namespace Go.Proofs.Ytjlebmnlphjjoaa.Fx
set_option maxRecDepth 100000
set_option maxHeartbeats 8000000
set_option linter.unusedSimpArgs false
def B1 (a : Int) : Prop := -1 ≤ a ∧ a ≤ 1
def det (a b c d e f g h i : Int) : Int := a * (e * i - f * h) - b * (d * i - f * g) + c * (d * h - e * g)
theorem mb11 {a b : Int} (h : B1 a) (k : B1 b) : -1 ≤ a * b ∧ a * b ≤ 1 := mulb (M := 1) h k
theorem mb12 {a p q : Int} (h : B1 a) (hp : -1 ≤ p ∧ p ≤ 1) (hq : -1 ≤ q ∧ q ≤ 1) : -2 ≤ a * (p - q) ∧ a * (p - q) ≤ 2 := by
  rw [Int.mul_comm]; exact mulb (M := 2) (by omega) h
theorem det_b {a b c d e f g h i : Int} (ha : B1 a) (hb : B1 b) (hc : B1 c) (hd : B1 d) (he : B1 e) (hf : B1 f) (hg : B1 g) (hh : B1 h) (hi : B1 i) : -6 ≤ det a b c d e f g h i ∧ det a b c d e f g h i ≤ 6 := by
  have q1 := mb12 ha (mb11 he hi) (mb11 hf hh)
  have q2 := mb12 hb (mb11 hd hi) (mb11 hf hg)
  have q3 := mb12 hc (mb11 hd hh) (mb11 he hg)
  unfold det; omega
theorem det_w {a b c d e f g h i : Int} (ha : B1 a) (hb : B1 b) (hc : B1 c) (hd : B1 d) (he : B1 e) (hf : B1 f) (hg : B1 g) (hh : B1 h) (hi : B1 i) :
  IntKind.wrap .i64 (IntKind.wrap .i64 (IntKind.wrap .i64 (a * IntKind.wrap .i64 (IntKind.wrap .i64 (e * i) - IntKind.wrap .i64 (f * h))) - IntKind.wrap .i64 (b * IntKind.wrap .i64 (IntKind.wrap .i64 (d * i) - IntKind.wrap .i64 (f * g)))) + IntKind.wrap .i64 (c * IntKind.wrap .i64 (IntKind.wrap .i64 (d * h) - IntKind.wrap .i64 (e * g)))) = det a b c d e f g h i := by
  have p1 := mb11 he hi
  have p2 := mb11 hf hh
  have p3 := mb11 hd hi
  have p4 := mb11 hf hg
  have p5 := mb11 hd hh
  have p6 := mb11 he hg
  have q1 := mb12 ha p1 p2
  have q2 := mb12 hb p3 p4
  have q3 := mb12 hc p5 p6
  unfold det
  generalize e * i = x1 at *
  generalize f * h = x2 at *
  generalize d * i = x3 at *
  generalize f * g = x4 at *
  generalize d * h = x5 at *
  generalize e * g = x6 at *
  rw [w64 (n := x1) (by omega) (by omega), w64 (n := x2) (by omega) (by omega), w64 (n := x3) (by omega) (by omega), w64 (n := x4) (by omega) (by omega), w64 (n := x5) (by omega) (by omega), w64 (n := x6) (by omega) (by omega), w64 (n := x1 - x2) (by omega) (by omega), w64 (n := x3 - x4) (by omega) (by omega), w64 (n := x5 - x6) (by omega) (by omega)]
  generalize a * (x1 - x2) = y1 at *
  generalize b * (x3 - x4) = y2 at *
  generalize c * (x5 - x6) = y3 at *
  rw [w64 (n := y1) (by omega) (by omega), w64 (n := y2) (by omega) (by omega), w64 (n := y3) (by omega) (by omega), w64 (n := y1 - y2) (by omega) (by omega), w64 (by omega) (by omega)]
def minor (x y z : R4) (k : Nat) : Int := match k with
  | 0 => det x.b x.c x.d y.b y.c y.d z.b z.c z.d
  | 1 => det x.a x.c x.d y.a y.c y.d z.a z.c z.d
  | 2 => det x.a x.b x.d y.a y.b y.d z.a z.b z.d
  | _ => det x.a x.b x.c y.a y.b y.c z.a z.b z.c
theorem minor0 (x y z : R4) (hx : Bd 1 x) (hy : Bd 1 y) (hz : Bd 1 z) : CF E 71 [.p (.agg [.ls 1 [.int .i64 x.a, .int .i64 x.b, .int .i64 x.c, .int .i64 x.d], .ls 1 [.int .i64 y.a, .int .i64 y.b, .int .i64 y.c, .int .i64 y.d], .ls 1 [.int .i64 z.a, .int .i64 z.b, .int .i64 z.c, .int .i64 z.d]]), .p (.int .i64 0)] [] = some ⟨.p (.int .i64 (minor x y z 0)), [], []⟩ := by
  obtain ⟨hxa, hxb, hxc, hxd⟩ := hx
  obtain ⟨hya, hyb, hyc, hyd⟩ := hy
  obtain ⟨hza, hzb, hzc, hzd⟩ := hz
  have h4 : 4 ≤ room := by decide
  have hdet := det_w hxb hxc hxd hyb hyc hyd hzb hzc hzd
  rw [q71]; simp (contextual := true) (implicitDefEqProofs := false) (decide := true) (maxSteps := 1000000) only [x71, go_sem, h4, q77, x77, apK_grow, apK_in]
  rw [loop_eq]; simp (contextual := true) (implicitDefEqProofs := false) (decide := true) (maxSteps := 1000000) only [go_sem, h4, q77, x77, apK_grow, apK_in]
  rw [loop_eq]; simp (contextual := true) (implicitDefEqProofs := false) (decide := true) (maxSteps := 1000000) only [go_sem, h4, q77, x77, apK_grow, apK_in]
  rw [loop_eq]; simp (contextual := true) (implicitDefEqProofs := false) (decide := true) (maxSteps := 1000000) only [go_sem, h4, q77, x77, apK_grow, apK_in]
  rw [loop_eq]; simp (contextual := true) (implicitDefEqProofs := false) (decide := true) (maxSteps := 1000000) only [go_sem, h4, q77, x77, apK_grow, apK_in, hdet, minor]
theorem minor1 (x y z : R4) (hx : Bd 1 x) (hy : Bd 1 y) (hz : Bd 1 z) : CF E 71 [.p (.agg [.ls 1 [.int .i64 x.a, .int .i64 x.b, .int .i64 x.c, .int .i64 x.d], .ls 1 [.int .i64 y.a, .int .i64 y.b, .int .i64 y.c, .int .i64 y.d], .ls 1 [.int .i64 z.a, .int .i64 z.b, .int .i64 z.c, .int .i64 z.d]]), .p (.int .i64 1)] [] = some ⟨.p (.int .i64 (minor x y z 1)), [], []⟩ := by
  obtain ⟨hxa, hxb, hxc, hxd⟩ := hx
  obtain ⟨hya, hyb, hyc, hyd⟩ := hy
  obtain ⟨hza, hzb, hzc, hzd⟩ := hz
  have h4 : 4 ≤ room := by decide
  have hdet := det_w hxa hxc hxd hya hyc hyd hza hzc hzd
  rw [q71]; simp (contextual := true) (implicitDefEqProofs := false) (decide := true) (maxSteps := 1000000) only [x71, go_sem, h4, q77, x77, apK_grow, apK_in]
  rw [loop_eq]; simp (contextual := true) (implicitDefEqProofs := false) (decide := true) (maxSteps := 1000000) only [go_sem, h4, q77, x77, apK_grow, apK_in]
  rw [loop_eq]; simp (contextual := true) (implicitDefEqProofs := false) (decide := true) (maxSteps := 1000000) only [go_sem, h4, q77, x77, apK_grow, apK_in]
  rw [loop_eq]; simp (contextual := true) (implicitDefEqProofs := false) (decide := true) (maxSteps := 1000000) only [go_sem, h4, q77, x77, apK_grow, apK_in]
  rw [loop_eq]; simp (contextual := true) (implicitDefEqProofs := false) (decide := true) (maxSteps := 1000000) only [go_sem, h4, q77, x77, apK_grow, apK_in, hdet, minor]
theorem minor2 (x y z : R4) (hx : Bd 1 x) (hy : Bd 1 y) (hz : Bd 1 z) : CF E 71 [.p (.agg [.ls 1 [.int .i64 x.a, .int .i64 x.b, .int .i64 x.c, .int .i64 x.d], .ls 1 [.int .i64 y.a, .int .i64 y.b, .int .i64 y.c, .int .i64 y.d], .ls 1 [.int .i64 z.a, .int .i64 z.b, .int .i64 z.c, .int .i64 z.d]]), .p (.int .i64 2)] [] = some ⟨.p (.int .i64 (minor x y z 2)), [], []⟩ := by
  obtain ⟨hxa, hxb, hxc, hxd⟩ := hx
  obtain ⟨hya, hyb, hyc, hyd⟩ := hy
  obtain ⟨hza, hzb, hzc, hzd⟩ := hz
  have h4 : 4 ≤ room := by decide
  have hdet := det_w hxa hxb hxd hya hyb hyd hza hzb hzd
  rw [q71]; simp (contextual := true) (implicitDefEqProofs := false) (decide := true) (maxSteps := 1000000) only [x71, go_sem, h4, q77, x77, apK_grow, apK_in]
  rw [loop_eq]; simp (contextual := true) (implicitDefEqProofs := false) (decide := true) (maxSteps := 1000000) only [go_sem, h4, q77, x77, apK_grow, apK_in]
  rw [loop_eq]; simp (contextual := true) (implicitDefEqProofs := false) (decide := true) (maxSteps := 1000000) only [go_sem, h4, q77, x77, apK_grow, apK_in]
  rw [loop_eq]; simp (contextual := true) (implicitDefEqProofs := false) (decide := true) (maxSteps := 1000000) only [go_sem, h4, q77, x77, apK_grow, apK_in]
  rw [loop_eq]; simp (contextual := true) (implicitDefEqProofs := false) (decide := true) (maxSteps := 1000000) only [go_sem, h4, q77, x77, apK_grow, apK_in, hdet, minor]
theorem minor3 (x y z : R4) (hx : Bd 1 x) (hy : Bd 1 y) (hz : Bd 1 z) : CF E 71 [.p (.agg [.ls 1 [.int .i64 x.a, .int .i64 x.b, .int .i64 x.c, .int .i64 x.d], .ls 1 [.int .i64 y.a, .int .i64 y.b, .int .i64 y.c, .int .i64 y.d], .ls 1 [.int .i64 z.a, .int .i64 z.b, .int .i64 z.c, .int .i64 z.d]]), .p (.int .i64 3)] [] = some ⟨.p (.int .i64 (minor x y z 3)), [], []⟩ := by
  obtain ⟨hxa, hxb, hxc, hxd⟩ := hx
  obtain ⟨hya, hyb, hyc, hyd⟩ := hy
  obtain ⟨hza, hzb, hzc, hzd⟩ := hz
  have h4 : 4 ≤ room := by decide
  have hdet := det_w hxa hxb hxc hya hyb hyc hza hzb hzc
  rw [q71]; simp (contextual := true) (implicitDefEqProofs := false) (decide := true) (maxSteps := 1000000) only [x71, go_sem, h4, q77, x77, apK_grow, apK_in]
  rw [loop_eq]; simp (contextual := true) (implicitDefEqProofs := false) (decide := true) (maxSteps := 1000000) only [go_sem, h4, q77, x77, apK_grow, apK_in]
  rw [loop_eq]; simp (contextual := true) (implicitDefEqProofs := false) (decide := true) (maxSteps := 1000000) only [go_sem, h4, q77, x77, apK_grow, apK_in]
  rw [loop_eq]; simp (contextual := true) (implicitDefEqProofs := false) (decide := true) (maxSteps := 1000000) only [go_sem, h4, q77, x77, apK_grow, apK_in]
  rw [loop_eq]; simp (contextual := true) (implicitDefEqProofs := false) (decide := true) (maxSteps := 1000000) only [go_sem, h4, q77, x77, apK_grow, apK_in, hdet, minor]
