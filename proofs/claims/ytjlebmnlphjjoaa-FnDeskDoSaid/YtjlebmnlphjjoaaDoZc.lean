import Derived.Test.YtjlebmnlphjjoaaDoRh
set_option linter.unusedVariables false
set_option linter.unusedSimpArgs false
/- Rows of numbers are compared (told over the table without outside functions); no condition. -/
open Go Go.Proofs.Ytjlebmnlphjjoaa.Abs
namespace Go.Proofs.Ytjlebmnlphjjoaa.Fx
set_option maxRecDepth 100000
set_option maxHeartbeats 8000000
set_option linter.unusedSimpArgs false
def E0 : Env := { fn := fnT, mode := modeT, ext := fun _ _ _ => none }
theorem q0_68 (vs : List AV) (bs : List (List PV)) : CF E0 68 vs bs = if vs.length = x68.1.np then finK x68.1 bs.length (exec E0 (CF E0) (CL E0) x68.1.code (enter vs bs)) else none := fn_eq rfl vs bs
theorem q0_76 (vs : List AV) (bs : List (List PV)) : CF E0 76 vs bs = if vs.length = x76.1.np then finK x76.1 bs.length (exec E0 (CF E0) (CL E0) x76.1.code (enter vs bs)) else none := fn_eq rfl vs bs
theorem q0_88 (vs : List AV) (bs : List (List PV)) : CF E0 88 vs bs = if vs.length = x88.1.np then finK x88.1 bs.length (exec E0 (CF E0) (CL E0) x88.1.code (enter vs bs)) else none := fn_eq rfl vs bs
theorem m0_76 : E0.mode 76 = .borrow := rfl
theorem m0_88 : E0.mode 88 = .borrow := rfl
theorem n0_88 (n : Int) : CF E0 88 [.p (.int .i64 n)] [] = some ⟨.p (.bool false), [], []⟩ := by
  rw [q0_88]; simp (contextual := true) (implicitDefEqProofs := false) (decide := true) (maxSteps := 1000000) only [x88, go_sem]
def cmp1 (x y : Int) : Int := if x < y then -1 else if x > y then 1 else 0
theorem n0_76 (x y : Int) : CF E0 76 [.p (.int .i64 x), .p (.int .i64 y)] [] = some ⟨.p (.int .i64 (cmp1 x y)), [], []⟩ := by
  rw [q0_76]; simp (contextual := true) (implicitDefEqProofs := false) (decide := true) (maxSteps := 1000000) only [x76, go_sem, n0_88, m0_88]
  unfold cmp1
  repeat' split
  all_goals rfl
theorem cmp1_0 {x y : Int} : cmp1 x y = 0 ↔ x = y := by
  unfold cmp1; split
  · constructor <;> intro <;> omega
  · split <;> constructor <;> intro <;> omega
theorem cmp4_eq (x y : R4) : cmp4 x y = if cmp1 x.a y.a ≠ 0 then cmp1 x.a y.a else if cmp1 x.b y.b ≠ 0 then cmp1 x.b y.b else if cmp1 x.c y.c ≠ 0 then cmp1 x.c y.c else if cmp1 x.d y.d ≠ 0 then cmp1 x.d y.d else 0 := by
  unfold cmp4 cmp1
  repeat' split
  all_goals first | rfl | omega
theorem n0_68 (x y : R4) : CF E0 68 [.p (r4 x), .p (r4 y)] [] = some ⟨.p (.int .i64 (cmp4 x y)), [], []⟩ := by
  rw [cmp4_eq]
  by_cases h1 : cmp1 x.a y.a = 0
  · by_cases h2 : cmp1 x.b y.b = 0
    · by_cases h3 : cmp1 x.c y.c = 0
      · by_cases h4 : cmp1 x.d y.d = 0
        · rw [q0_68]; simp (contextual := true) (implicitDefEqProofs := false) (decide := true) (maxSteps := 1000000) only [x68, go_sem, r4, n0_76, m0_76, loop_eq, h1, h2, h3, h4]
        · rw [q0_68]; simp (contextual := true) (implicitDefEqProofs := false) (decide := true) (maxSteps := 1000000) only [x68, go_sem, r4, n0_76, m0_76, loop_eq, h1, h2, h3, h4]
      · rw [q0_68]; simp (contextual := true) (implicitDefEqProofs := false) (decide := true) (maxSteps := 1000000) only [x68, go_sem, r4, n0_76, m0_76, loop_eq, h1, h2, h3]
    · rw [q0_68]; simp (contextual := true) (implicitDefEqProofs := false) (decide := true) (maxSteps := 1000000) only [x68, go_sem, r4, n0_76, m0_76, loop_eq, h1, h2]
  · rw [q0_68]; simp (contextual := true) (implicitDefEqProofs := false) (decide := true) (maxSteps := 1000000) only [x68, go_sem, r4, n0_76, m0_76, loop_eq, h1]
theorem E0_ok : EOk Try.prog E0 := ⟨by kernel_rfl, fun f af h => tbl_ok (f, af) (look_mem h), fun _ _ _ _ _ h => by cases h⟩
end Go.Proofs.Ytjlebmnlphjjoaa.Fx
