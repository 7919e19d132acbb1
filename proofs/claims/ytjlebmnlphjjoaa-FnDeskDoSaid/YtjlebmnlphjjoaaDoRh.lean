import Derived.Test.YtjlebmnlphjjoaaDoRg
set_option linter.unusedVariables false
set_option linter.unusedSimpArgs false
/- Corners of what sentences allow, and the numbers, as the program reckons them; no condition. -/
open Go Go.Proofs.Ytjlebmnlphjjoaa.Abs
namespace Go.Proofs.Ytjlebmnlphjjoaa.Fx
set_option maxRecDepth 100000
set_option maxHeartbeats 8000000
set_option linter.unusedSimpArgs false
theorem e67 (o : List R4) (ho : o.length ≤ room) : CF E 67 [.ms 900 0 0 o.length 1, .p (.fn 68 [] [])] [o.map r4] = some ⟨.p (.tup []), [(srt o).map r4], []⟩ := by
  rw [ext_eq rfl]
  have h : E.ext = extT := rfl
  rw [h]
  simp only [extT, if_true, List.length_map, un4s_map, ho, and_self]
theorem srt_len : ∀ l : List R4, (srt l).length = l.length := by
  have h : ∀ (x : R4) (l : List R4), (ins4 x l).length = l.length + 1 := by
    intro x l; induction l with
    | nil => rfl
    | cons y l ih => unfold ins4; split <;> simp [ih]
  intro l; induction l with
  | nil => rfl
  | cons x l ih => simp [srt, h, ih]
def units : List R4 := [⟨1, 0, 0, 0⟩, ⟨0, 1, 0, 0⟩, ⟨0, 0, 1, 0⟩, ⟨0, 0, 0, 1⟩]
/-- The rows of what sentences allow, but for those that some are. -/
def bnd (D : List Say) : List R4 := units ++ (D.filter fun s => decide (s.f ≠ 1)).map wts
theorem bnd_add (D : List Say) (s : Say) : bnd (D ++ [s]) = if s.f = 1 then bnd D else bnd D ++ [wts s] := by
  unfold bnd
  by_cases h : s.f = 1 <;> simp [List.filter_append, h]
theorem bnd_len (D : List Say) : (bnd D).length ≤ 4 + D.length := by
  unfold bnd units
  have := List.length_filter_le (fun s : Say => decide (s.f ≠ 1)) D
  simp at this ⊢; omega
theorem bnd_b (D : List Say) : ∀ w ∈ bnd D, Bd 1 w := by
  intro w hw
  unfold bnd at hw
  rw [List.mem_append] at hw
  rcases hw with hw | hw
  · simp only [units, List.mem_cons, List.mem_nil_iff, or_false] at hw
    rcases hw with rfl | rfl | rfl | rfl <;> exact ⟨by decide, by decide, by decide, by decide⟩
  · obtain ⟨s, _, rfl⟩ := List.mem_map.1 hw
    exact wts_b s
theorem lp056 (N : List Say) (hN : N.length ≤ 10) (hw : ∀ s ∈ N, wOk s = true) (b : AC) (hb : b = lb x56.1 0) : ∀ (l D : List Say), D ++ l = N →
  CL E [3, 19, 20, 21] [3] b ⟨mkT [(3, .ms 3003 0 0 (bnd D).length 1), (19, .p (.ls 3 (N.map say))), (20, .p (.int .i64 N.length)), (21, .p (.int .i64 D.length))], mkS [(3003, ((bnd D).map r4).map .p)]⟩ =
    some (.ex 0, ⟨mkT [(3, .ms 3003 0 0 (bnd N).length 1)], mkS [(3003, ((bnd N).map r4).map .p)]⟩) := by
  simp only [x56, go_sem] at hb; subst hb
  intro l; induction l with
  | nil => 
    intro D hj
    obtain rfl : D = N := by simpa using hj
    have h2 : ¬ ((D.length : Int) < D.length) := by omega
    rw [loop_eq]; simp (contextual := true) (implicitDefEqProofs := false) (decide := true) (maxSteps := 1000000) only [go_sem, h2]
  | cons s l ih =>
    intro D hj; obtain ⟨h1, h2, h3⟩ := appc hj
    have h6 : ((D.length : Int) < N.length) := by omega
    have h7 := w64s (n := D.length) (by omega)
    have hs := hw s (List.mem_of_getElem? h2)
    have h8 := bnd_len D
    have h9 : (bnd D).length + 1 ≤ room := room_ge (by omega)
    have ih := ih (D ++ [s]) h3
    rw [bnd_add] at ih
    by_cases h : s.f = 1
    · rw [if_pos h] at ih
      simp (contextual := true) (implicitDefEqProofs := false) (decide := true) (maxSteps := 1000000) only [r4, wts, go_sem] at ih
      rw [loop_eq]; simp (contextual := true) (implicitDefEqProofs := false) (decide := true) (maxSteps := 1000000) only [go_sem, say, h2, h6, h7, h, ih]
    · rw [if_neg h] at ih
      simp (contextual := true) (implicitDefEqProofs := false) (decide := true) (maxSteps := 1000000) only [r4, wts, go_sem] at ih
      rw [loop_eq]; simp (contextual := true) (implicitDefEqProofs := false) (decide := true) (maxSteps := 1000000) only [go_sem, say, h2, h6, h7, h, hs, h9, apK_grow, ih]
theorem f1_len (B : List R4) : ∀ (l D o : List R4), (f1 B D l o).length ≤ o.length + l.length * ((D.length + l.length) * (D.length + l.length))
  | [], D, o => by simp [f1]
  | x :: l, D, o => by
    have h1 := f1_len B l (D ++ [x]) (f2 B x [] D o)
    have h2 := f2_len B x D [] o
    simp only [f1, List.length_cons, List.length_append, List.length_nil] at h1 h2 ⊢
    have e1 : D.length + (0 + 1) + l.length = D.length + (l.length + 1) := by omega
    rw [e1] at h1
    have e2 : D.length * (0 + D.length) ≤ (D.length + (l.length + 1)) * (D.length + (l.length + 1)) := Nat.mul_le_mul (by omega) (by omega)
    rw [Nat.add_mul, Nat.one_mul]
    omega
def corners (N : List Say) : List R4 := srt (f1 (bnd N) [] (bnd N) [])
theorem e56 (N : List Say) (hN : N.length ≤ 10) (hw : ∀ s ∈ N, wOk s = true) : CF E 56 [.p (.ls 3 (N.map say))] [] = some ⟨.p (.ls 1 ((corners N).map r4)), [], []⟩ := by
  have L0 := lp056 N hN hw _ rfl N [] rfl
  have hB := bnd_len N
  have L1 := lp156 (bnd N) (by omega) (bnd_b N) _ rfl (bnd N) [] [] rfl (by simp; omega)
  have hfl := f1_len (bnd N) (bnd N) [] []
  have hfm : (bnd N).length * ((0 + (bnd N).length) * (0 + (bnd N).length)) ≤ 14 * (14 * 14) := Nat.mul_le_mul (by omega) (Nat.mul_le_mul (by omega) (by omega))
  have hS := e67 (f1 (bnd N) [] (bnd N) []) (by unfold room; simp only [List.length_nil] at hfl; omega)
  clear hfl hfm
  have hu : bnd [] = units := by simp [bnd]
  have hl := srt_len (f1 (bnd N) [] (bnd N) [])
  have hc : corners N = srt (f1 (bnd N) [] (bnd N) []) := rfl
  have hcl : (List.map r4 (corners N)).length = (f1 (bnd N) [] (bnd N) []).length := by rw [List.length_map, hc, hl]
  rw [← hc] at hS
  rw [hu] at L0
  generalize f1 (bnd N) [] (bnd N) [] = o at *
  generalize bnd N = B at *
  simp (contextual := true) (implicitDefEqProofs := false) (decide := true) (maxSteps := 1000000) only [x56, units, r4, go_sem] at L0 L1
  rw [q56]; simp (contextual := true) (implicitDefEqProofs := false) (decide := true) (maxSteps := 1000000) only [x56, go_sem, L0, L1, hS, hcl]
