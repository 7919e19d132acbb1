import Derived.Test.YtjlebmnlphjjoaaGreatDoorQc
set_option linter.unusedVariables false
set_option linter.unusedSimpArgs false
/- Desks are copied; no condition. -/
open Go Go.Proofs.YtjlebmnlphjjoaaGreatDoor.Abs
namespace Go.Proofs.YtjlebmnlphjjoaaGreatDoor.Fx
set_option maxRecDepth 100000
set_option maxHeartbeats 4000000
set_option linter.unusedSimpArgs false
def cpS (k : Nat) (n : List Say) (D : List (List Say)) : Nat → K :=
  mkS [(2, [.p (.agg [.nls, .nls])]), (k, [.ag [.ms 5000003 0 0 n.length 3, .ms 10000003 0 0 D.length 1]]), (5000003, (n.map say).map .p), (10000003, (D.map row).map .p)]
theorem lp53 (n N) (hN : N.length ≤ room) (hR : ∀ r ∈ N, List.length r ≤ room) (b : AC) (hb : b = lb x53.1 0) : ∀ (l D : List (List Say)), D ++ l = N → D ≠ [] →
  CL E [2, 3, 12, 13, 14] [2, 3] b ⟨mkT [(2, .mp 2 0 0 0), (3, .mp 3 0 0 0), (12, .p (.ls 1 (N.map row))), (13, .p (.int .i64 N.length)), (14, .p (.int .i64 D.length))], cpS 3 n D⟩ = some (.ex 0, ⟨mkT [(2, .mp 2 0 0 0), (3, .mp 3 0 0 0)], cpS 3 n N⟩) := by
  simp only [x53, go_sem] at hb; subst hb
  unfold cpS
  intro l; induction l with
  | nil => 
    intro D hi hD; obtain rfl : D = N := by simpa using hi
    have h2 : ¬ ((D.length : Int) < D.length) := by omega
    rw [loop_eq]; simp (contextual := true) (implicitDefEqProofs := false) (decide := true) (maxSteps := 1000000) only [go_sem, h2]
  | cons a l ih =>
    intro D hi hD; obtain ⟨h1, h2, h3⟩ := appc hi
    have h5 : ((D.length : Int) < N.length) := by omega
    have h6 := w64s (n := D.length) (by unfold room at hN; omega)
    have h7 : D.length + 1 ≤ room := by omega
    have h8 : a.length ≤ room := hR a (List.mem_of_getElem? h2)
    have ih := ih _ h3 (by simp)
    simp (contextual := true) (implicitDefEqProofs := false) (decide := true) (maxSteps := 1000000) only [row, go_sem] at ih
    rw [loop_eq]; simp (contextual := true) (implicitDefEqProofs := false) (decide := true) (maxSteps := 1000000) only [go_sem, h2, h5, h6, row, h8, apK_grow, h7, ih]
@[go_sem] theorem e053 (n : List Say) (hn : n.length ≤ room) : CF E 53 [.p (.agg [.ls 3 (n.map say), .ls 1 []])] [] = some ⟨.ag [.ms 950 0 0 n.length 3, .p .nls], [], [(n.map say).map .p]⟩ := by
  rw [q53]; simp (contextual := true) (implicitDefEqProofs := false) (decide := true) (maxSteps := 1000000) only [x53, go_sem, hn, loop_eq]
theorem e153 (n : List Say) (N : List (List Say)) (h0 : N ≠ []) (hn : n.length ≤ room) (hN : N.length ≤ room) (hR : ∀ r ∈ N, List.length r ≤ room) : CF E 53 [.p (.agg [.ls 3 (n.map say), .ls 1 (N.map row)])] [] = some ⟨.ag [.ms 950 0 0 n.length 3, .ms 951 0 0 N.length 1], [], [(n.map say).map .p, (N.map row).map .p]⟩ := by
  cases N with
  | nil => exact absurd rfl h0
  | cons a l =>
    have L := lp53 n (a :: l) hN hR _ rfl l [a] rfl (by simp)
    unfold cpS at L
    have h8 : a.length ≤ room := hR a (by simp)
    have h1 : 1 ≤ room := by unfold room; omega
    have h2 : ((0 : Int) < (l.length + 1 : Nat)) := by omega
    simp (contextual := true) (implicitDefEqProofs := false) (decide := true) (maxSteps := 1000000) only [x53, row, go_sem] at L
    rw [q53]; simp (contextual := true) (implicitDefEqProofs := false) (decide := true) (maxSteps := 1000000) only [x53, go_sem, hn, row, h8, h1, h2, L]
    rw [loop_eq]
    simp (contextual := true) (implicitDefEqProofs := false) (decide := true) (maxSteps := 1000000) only [x53, go_sem, hn, row, h8, h1, h2, L]
