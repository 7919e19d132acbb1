import Derived.Test.YtjlebmnlphjjoaaGreatDoorQf
set_option linter.unusedVariables false
set_option linter.unusedSimpArgs false
/- Whether desks are the same, and the program's DeskDo; no condition. -/
open Go Go.Proofs.YtjlebmnlphjjoaaGreatDoor.Abs
namespace Go.Proofs.YtjlebmnlphjjoaaGreatDoor.Fx
set_option maxRecDepth 100000
set_option maxHeartbeats 8000000
set_option linter.unusedSimpArgs false
theorem lp55 (M N : List Say) (hl : M.length = N.length) (hM : M.length ≤ room) (b : AC) (hb : b = lb x55.1 0) : ∀ (l k : List Say) (i : Nat), M.drop i = l → N.drop i = k →
  CL E [0, 1, 5] [4] b ⟨mkT [(0, .p (.ls 3 (M.map say))), (1, .p (.ls 3 (N.map say))), (5, .p (.int .i64 i))], mkS []⟩ =
    bif decide (l = k) then some (.ex 0, ⟨mkT [(4, .un)], mkS []⟩) else some (.ret, ⟨mkT [(4, .p (.bool false))], mkS []⟩) := by
  simp only [x55, go_sem] at hb; subst hb
  intro l; induction l with
  | nil =>
    intro k i hi hk
    have h1 := dropn hi
    have h2 : ¬ ((i : Int) < M.length) := by omega
    have h3 : k = [] := by rw [← hk]; exact List.drop_eq_nil_of_le (by omega)
    subst h3
    rw [loop_eq]; simp (contextual := true) (implicitDefEqProofs := false) (decide := true) (maxSteps := 1000000) only [go_sem, h2]
  | cons a l ih =>
    intro k i hi hk
    obtain ⟨h1, h2, h3, h4⟩ := dropc hi
    have h5 : ((i : Int) < M.length) := by omega
    have h5' : ((i : Int) < N.length) := by omega
    have h6 := w64s (n := i) (by unfold room at hM; omega)
    cases k with
    | nil => have := dropn hk; omega
    | cons c k =>
      obtain ⟨k1, k2, k3, k4⟩ := dropc hk
      rw [loop_eq]; simp (contextual := true) (implicitDefEqProofs := false) (decide := true) (maxSteps := 1000000) only [go_sem, h2, k2, h5, h5', h6, say, ih _ _ h3 k3]
      by_cases h7 : a = c
      · subst h7; simp
      · simp [h7]
@[go_sem] theorem e55 (M N : List Say) (hM : M.length ≤ room) (hN : N.length ≤ room) : CF E 55 [.p (.ls 3 (M.map say)), .p (.ls 3 (N.map say))] [] = some ⟨.p (.bool (decide (M = N))), [], []⟩ := by
  by_cases hl : M.length = N.length
  · have L := lp55 M N hl hM _ rfl M N 0 rfl rfl
    have h1 : ((M.length : Int) = N.length) := by omega
    by_cases h : M = N
    · subst h; simp (contextual := true) (implicitDefEqProofs := false) (decide := true) (maxSteps := 1000000) only [x55, go_sem] at L; rw [q55]; simp (contextual := true) (implicitDefEqProofs := false) (decide := true) (maxSteps := 1000000) only [x55, go_sem, L]
    · simp (contextual := true) (implicitDefEqProofs := false) (decide := true) (maxSteps := 1000000) only [x55, go_sem, h] at L; rw [q55]; simp (contextual := true) (implicitDefEqProofs := false) (decide := true) (maxSteps := 1000000) only [x55, go_sem, h1, h, L]
  · have h1 : ¬ ((M.length : Int) = N.length) := by omega
    have h2 : ¬ M = N := fun h => hl (by rw [h])
    rw [q55]; simp (contextual := true) (implicitDefEqProofs := false) (decide := true) (maxSteps := 1000000) only [x55, go_sem, h1, h2]
theorem lp18 (d e : Desk) (hd : Sz d) (he : Sz e) (hl : d.past.length = e.past.length) (b : AC) (hb : b = lb x18.1 0) : ∀ (l k : List (List Say)) (i : Nat), d.past.drop i = l → e.past.drop i = k →
  CL E [2, 3, 5] [2, 3, 4] b ⟨mkT [(2, .mp 2 0 0 0), (3, .mp 3 0 0 0), (5, .p (.int .i64 i))], mkS [(2, [.p (.agg [.ls 3 (d.now.map say), .ls 1 (d.past.map row)])]), (3, [.p (.agg [.ls 3 (e.now.map say), .ls 1 (e.past.map row)])])]⟩ =
    bif decide (l = k) then some (.ex 0, ⟨mkT [(2, .mp 2 0 0 0), (3, .mp 3 0 0 0), (4, .un)], mkS [(2, [.p (.agg [.ls 3 (d.now.map say), .ls 1 (d.past.map row)])]), (3, [.p (.agg [.ls 3 (e.now.map say), .ls 1 (e.past.map row)])])]⟩) else some (.ret, ⟨mkT [(2, .mp 2 0 0 0), (3, .mp 3 0 0 0), (4, .p (.bool false))], mkS [(2, [.p (.agg [.ls 3 (d.now.map say), .ls 1 (d.past.map row)])]), (3, [.p (.agg [.ls 3 (e.now.map say), .ls 1 (e.past.map row)])])]⟩) := by
  simp only [x18, go_sem] at hb; subst hb
  obtain ⟨d1, d2, d3⟩ := hd
  obtain ⟨e1, e2, e3⟩ := he
  intro l; induction l with
  | nil =>
    intro k i hi hk
    have h1 := dropn hi
    have h2 : ¬ ((i : Int) < d.past.length) := by omega
    have h3 : k = [] := by rw [← hk]; exact List.drop_eq_nil_of_le (by omega)
    subst h3
    rw [loop_eq]; simp (contextual := true) (implicitDefEqProofs := false) (decide := true) (maxSteps := 1000000) only [go_sem, h2]
  | cons a l ih =>
    intro k i hi hk
    obtain ⟨h1, h2, h3, h4⟩ := dropc hi
    have h5 : ((i : Int) < d.past.length) := by omega
    have h5' : ((i : Int) < e.past.length) := by omega
    have h6 := w64s (n := i) (by unfold room at d2; omega)
    cases k with
    | nil => have := dropn hk; omega
    | cons c k =>
      obtain ⟨k1, k2, k3, k4⟩ := dropc hk
      have h7 := d3 a (List.mem_of_getElem? h2)
      have h8 := e3 c (List.mem_of_getElem? k2)
      rw [loop_eq]; simp (contextual := true) (implicitDefEqProofs := false) (decide := true) (maxSteps := 1000000) only [go_sem, h2, k2, h5, h5', h6, h7, h8, row, ih _ _ h3 k3]
      by_cases h9 : a = c
      · subst h9; simp
      · simp [h9]
theorem Desk_eq (d e : Desk) : (d = e) = (d.past = e.past ∧ d.now = e.now) := by cases d; cases e; simp [and_comm]
@[go_sem] theorem e18 (d e : Desk) (hd : Sz d) (he : Sz e) : CF E 18 [.p (.agg [.ls 3 (d.now.map say), .ls 1 (d.past.map row)]), .p (.agg [.ls 3 (e.now.map say), .ls 1 (e.past.map row)])] [] = some ⟨.p (.bool (decide (d = e))), [], []⟩ := by
  by_cases hl : d.past.length = e.past.length
  · have L := lp18 d e hd he hl _ rfl d.past e.past 0 rfl rfl
    have h1 : ((d.past.length : Int) = e.past.length) := by omega
    by_cases h : d.past = e.past
    · simp (contextual := true) (implicitDefEqProofs := false) (decide := true) (maxSteps := 1000000) only [x18, go_sem, h] at L; rw [q18]; simp (contextual := true) (implicitDefEqProofs := false) (decide := true) (maxSteps := 1000000) only [x18, go_sem, h, hd.1, he.1, L, Desk_eq]
    · simp (contextual := true) (implicitDefEqProofs := false) (decide := true) (maxSteps := 1000000) only [x18, go_sem, h] at L; rw [q18]; simp (contextual := true) (implicitDefEqProofs := false) (decide := true) (maxSteps := 1000000) only [x18, go_sem, h1, h, L, Desk_eq]
  · have h1 : ¬ ((d.past.length : Int) = e.past.length) := by omega
    have h2 : ¬ d.past = e.past := fun h => hl (by rw [h])
    rw [q18]; simp (contextual := true) (implicitDefEqProofs := false) (decide := true) (maxSteps := 1000000) only [x18, go_sem, h1, h2, Desk_eq]
@[go_sem] theorem e19 : CF E 19 [] [] = some ⟨.p (.bool true), [], []⟩ := by
  rw [q19]; simp (contextual := true) (implicitDefEqProofs := false) (decide := true) (maxSteps := 1000000) only [x19, go_sem, q56, x56, q92, x92]
def none0 : Desk := ⟨[], []⟩
/-- What the program's DeskDo answers. -/
def doD (d : Desk) (a : Deed) : Desk := if deskOk d = true then (deskDo d a).getD d else none0
def doB (d : Desk) (a : Deed) : Bool := deskOk d && (deskDo d a).isSome
end Go.Proofs.YtjlebmnlphjjoaaGreatDoor.Fx
