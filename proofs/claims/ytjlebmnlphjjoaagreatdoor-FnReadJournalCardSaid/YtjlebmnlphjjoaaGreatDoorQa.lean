import Derived.Test.YtjlebmnlphjjoaaGreatDoorMd
set_option linter.unusedVariables false
set_option linter.unusedSimpArgs false
/- Desks: which are valid; no condition. -/
open Go Go.Proofs.YtjlebmnlphjjoaaGreatDoor.Abs
namespace Go.Proofs.YtjlebmnlphjjoaaGreatDoor.Fx
set_option maxRecDepth 100000
set_option maxHeartbeats 4000000
set_option linter.unusedSimpArgs false
attribute [go_sem high] eq_say
@[go_sem] theorem e105 (s : Say) : CF E 105 [.p (.agg [.int .i64 s.f, .int .i64 s.o, .int .i64 s.t])] [] = some ⟨.p (.bool (wOk s)), [], []⟩ := by
  rw [q105]; simp (contextual := true) (implicitDefEqProofs := false) (decide := true) (maxSteps := 1000000) only [x105, go_sem]
  unfold wOk
  repeat' split
  all_goals (simp_all; try (intros; omega))
theorem lp132 (N : List Say) (s : Say) (hN : N.length ≤ room) (b : AC) (hb : b = lb x132.1 0) : ∀ (l : List Say) (i : Nat), N.drop i = l →
   CL E [0, 3, 7, 8] [4] b ⟨mkT [(0, .p (.ls 3 (N.map say))), (3, .mp 3 0 0 0), (7, .p (.int .i64 N.length)), (8, .p (.int .i64 i))], mkS [(3, [.p (.agg [.int .i64 s.f, .int .i64 s.o, .int .i64 s.t])])]⟩ =
    bif l.contains s then some (.ret, ⟨mkT [(4, .p (.int .i64 (pos s l i)))], mkS []⟩) else some (.ex 0, ⟨mkT [(4, .un)], mkS []⟩) := by
  simp only [x132, go_sem] at hb; subst hb
  intro l; induction l with
  | nil => 
    intro i hi; have h1 := dropn hi
    have h2 : ¬ ((i : Int) < N.length) := by omega
    rw [loop_eq]; simp (contextual := true) (implicitDefEqProofs := false) (decide := true) (maxSteps := 1000000) only [go_sem, h2]
  | cons a l ih =>
    intro i hi; obtain ⟨h1, h2, h3, h4⟩ := dropc hi
    have h5 : ((i : Int) < N.length) := by omega
    have h6 := w64s (n := i) (by unfold room at hN; omega)
    rw [loop_eq]; simp (contextual := true) (implicitDefEqProofs := false) (decide := true) (maxSteps := 1000000) only [go_sem, h2, h5, h6, say, ih _ h3]
    by_cases h7 : s = a <;> simp [h7, pos]
@[go_sem] theorem e106 (N : List Say) (s : Say) (hN : N.length ≤ room) : CF E 106 [.p (.ls 3 (N.map say)), .p (.agg [.int .i64 s.f, .int .i64 s.o, .int .i64 s.t])] [] = some ⟨.p (.bool (N.contains s)), [], []⟩ := by
  have e : CF E 132 [.p (.ls 3 (N.map say)), .p (.agg [.int .i64 s.f, .int .i64 s.o, .int .i64 s.t])] [] = some ⟨.p (.int .i64 (pos s N 0)), [], []⟩ := by
    have L := lp132 N s hN _ rfl N 0 rfl
    simp (contextual := true) (implicitDefEqProofs := false) (decide := true) (maxSteps := 1000000) only [x132, go_sem] at L
    rw [q132]; simp (contextual := true) (implicitDefEqProofs := false) (decide := true) (maxSteps := 1000000) only [x132, go_sem, L]
    have h := pos_lt s N 0 (by decide)
    split
    · rfl
    · rename_i h1
      simp only [h1] at h
      have : ∀ (l : List Say) (i : Int), l.contains s = false → pos s l i = -1 := by
        intro l; induction l with
        | nil => intros; rfl
        | cons a l ih => intro i hc; simp at hc; unfold pos; rw [if_neg hc.1, ih]; simpa using hc.2
      rw [this N 0 (by simpa using h1)]
  have h := pos_lt s N 0 (by decide)
  rw [q106]; simp (contextual := true) (implicitDefEqProofs := false) (decide := true) (maxSteps := 1000000) only [x106, go_sem, e, h]
theorem lp84 (N : List Say) (hN : N.length ≤ room) (b : AC) (hb : b = lb x84.1 0) : ∀ (l : List Say) (i : Nat), N.drop i = l →
   CL E [0, 5, 6, 7] [0, 2] b ⟨mkT [(0, .p (.ls 3 (N.map say))), (5, .p (.ls 3 (N.map say))), (6, .p (.int .i64 N.length)), (7, .p (.int .i64 i))], mkS []⟩ =
    bif nowOk (N.take i) l then some (.ex 0, ⟨mkT [(0, .p (.ls 3 (N.map say))), (2, .un)], mkS []⟩) else some (.ret, ⟨mkT [(0, .p (.ls 3 (N.map say))), (2, .p (.bool false))], mkS []⟩) := by
  simp only [x84, go_sem] at hb; subst hb
  intro l; induction l with
  | nil => 
    intro i hi; have h1 := dropn hi
    have h2 : ¬ ((i : Int) < N.length) := by omega
    rw [loop_eq]; simp (contextual := true) (implicitDefEqProofs := false) (decide := true) (maxSteps := 1000000) only [go_sem, h2, nowOk]
  | cons a l ih =>
    intro i hi; obtain ⟨h1, h2, h3, h4⟩ := dropc hi
    have h5 : ((i : Int) < N.length) := by omega
    have h6 := w64s (n := i) (by unfold room at hN; omega)
    have h7 : (N.map say).take i = (N.take i).map say := by simp
    have h8 : (N.take i).length ≤ room := by simp; omega
    have h9 : ((i : Int) ≤ N.length) := by omega
    rw [loop_eq]; simp (contextual := true) (implicitDefEqProofs := false) (decide := true) (maxSteps := 1000000) only [go_sem, h2, h5, h6, h7, h8, h9, say, ih _ h3]
    cases c1 : wOk a <;> cases c2 : (N.take i).contains a <;> simp only [nowOk, c1, c2, h4, go_sem]
@[go_sem] theorem e84 (N : List Say) (hN : N.length ≤ room) : CF E 84 [.p (.ls 3 (N.map say))] [] = some ⟨.p (.bool (rowOk N)), [], []⟩ := by
  have L := lp84 N hN _ rfl N 0 rfl
  simp (contextual := true) (implicitDefEqProofs := false) (decide := true) (maxSteps := 1000000) only [x84, go_sem] at L
  rw [q84]; simp (contextual := true) (implicitDefEqProofs := false) (decide := true) (maxSteps := 1000000) only [x84, go_sem, L]
  have : rowOk N = (nowOk [] N && decide (N.length < 6)) := rfl
  cases c1 : nowOk [] N <;> simp [this, c1] <;> omega
@[go_sem] theorem e86 (N : List Say) (hN : N.length ≤ room) : CF E 86 [.p (.ls 3 (N.map say))] [] = some ⟨.p (.bool !(rowOk N)), [], []⟩ := by
  rw [q86]; simp (contextual := true) (implicitDefEqProofs := false) (decide := true) (maxSteps := 1000000) only [x86, go_sem, hN]
theorem lp107 (N : List (List Say)) (hN : N.length ≤ room) (hR : ∀ r ∈ N, r.length ≤ room) (b : AC) (hb : b = lb x107.1 0) : ∀ (l : List (List Say)) (i : Nat), N.drop i = l →
   CL E [0, 1, 7, 8] [4] b ⟨mkT [(0, .p (.ls 1 (N.map row))), (1, .p (.fn 86 [] [])), (7, .p (.int .i64 N.length)), (8, .p (.int .i64 i))], mkS []⟩ =
    bif l.any (fun r => !rowOk r) then some (.ret, ⟨mkT [(4, .p (.int .i64 (find (fun r => !rowOk r) l i)))], mkS []⟩) else some (.ex 0, ⟨mkT [(4, .un)], mkS []⟩) := by
  simp only [x107, go_sem] at hb; subst hb
  intro l; induction l with
  | nil => 
    intro i hi; have h1 := dropn hi
    have h2 : ¬ ((i : Int) < N.length) := by omega
    rw [loop_eq]; simp (contextual := true) (implicitDefEqProofs := false) (decide := true) (maxSteps := 1000000) only [go_sem, h2]
  | cons a l ih =>
    intro i hi; obtain ⟨h1, h2, h3, h4⟩ := dropc hi
    have h5 : ((i : Int) < N.length) := by omega
    have h6 := w64s (n := i) (by unfold room at hN; omega)
    have h7 : a.length ≤ room := hR a (List.mem_of_getElem? h2)
    rw [loop_eq]; simp (contextual := true) (implicitDefEqProofs := false) (decide := true) (maxSteps := 1000000) only [go_sem, h2, h5, h6, row, h7, ih _ h3]
    cases c1 : rowOk a <;> simp [find, c1]
@[go_sem] theorem e85 (N : List (List Say)) (hN : N.length ≤ room) (hR : ∀ r ∈ N, r.length ≤ room) : CF E 85 [.p (.ls 1 (N.map row)), .p (.fn 86 [] [])] [] = some ⟨.p (.bool (N.any fun r => !rowOk r)), [], []⟩ := by
  have L := lp107 N hN hR _ rfl N 0 rfl
  simp (contextual := true) (implicitDefEqProofs := false) (decide := true) (maxSteps := 1000000) only [x107, go_sem] at L
  have h := find_lt (fun r => !rowOk r) N 0 (by decide)
  rw [q85]; simp (contextual := true) (implicitDefEqProofs := false) (decide := true) (maxSteps := 1000000) only [x85, go_sem, q107, x107, L]
  cases c1 : N.any (fun r => !rowOk r) <;> simp [c1] at h ⊢
  all_goals omega
