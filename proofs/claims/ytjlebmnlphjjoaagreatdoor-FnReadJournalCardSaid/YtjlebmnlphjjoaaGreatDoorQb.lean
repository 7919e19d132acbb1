import Derived.Test.YtjlebmnlphjjoaaGreatDoorQa
set_option linter.unusedVariables false
set_option linter.unusedSimpArgs false
/- Desks: which are valid, told by both sides; no condition. -/
open Go Go.Proofs.YtjlebmnlphjjoaaGreatDoor.Abs
namespace Go.Proofs.YtjlebmnlphjjoaaGreatDoor.Fx
set_option maxRecDepth 100000
set_option maxHeartbeats 4000000
set_option linter.unusedSimpArgs false
def Sz (d : Desk) : Prop := d.now.length ≤ room ∧ d.past.length ≤ room ∧ ∀ r ∈ d.past, r.length ≤ room
@[go_sem] theorem e50 (d : Desk) (hd : Sz d) : CF E 50 [.p (.agg [.ls 3 (d.now.map say), .ls 1 (d.past.map row)])] [] = some ⟨.p (.bool (deskOk d)), [], []⟩ := by
  obtain ⟨h1, h2, h3⟩ := hd
  rw [q50]; simp (contextual := true) (implicitDefEqProofs := false) (decide := true) (maxSteps := 1000000) only [x50, go_sem, h1, e85 _ h2 h3]
  have : deskOk d = (rowOk d.now && decide (d.past.length ≤ 10) && d.past.all rowOk) := rfl
  have h4 : (d.past.any fun r => !rowOk r) = !d.past.all rowOk := by simp [List.all_eq_not_any_not]
  rw [this, h4]
  have h5 : ((d.past.length : Int) ≤ 10) = (d.past.length ≤ 10) := by simp; omega
  simp only [h5]
  cases rowOk d.now <;> cases d.past.all rowOk <;> by_cases c3 : d.past.length ≤ 10 <;> simp [c3]
@[go_sem] theorem e28 (d : Desk) (hd : Sz d) : CF E 28 [.p (.agg [.ls 3 (d.now.map say), .ls 1 (d.past.map row)])] [] = some ⟨.p (.bool (deskOk d)), [], []⟩ := by
  rw [q28]; simp (contextual := true) (implicitDefEqProofs := false) (decide := true) (maxSteps := 1000000) only [x28, go_sem, hd]
@[go_sem] theorem e93 (n a b : Int) : CF E 93 [.p (.int .i64 n), .p (.int .i64 a), .p (.int .i64 b)] [] = some ⟨.p (.bool (decide (n ≥ a ∧ n ≤ b))), [], []⟩ := by
  rw [q93]; simp (contextual := true) (implicitDefEqProofs := false) (decide := true) (maxSteps := 1000000) only [x93, go_sem]
  by_cases h1 : n ≥ a <;> by_cases h2 : n ≤ b <;> simp [h1, h2]
@[go_sem] theorem e83 (s : Say) : CF E 83 [.p (.agg [.int .i64 s.f, .int .i64 s.o, .int .i64 s.t])] [] = some ⟨.p (.bool (wOk s)), [], []⟩ := by
  rw [q83]; simp (contextual := true) (implicitDefEqProofs := false) (decide := true) (maxSteps := 1000000) only [x83, go_sem]
  unfold wOk
  repeat' split
  all_goals (simp_all; try (intros; omega))
theorem lp149 (N : List Say) (hN : N.length ≤ room) (b : AC) (hb : b = lb x49.1 1) (k : Nat) (a : Say) (hk : k < N.length) (ha : N[k]? = some a) : ∀ (l : List Say) (i : Nat), (N.take k).drop i = l →
   CL E [0, 3, 4] [0, 2, 3] b ⟨mkT [(0, .p (.ls 3 (N.map say))), (3, .p (.int .i64 k)), (4, .p (.int .i64 i))], mkS []⟩ =
    bif l.contains a then some (.ret, ⟨mkT [(0, .p (.ls 3 (N.map say))), (2, .p (.bool false)), (3, .p (.int .i64 k))], mkS []⟩) else some (.ex 2, ⟨mkT [(0, .p (.ls 3 (N.map say))), (2, .un), (3, .p (.int .i64 k))], mkS []⟩) := by
  simp only [x49, go_sem] at hb; subst hb
  intro l; induction l with
  | nil => 
    intro i hi; have h1 := dropn hi
    have h2 : ¬ ((i : Int) < k) := by simp at h1; omega
    rw [loop_eq]; simp (contextual := true) (implicitDefEqProofs := false) (decide := true) (maxSteps := 1000000) only [go_sem, h2]
  | cons c l ih =>
    intro i hi; obtain ⟨h1, h2, h3, h4⟩ := dropc hi
    have h0 : i < k := by simp at h1; omega
    have h5 : ((i : Int) < k) := by omega
    have h6 := w64s (n := i) (by unfold room at hN; omega)
    have h7 : N[i]? = some c := by rw [List.getElem?_take_of_lt h0] at h2; exact h2
    rw [loop_eq]; simp (contextual := true) (implicitDefEqProofs := false) (decide := true) (maxSteps := 1000000) only [go_sem, h7, h5, h6, say, ha, ih _ h3]
    by_cases c1 : c = a
    · subst c1; simp
    · have c2 : ¬ a = c := fun h => c1 h.symm
      simp [c1, c2]
theorem lp49 (N : List Say) (hN : N.length ≤ room) (b : AC) (hb : b = lb x49.1 0) : ∀ (l : List Say) (i : Nat), N.drop i = l →
   CL E [0, 3] [0, 2] b ⟨mkT [(0, .p (.ls 3 (N.map say))), (3, .p (.int .i64 i))], mkS []⟩ =
    bif nowOk (N.take i) l then some (.ex 0, ⟨mkT [(0, .p (.ls 3 (N.map say))), (2, .un)], mkS []⟩) else some (.ret, ⟨mkT [(0, .p (.ls 3 (N.map say))), (2, .p (.bool false))], mkS []⟩) := by
  have L := lp149 N hN _ rfl
  simp only [x49, go_sem] at hb L; subst hb
  intro l; induction l with
  | nil => 
    intro i hi; have h1 := dropn hi
    have h2 : ¬ ((i : Int) < N.length) := by omega
    rw [loop_eq]; simp (contextual := true) (implicitDefEqProofs := false) (decide := true) (maxSteps := 1000000) only [go_sem, h2, nowOk]
  | cons a l ih =>
    intro i hi; obtain ⟨h1, h2, h3, h4⟩ := dropc hi
    have h5 : ((i : Int) < N.length) := by omega
    have h6 := w64s (n := i) (by unfold room at hN; omega)
    have L := L i a h1 h2 (N.take i) 0 rfl
    simp (contextual := true) (implicitDefEqProofs := false) (decide := true) (maxSteps := 1000000) only [go_sem] at L
    rw [loop_eq]; simp (contextual := true) (implicitDefEqProofs := false) (decide := true) (maxSteps := 1000000) only [go_sem, h2, h5, h6, say, L, ih _ h3]
    cases c1 : wOk a <;> cases c2 : (N.take i).contains a <;> simp only [nowOk, c1, c2, h4, go_sem]
@[go_sem] theorem e49 (N : List Say) (hN : N.length ≤ room) : CF E 49 [.p (.ls 3 (N.map say))] [] = some ⟨.p (.bool (rowOk N)), [], []⟩ := by
  have L := lp49 N hN _ rfl N 0 rfl
  simp (contextual := true) (implicitDefEqProofs := false) (decide := true) (maxSteps := 1000000) only [x49, go_sem] at L
  rw [q49]; simp (contextual := true) (implicitDefEqProofs := false) (decide := true) (maxSteps := 1000000) only [x49, go_sem, L]
  have : rowOk N = (nowOk [] N && decide (N.length < 6)) := rfl
  cases c1 : nowOk [] N <;> simp [this, c1] <;> omega
theorem lp13 (d : Desk) (hd : Sz d) (b : AC) (hb : b = lb x13.1 0) : ∀ (l : List (List Say)) (i : Nat), d.past.drop i = l →
   CL E [1, 3] [1, 2] b ⟨mkT [(1, .mp 1 0 0 0), (3, .p (.int .i64 i))], mkS [(1, [.p (.agg [.ls 3 (d.now.map say), .ls 1 (d.past.map row)])])]⟩ =
    bif l.all rowOk then some (.ex 0, ⟨mkT [(1, .mp 1 0 0 0), (2, .un)], mkS [(1, [.p (.agg [.ls 3 (d.now.map say), .ls 1 (d.past.map row)])])]⟩) else some (.ret, ⟨mkT [(1, .mp 1 0 0 0), (2, .p (.bool false))], mkS [(1, [.p (.agg [.ls 3 (d.now.map say), .ls 1 (d.past.map row)])])]⟩) := by
  simp only [x13, go_sem] at hb; subst hb
  obtain ⟨hn, hp, hR⟩ := hd
  intro l; induction l with
  | nil => 
    intro i hi; have h1 := dropn hi
    have h2 : ¬ ((i : Int) < d.past.length) := by omega
    rw [loop_eq]; simp (contextual := true) (implicitDefEqProofs := false) (decide := true) (maxSteps := 1000000) only [go_sem, h2]
  | cons a l ih =>
    intro i hi; obtain ⟨h1, h2, h3, h4⟩ := dropc hi
    have h5 : ((i : Int) < d.past.length) := by omega
    have h6 := w64s (n := i) (by unfold room at hp; omega)
    have h7 : a.length ≤ room := hR a (List.mem_of_getElem? h2)
    rw [loop_eq]; simp (contextual := true) (implicitDefEqProofs := false) (decide := true) (maxSteps := 1000000) only [go_sem, h2, h5, h6, row, h7, ih _ h3]
    cases c1 : rowOk a <;> simp [c1]
@[go_sem] theorem e13 (d : Desk) (hd : Sz d) : CF E 13 [.p (.agg [.ls 3 (d.now.map say), .ls 1 (d.past.map row)])] [] = some ⟨.p (.bool (deskOk d)), [], []⟩ := by
  have L := lp13 d hd _ rfl d.past 0 rfl
  simp (contextual := true) (implicitDefEqProofs := false) (decide := true) (maxSteps := 1000000) only [x13, go_sem] at L
  obtain ⟨h1, h2, h3⟩ := hd
  rw [q13]; simp (contextual := true) (implicitDefEqProofs := false) (decide := true) (maxSteps := 1000000) only [x13, go_sem, L, h1]
  have : deskOk d = (rowOk d.now && decide (d.past.length ≤ 10) && d.past.all rowOk) := rfl
  cases c1 : rowOk d.now <;> cases c2 : d.past.all rowOk <;> simp [this, c1, c2] <;> omega
