import Derived.Test.YtjlebmnlphjjoaaGreatDoorQe
set_option linter.unusedVariables false
set_option linter.unusedSimpArgs false
/- A desk after a deed, told by the program's function: all its ways; no condition. -/
open Go Go.Proofs.YtjlebmnlphjjoaaGreatDoor.Abs
namespace Go.Proofs.YtjlebmnlphjjoaaGreatDoor.Fx
set_option maxRecDepth 100000
set_option maxHeartbeats 4000000
set_option linter.unusedSimpArgs false
theorem s054 (n : List Say)  (t : ByteArray) (s : Say) (hs : rW t = some s) (hn : rowOk n = true) (ho : rowOk (n ++ [s]) = true) : CF E 54 [.p (.agg [.ls 3 (n.map say), .ls 1 ([])]), .p (.agg [.int .i64 0, .int .i64 0, .str t])] [] = some ⟨.p (.tup [.agg [.ls 3 ((n ++ [s]).map say), .ls 1 (([n]).map row)], .bool true]), [], []⟩ := by
  have h := rowOk_lt hn
  have h1 := room_ge (n := n.length) (by omega)
  have h2 : (n ++ [s]).length ≤ room := room_ge (by simp; omega)
  have h3 := room_ge (n := 1) (by omega)
  have h4 := room_ge (n := n.length + 1) (by omega)
  have e := e84 (n ++ [s]) h2
  have c := e153 (n ++ [s]) [n] (by simp) h2 h3 (by simpa using h1)
  simp (contextual := true) (implicitDefEqProofs := false) (decide := true) (maxSteps := 1000000) only [ho, row, say, go_sem] at e c
  rw [q54]; simp (contextual := true) (implicitDefEqProofs := false) (decide := true) (maxSteps := 1000000) only [x54, go_sem, h1, h3, h4, hs, e, apK_grow, c, say, row]

theorem d054 (A B : List Say) (x : Say)  (hn : rowOk (A ++ x :: B) = true) (ho : rowOk (A ++ B) = true) : CF E 54 [.p (.agg [.ls 3 ((A ++ x :: B).map say), .ls 1 ([])]), .p (.agg [.int .i64 1, .int .i64 A.length, .str (tx [])])] [] = some ⟨.p (.tup [.agg [.ls 3 ((A ++ B).map say), .ls 1 (([A ++ x :: B]).map row)], .bool true]), [], []⟩ := by
  have h := rowOk_lt hn
  have h' : A.length + (B.length + 1) < 6 := by simpa using h
  obtain ⟨n, hnn⟩ : ∃ n, n = A ++ x :: B := ⟨_, rfl⟩
  rw [← hnn]
  have h1 : n.length ≤ room := room_ge (by rw [hnn]; omega)
  have h2 : (A ++ B).length ≤ room := room_ge (by simp; omega)
  have h3 := room_ge (n := 1) (by omega)
  have h4 : A.length + (B.length + 1) ≤ room := room_ge (by omega)
  have k1 : (0 : Int) ≤ A.length := by omega
  have k2 : (A.length : Int) < (A.length + (B.length + 1) : Nat) := by omega
  have k3 := w64s (n := A.length) (by omega)
  have D := e91 A B x (by unfold room at h4 ⊢; omega)
  have e := e84 (A ++ B) h2
  have c := e153 (A ++ B) [n] (by simp) h2 h3 (by simpa using h1)
  have hl : n.length = A.length + (B.length + 1) := by rw [hnn]; simp
  have hl2 : (n.map say).length = A.length + (B.length + 1) := by rw [List.length_map, hl]
  have hm : List.map say n = List.map say A ++ say x :: List.map say B := by rw [hnn]; simp
  simp (contextual := true) (implicitDefEqProofs := false) (decide := true) (maxSteps := 1000000) only [ho, row, hl, hm, go_sem] at e c
  have c0 := e053 n h1
  simp (contextual := true) (implicitDefEqProofs := false) (decide := true) (maxSteps := 1000000) only [hl, hm, go_sem] at c0
  rw [q54]; simp (contextual := true) (implicitDefEqProofs := false) (decide := true) (maxSteps := 1000000) only [x54, go_sem, h1, h3, h4, hl, hm, e, apK_grow, c0, c, row, k1, k2, k3, D]

theorem s154 (n : List Say) (p : List (List Say)) (hp : p ≠ []) (h10 : p.length < 10) (hP : p.all rowOk = true) (t : ByteArray) (s : Say) (hs : rW t = some s) (hn : rowOk n = true) (ho : rowOk (n ++ [s]) = true) : CF E 54 [.p (.agg [.ls 3 (n.map say), .ls 1 (p.map row)]), .p (.agg [.int .i64 0, .int .i64 0, .str t])] [] = some ⟨.p (.tup [.agg [.ls 3 ((n ++ [s]).map say), .ls 1 ((p ++ [n]).map row)], .bool true]), [], []⟩ := by
  have h := rowOk_lt hn
  have h1 := room_ge (n := n.length) (by omega)
  have h2 : (n ++ [s]).length ≤ room := room_ge (by simp; omega)
  have h3 := room_ge (n := 1) (by omega)
  have h4 := room_ge (n := n.length + 1) (by omega)
  have g3 := room_ge (n := p.length) (by omega)
  have g4 := room_ge (n := p.length + 1) (by omega)
  have g5 : ∀ r ∈ p, r.length ≤ room := fun r hr => room_ge (by have := rowOk_lt (List.all_eq_true.1 hP r hr); omega)
  have g6 : ¬ (((p.length + 1 : Nat) : Int) > 10) := by omega
  have c1 := e153 n p hp h1 g3 g5
  have e := e84 (n ++ [s]) h2
  have c := e153 (n ++ [s]) (p ++ [n]) (by simp) h2 (by simpa using g4) (by simpa [or_imp, forall_and] using ⟨g5, h1⟩)
  simp (contextual := true) (implicitDefEqProofs := false) (decide := true) (maxSteps := 1000000) only [ho, row, say, go_sem] at e c
  rw [q54]; simp (contextual := true) (implicitDefEqProofs := false) (decide := true) (maxSteps := 1000000) only [x54, go_sem, h1, h3, h4, hs, e, apK_grow, c, say, row, g3, g4, g6, c1]

theorem d154 (A B : List Say) (x : Say) (p : List (List Say)) (hp : p ≠ []) (h10 : p.length < 10) (hP : p.all rowOk = true) (hn : rowOk (A ++ x :: B) = true) (ho : rowOk (A ++ B) = true) : CF E 54 [.p (.agg [.ls 3 ((A ++ x :: B).map say), .ls 1 (p.map row)]), .p (.agg [.int .i64 1, .int .i64 A.length, .str (tx [])])] [] = some ⟨.p (.tup [.agg [.ls 3 ((A ++ B).map say), .ls 1 ((p ++ [A ++ x :: B]).map row)], .bool true]), [], []⟩ := by
  have h := rowOk_lt hn
  have h' : A.length + (B.length + 1) < 6 := by simpa using h
  obtain ⟨n, hnn⟩ : ∃ n, n = A ++ x :: B := ⟨_, rfl⟩
  rw [← hnn]
  have h1 : n.length ≤ room := room_ge (by rw [hnn]; omega)
  have h2 : (A ++ B).length ≤ room := room_ge (by simp; omega)
  have h3 := room_ge (n := 1) (by omega)
  have h4 : A.length + (B.length + 1) ≤ room := room_ge (by omega)
  have k1 : (0 : Int) ≤ A.length := by omega
  have k2 : (A.length : Int) < (A.length + (B.length + 1) : Nat) := by omega
  have k3 := w64s (n := A.length) (by omega)
  have g3 := room_ge (n := p.length) (by omega)
  have g4 := room_ge (n := p.length + 1) (by omega)
  have g5 : ∀ r ∈ p, r.length ≤ room := fun r hr => room_ge (by have := rowOk_lt (List.all_eq_true.1 hP r hr); omega)
  have g6 : ¬ (((p.length + 1 : Nat) : Int) > 10) := by omega
  have c1 := e153 n p hp h1 g3 g5
  have D := e91 A B x (by unfold room at h4 ⊢; omega)
  have e := e84 (A ++ B) h2
  have c := e153 (A ++ B) (p ++ [n]) (by simp) h2 (by simpa using g4) (by simpa [or_imp, forall_and] using ⟨g5, h1⟩)
  have hl : n.length = A.length + (B.length + 1) := by rw [hnn]; simp
  have hl2 : (n.map say).length = A.length + (B.length + 1) := by rw [List.length_map, hl]
  have hm : List.map say n = List.map say A ++ say x :: List.map say B := by rw [hnn]; simp
  simp (contextual := true) (implicitDefEqProofs := false) (decide := true) (maxSteps := 1000000) only [ho, row, hl, hm, go_sem] at e c c1
  have c0 := e053 n h1
  simp (contextual := true) (implicitDefEqProofs := false) (decide := true) (maxSteps := 1000000) only [hl, hm, go_sem] at c0
  rw [q54]; simp (contextual := true) (implicitDefEqProofs := false) (decide := true) (maxSteps := 1000000) only [x54, go_sem, h1, h3, h4, hl, hm, e, apK_grow, c0, c, row, k1, k2, k3, D, g3, g4, g6, c1]

theorem s254 (n : List Say) (r : List Say) (p : List (List Say)) (h10 : p.length = 9) (hP : (r :: p).all rowOk = true) (t : ByteArray) (s : Say) (hs : rW t = some s) (hn : rowOk n = true) (ho : rowOk (n ++ [s]) = true) : CF E 54 [.p (.agg [.ls 3 (n.map say), .ls 1 ((r :: p).map row)]), .p (.agg [.int .i64 0, .int .i64 0, .str t])] [] = some ⟨.p (.tup [.agg [.ls 3 ((n ++ [s]).map say), .ls 1 ((p ++ [n]).map row)], .bool true]), [], []⟩ := by
  have h := rowOk_lt hn
  have h1 := room_ge (n := n.length) (by omega)
  have h2 : (n ++ [s]).length ≤ room := room_ge (by simp; omega)
  have h3 := room_ge (n := 1) (by omega)
  have h4 := room_ge (n := n.length + 1) (by omega)
  have g3 := room_ge (n := p.length) (by omega)
  have g4 := room_ge (n := p.length + 1) (by omega)
  have g5 : ∀ r ∈ p, r.length ≤ room := fun r hr => room_ge (by have := rowOk_lt (List.all_eq_true.1 hP r (by simp [hr])); omega)
  have g7 : r.length ≤ room := room_ge (by have := rowOk_lt (List.all_eq_true.1 hP r (by simp)); omega)
  have g8 := room_ge (n := p.length + 1 + 1) (by omega)
  have g6 : (((p.length + 1 + 1 : Nat) : Int) > 10) := by omega
  have g9 : ((1 : Int) ≤ ((p.length + 1 + 1 : Nat) : Int)) := by omega
  have g0 : p.length + 1 + 1 - 1 = p.length + 1 := by omega
  have c1 := e153 n (r :: p) (by simp) h1 g4 (by simpa [or_imp, forall_and] using ⟨g7, g5⟩)
  simp (contextual := true) (implicitDefEqProofs := false) (decide := true) (maxSteps := 1000000) only [row, go_sem] at c1
  have e := e84 (n ++ [s]) h2
  have c := e153 (n ++ [s]) (p ++ [n]) (by simp) h2 (by simpa using g4) (by simpa [or_imp, forall_and] using ⟨g5, h1⟩)
  simp (contextual := true) (implicitDefEqProofs := false) (decide := true) (maxSteps := 1000000) only [ho, row, say, go_sem] at e c
  rw [q54]; simp (contextual := true) (implicitDefEqProofs := false) (decide := true) (maxSteps := 1000000) only [x54, go_sem, h1, h3, h4, hs, e, apK_grow, c, say, row, g3, g4, g6, g8, g9, g0, c1]

theorem d254 (A B : List Say) (x : Say) (r : List Say) (p : List (List Say)) (h10 : p.length = 9) (hP : (r :: p).all rowOk = true) (hn : rowOk (A ++ x :: B) = true) (ho : rowOk (A ++ B) = true) : CF E 54 [.p (.agg [.ls 3 ((A ++ x :: B).map say), .ls 1 ((r :: p).map row)]), .p (.agg [.int .i64 1, .int .i64 A.length, .str (tx [])])] [] = some ⟨.p (.tup [.agg [.ls 3 ((A ++ B).map say), .ls 1 ((p ++ [A ++ x :: B]).map row)], .bool true]), [], []⟩ := by
  have h := rowOk_lt hn
  have h' : A.length + (B.length + 1) < 6 := by simpa using h
  obtain ⟨n, hnn⟩ : ∃ n, n = A ++ x :: B := ⟨_, rfl⟩
  rw [← hnn]
  have h1 : n.length ≤ room := room_ge (by rw [hnn]; omega)
  have h2 : (A ++ B).length ≤ room := room_ge (by simp; omega)
  have h3 := room_ge (n := 1) (by omega)
  have h4 : A.length + (B.length + 1) ≤ room := room_ge (by omega)
  have k1 : (0 : Int) ≤ A.length := by omega
  have k2 : (A.length : Int) < (A.length + (B.length + 1) : Nat) := by omega
  have k3 := w64s (n := A.length) (by omega)
  have g3 := room_ge (n := p.length) (by omega)
  have g4 := room_ge (n := p.length + 1) (by omega)
  have g5 : ∀ r ∈ p, r.length ≤ room := fun r hr => room_ge (by have := rowOk_lt (List.all_eq_true.1 hP r (by simp [hr])); omega)
  have g7 : r.length ≤ room := room_ge (by have := rowOk_lt (List.all_eq_true.1 hP r (by simp)); omega)
  have g8 := room_ge (n := p.length + 1 + 1) (by omega)
  have g6 : (((p.length + 1 + 1 : Nat) : Int) > 10) := by omega
  have g9 : ((1 : Int) ≤ ((p.length + 1 + 1 : Nat) : Int)) := by omega
  have g0 : p.length + 1 + 1 - 1 = p.length + 1 := by omega
  have c1 := e153 n (r :: p) (by simp) h1 g4 (by simpa [or_imp, forall_and] using ⟨g7, g5⟩)
  simp (contextual := true) (implicitDefEqProofs := false) (decide := true) (maxSteps := 1000000) only [row, go_sem] at c1
  have D := e91 A B x (by unfold room at h4 ⊢; omega)
  have e := e84 (A ++ B) h2
  have c := e153 (A ++ B) (p ++ [n]) (by simp) h2 (by simpa using g4) (by simpa [or_imp, forall_and] using ⟨g5, h1⟩)
  have hl : n.length = A.length + (B.length + 1) := by rw [hnn]; simp
  have hl2 : (n.map say).length = A.length + (B.length + 1) := by rw [List.length_map, hl]
  have hm : List.map say n = List.map say A ++ say x :: List.map say B := by rw [hnn]; simp
  simp (contextual := true) (implicitDefEqProofs := false) (decide := true) (maxSteps := 1000000) only [ho, row, hl, hm, go_sem] at e c c1
  have c0 := e053 n h1
  simp (contextual := true) (implicitDefEqProofs := false) (decide := true) (maxSteps := 1000000) only [hl, hm, go_sem] at c0
  rw [q54]; simp (contextual := true) (implicitDefEqProofs := false) (decide := true) (maxSteps := 1000000) only [x54, go_sem, h1, h3, h4, hl, hm, e, apK_grow, c0, c, row, k1, k2, k3, D, g3, g4, g6, g8, g9, g0, c1]

theorem nat_int {n : Nat} {m : Int} (h : 0 ≤ m) : ((m.toNat : Nat) : Int) = m := Int.toNat_of_nonneg h
theorem no54 (n : List Say) (p : List (List Say)) (k m : Int) (t : ByteArray) (hn : rowOk n = true) (hp : p.length ≤ 10) (hP : p.all rowOk = true) (hno : deskDo ⟨n, p⟩ ⟨k, m, t⟩ = none) : CF E 54 [.p (.agg [.ls 3 (n.map say), .ls 1 (p.map row)]), .p (.agg [.int .i64 k, .int .i64 m, .str t])] [] = some ⟨.p (.tup [.agg [.ls 3 (n.map say), .ls 1 (p.map row)], .bool false]), [], []⟩ := by
  have h := rowOk_lt hn
  have h1 := room_ge (n := n.length) (by omega)
  have h3 := room_ge (n := n.length + 1) (by omega)
  have g3 := room_ge (n := p.length) (by omega)
  have g5 : ∀ r ∈ p, r.length ≤ room := fun r hr => room_ge (by have := rowOk_lt (List.all_eq_true.1 hP r hr); omega)
  unfold deskDo at hno
  simp only [] at hno
  by_cases hp0 : p = []
  · subst hp0
    by_cases k0 : k = 0
    · subst k0
      by_cases m0 : m = 0
      · subst m0
        simp only [and_self, if_true] at hno
        cases hr : rW t with
        | none => rw [q54]; simp (contextual := true) (implicitDefEqProofs := false) (decide := true) (maxSteps := 1000000) only [x54, go_sem, h1, hr]
        | some s =>
          simp only [hr] at hno
          have ho : rowOk (n ++ [s]) = false := by
            cases c : rowOk (n ++ [s]) with
            | false => rfl
            | true => simp [c] at hno
          have e := e84 (n ++ [s]) (by simpa using h3)
          simp (contextual := true) (implicitDefEqProofs := false) (decide := true) (maxSteps := 1000000) only [ho, say, go_sem] at e
          rw [q54]; simp (contextual := true) (implicitDefEqProofs := false) (decide := true) (maxSteps := 1000000) only [x54, go_sem, h1, h3, hr, apK_grow, e]
      · rw [q54]; simp (contextual := true) (implicitDefEqProofs := false) (decide := true) (maxSteps := 1000000) only [x54, go_sem, h1, m0]
    · by_cases k1 : k = 1
      · subst k1
        by_cases c1 : t = tx [] <;> by_cases c2 : m ≥ 0 <;> by_cases c3 : m < n.length <;> first | (exfalso; have c2q : 0 ≤ m := c2; simp [c1, c2q, c3] at hno; done) | (rw [q54]; simp (contextual := true) (implicitDefEqProofs := false) (decide := true) (maxSteps := 1000000) only [x54, go_sem, h1, c1, c2, c3])
      · by_cases k2 : k = 2
        · subst k2
          by_cases c1 : t = tx [] <;> by_cases c2 : m = 0 <;> (rw [q54]; simp (contextual := true) (implicitDefEqProofs := false) (decide := true) (maxSteps := 1000000) only [x54, go_sem, h1, c1, c2])
        · rw [q54]; simp (contextual := true) (implicitDefEqProofs := false) (decide := true) (maxSteps := 1000000) only [x54, go_sem, h1, k0, k1, k2]
  · have hpl : 0 < p.length := List.length_pos_iff.2 hp0
    have hpl : ((p.length : Int) > 0) := by omega
    have c0 := e153 n p hp0 h1 g3 g5
    by_cases k0 : k = 0
    · subst k0
      by_cases m0 : m = 0
      · subst m0
        simp only [and_self, if_true] at hno
        cases hr : rW t with
        | none => rw [q54]; simp (contextual := true) (implicitDefEqProofs := false) (decide := true) (maxSteps := 1000000) only [x54, go_sem, h1, hr, c0]
        | some s =>
          simp only [hr] at hno
          have ho : rowOk (n ++ [s]) = false := by
            cases c : rowOk (n ++ [s]) with
            | false => rfl
            | true => simp [c] at hno
          have e := e84 (n ++ [s]) (by simpa using h3)
          simp (contextual := true) (implicitDefEqProofs := false) (decide := true) (maxSteps := 1000000) only [ho, say, go_sem] at e
          rw [q54]; simp (contextual := true) (implicitDefEqProofs := false) (decide := true) (maxSteps := 1000000) only [x54, go_sem, h1, h3, hr, apK_grow, e, c0]
      · rw [q54]; simp (contextual := true) (implicitDefEqProofs := false) (decide := true) (maxSteps := 1000000) only [x54, go_sem, h1, m0, c0]
    · by_cases k1 : k = 1
      · subst k1
        by_cases c1 : t = tx [] <;> by_cases c2 : m ≥ 0 <;> by_cases c3 : m < n.length <;> first | (exfalso; have c2q : 0 ≤ m := c2; simp [c1, c2q, c3] at hno; done) | (rw [q54]; simp (contextual := true) (implicitDefEqProofs := false) (decide := true) (maxSteps := 1000000) only [x54, go_sem, h1, c1, c2, c3, c0])
      · by_cases k2 : k = 2
        · subst k2
          by_cases c1 : t = tx [] <;> by_cases c2 : m = 0 <;> first | (exfalso; simp [c1, c2, hp0] at hno; done) | (rw [q54]; simp (contextual := true) (implicitDefEqProofs := false) (decide := true) (maxSteps := 1000000) only [x54, go_sem, h1, c1, c2, c0])
        · rw [q54]; simp (contextual := true) (implicitDefEqProofs := false) (decide := true) (maxSteps := 1000000) only [x54, go_sem, h1, k0, k1, k2, c0]
theorem b54 (n r : List Say) (p : List (List Say)) (hn : rowOk n = true) (hp : p.length < 10) (hP : p.all rowOk = true) (hr : rowOk r = true) : CF E 54 [.p (.agg [.ls 3 (n.map say), .ls 1 ((p ++ [r]).map row)]), .p (.agg [.int .i64 2, .int .i64 0, .str (tx [])])] [] = some ⟨.p (.tup [.agg [.ls 3 (r.map say), .ls 1 (p.map row)], .bool true]), [], []⟩ := by
  have h := rowOk_lt hn
  have h' := rowOk_lt hr
  have h1 := room_ge (n := n.length) (by omega)
  have h2 := room_ge (n := r.length) (by omega)
  have g3 := room_ge (n := p.length) (by omega)
  have g4 := room_ge (n := p.length + 1) (by omega)
  have g5 : ∀ r ∈ p, r.length ≤ room := fun r hr => room_ge (by have := rowOk_lt (List.all_eq_true.1 hP r hr); omega)
  have g6 : (((p.length + 1 : Nat) : Int) > 0) := by omega
  have g7 : IntKind.wrap .i64 (((p.length + 1 : Nat) : Int) - 1) = p.length := by rw [w64 (by omega) (by omega)]; omega
  have g8 : ((p.length : Int) < ((p.length + 1 : Nat) : Int)) := by omega
  have g9 : ((p.length : Int) ≤ ((p.length + 1 : Nat) : Int)) := by omega
  have g2 : (List.map AV.p (List.map row p) ++ [AV.p (.ls 3 (List.map say r))])[p.length]? = some (AV.p (.ls 3 (List.map say r))) := by
    rw [List.getElem?_append_right (by simp)]; simp
  have c0 := e153 n (p ++ [r]) (by simp) h1 (by simpa using g4) (by simpa [or_imp, forall_and] using ⟨g5, h2⟩)
  have c := e053 r h2
  simp (contextual := true) (implicitDefEqProofs := false) (decide := true) (maxSteps := 1000000) only [row, go_sem] at c0
  by_cases hp0 : p = []
  · subst hp0
    simp (contextual := true) (implicitDefEqProofs := false) (decide := true) (maxSteps := 1000000) only [go_sem, List.length_nil] at c0 g6 g7 g8 g9 g2
    rw [q54]; simp (contextual := true) (implicitDefEqProofs := false) (decide := true) (maxSteps := 1000000) only [x54, go_sem, h1, h2, c0, c, row, g2]
  · have c1 := e153 r p hp0 h2 g3 g5
    rw [q54]; simp (contextual := true) (implicitDefEqProofs := false) (decide := true) (maxSteps := 1000000) only [x54, go_sem, h1, h2, c0, c1, row, g6, g7, g8, g9, g2]

theorem take_drop_at (n : List Say) (i : Nat) (h : i < n.length) : ∃ A x B, n = A ++ x :: B ∧ A.length = i ∧ n.take i ++ n.drop (i + 1) = A ++ B :=
  ⟨n.take i, n[i], n.drop (i + 1), by rw [← List.drop_eq_getElem_cons h, List.take_append_drop], by simp; omega, rfl⟩
theorem nowOk_sub : ∀ (A : List Say) (x : Say) (B pre pre' : List Say), (∀ y ∈ pre', y ∈ pre) → nowOk pre (A ++ x :: B) = true → nowOk pre' (A ++ B) = true := by
  have mono : ∀ (B pre pre' : List Say), (∀ y ∈ pre', y ∈ pre) → nowOk pre B = true → nowOk pre' B = true := by
    intro B; induction B with
    | nil => intros; rfl
    | cons b B ih =>
      intro pre pre' hs h
      simp only [nowOk, Bool.and_eq_true, Bool.not_eq_true', List.contains_eq_mem, decide_eq_false_iff_not] at h ⊢
      refine ⟨⟨h.1.1, fun hm => h.1.2 (hs _ hm)⟩, ih _ _ ?_ h.2⟩
      intro y hy
      simp only [List.mem_append, List.mem_singleton] at hy ⊢
      exact hy.imp (hs y) id
  intro A; induction A with
  | nil =>
    intro x B pre pre' hs h
    simp only [List.nil_append, nowOk, Bool.and_eq_true] at h ⊢
    exact mono B _ _ (fun y hy => List.mem_append_left _ (hs y hy)) h.2
  | cons a A ih =>
    intro x B pre pre' hs h
    simp only [List.cons_append, nowOk, Bool.and_eq_true, Bool.not_eq_true', List.contains_eq_mem, decide_eq_false_iff_not] at h ⊢
    refine ⟨⟨h.1.1, fun hm => h.1.2 (hs _ hm)⟩, ih x B _ _ ?_ h.2⟩
    intro y hy
    simp only [List.mem_append, List.mem_singleton] at hy ⊢
    exact hy.imp (hs y) id
theorem rowOk_sub {A B : List Say} {x : Say} (h : rowOk (A ++ x :: B) = true) : rowOk (A ++ B) = true := by
  have h' := rowOk_lt h
  simp only [rowOk, Bool.and_eq_true, decide_eq_true_eq] at h ⊢
  refine ⟨nowOk_sub A x B [] [] (by simp) h.1, ?_⟩
  simp at h' ⊢; omega
theorem e54 (d : Desk) (a : Deed) (hd : deskOk d = true) : CF E 54 [.p (.agg [.ls 3 (d.now.map say), .ls 1 (d.past.map row)]), .p (.agg [.int .i64 a.k, .int .i64 a.n, .str a.t])] [] = some ⟨.p (.tup [.agg [.ls 3 (((deskDo d a).getD d).now.map say), .ls 1 (((deskDo d a).getD d).past.map row)], .bool (deskDo d a).isSome]), [], []⟩ := by
  obtain ⟨n, p⟩ := d
  obtain ⟨k, m, t⟩ := a
  simp only [deskOk, Bool.and_eq_true, decide_eq_true_eq] at hd
  obtain ⟨⟨hn, hp⟩, hP⟩ := hd
  have hl := rowOk_lt hn
  by_cases h1 : k = 0 ∧ m = 0
  · obtain ⟨rfl, rfl⟩ := h1
    cases hr : rW t with
    | none =>
      have hno : deskDo ⟨n, p⟩ ⟨0, 0, t⟩ = none := by simp [deskDo, hr]
      rw [hno]; exact no54 n p 0 0 t hn hp hP hno
    | some s =>
      cases ho : rowOk (n ++ [s]) with
      | false =>
        have hno : deskDo ⟨n, p⟩ ⟨0, 0, t⟩ = none := by simp [deskDo, hr, ho]
        rw [hno]; exact no54 n p 0 0 t hn hp hP hno
      | true =>
        have hyes : deskDo ⟨n, p⟩ ⟨0, 0, t⟩ = some ⟨n ++ [s], push p n⟩ := by simp [deskDo, hr, ho]
        rw [hyes]
        by_cases hp0 : p = []
        · subst hp0; exact s054 n t s hr hn ho
        · by_cases h10 : p.length < 10
          · have : push p n = p ++ [n] := if_pos h10
            simp only [this]; exact s154 n p hp0 h10 hP t s hr hn ho
          · cases p with
            | nil => exact absurd rfl hp0
            | cons r p =>
              have : push (r :: p) n = p ++ [n] := by simp only [push, if_neg h10]; rfl
              simp only [this]; exact s254 n r p (by simp at h10 hp; omega) hP t s hr hn ho
  · by_cases h2 : k = 1 ∧ t = tx [] ∧ 0 ≤ m ∧ m < n.length
    · obtain ⟨rfl, rfl, h3, h4⟩ := h2
      obtain ⟨i, rfl⟩ := Int.eq_ofNat_of_zero_le h3
      obtain ⟨A, x, B, h5, h6, h7⟩ := take_drop_at n i (by omega)
      have hyes : deskDo ⟨n, p⟩ ⟨1, i, tx []⟩ = some ⟨A ++ B, push p n⟩ := by
        unfold deskDo
        rw [if_neg (by simp), if_pos ⟨rfl, rfl, h3, h4⟩]
        simp only [Int.toNat_natCast, h7]
      rw [hyes]
      subst h5; subst h6
      have ho := rowOk_sub hn
      by_cases hp0 : p = []
      · subst hp0; exact d054 A B x hn ho
      · by_cases h10 : p.length < 10
        · have : push p (A ++ x :: B) = p ++ [A ++ x :: B] := if_pos h10
          simp only [this]; exact d154 A B x p hp0 h10 hP hn ho
        · cases p with
          | nil => exact absurd rfl hp0
          | cons r p =>
            have : push (r :: p) (A ++ x :: B) = p ++ [A ++ x :: B] := by simp only [push, if_neg h10]; rfl
            simp only [this]; exact d254 A B x r p (by simp at h10 hp; omega) hP hn ho
    · by_cases h3 : k = 2 ∧ m = 0 ∧ t = tx [] ∧ p ≠ []
      · obtain ⟨rfl, rfl, rfl, hp0⟩ := h3
        have hlast := List.dropLast_concat_getLast hp0
        have hyes : deskDo ⟨n, p⟩ ⟨2, 0, tx []⟩ = some ⟨p.getLast hp0, p.dropLast⟩ := by
          simp [deskDo, hp0, List.getLast?_eq_some_getLast hp0]
        rw [hyes]
        generalize p.getLast hp0 = r at hlast ⊢
        generalize p.dropLast = q at hlast ⊢
        subst hlast
        simp only [List.all_append, Bool.and_eq_true, List.all_cons, List.all_nil, Bool.and_true] at hP
        exact b54 n r q hn (by simp at hp; omega) hP.1 hP.2
      · have hno : deskDo ⟨n, p⟩ ⟨k, m, t⟩ = none := by
          unfold deskDo; rw [if_neg h1, if_neg h2, if_neg h3]
        rw [hno]; exact no54 n p k m t hn hp hP hno
