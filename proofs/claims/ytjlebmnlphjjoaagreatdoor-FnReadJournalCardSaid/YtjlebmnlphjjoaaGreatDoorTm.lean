import Derived.Test.YtjlebmnlphjjoaaGreatDoorTl
import Derived.Test.YtjlebmnlphjjoaaGreatDoorTj
import Derived.Test.YtjlebmnlphjjoaaGreatDoorUa
set_option linter.unusedVariables false
set_option linter.unusedSimpArgs false
/- A desk after a deed, told by the reference; no condition. -/
open Go Go.Proofs.YtjlebmnlphjjoaaGreatDoor.Abs
namespace Go.Proofs.YtjlebmnlphjjoaaGreatDoor.Fx
set_option maxRecDepth 100000
set_option maxHeartbeats 8000000
set_option linter.unusedSimpArgs false
set_option linter.unusedVariables false
theorem no060 (n : List Say) (hd : deskOk ⟨n, []⟩ = true) (k i : Int) (t : ByteArray) (hno : deskDo ⟨n, []⟩ ⟨k, i, t⟩ = none) : CF E 60 [.p (.agg [.ls 3 (n.map say), .ls 1 ([])]), .p (.agg [.int .i64 k, .int .i64 i, .str t])] [] = some ⟨.p (.tup [.agg [.ls 3 (n.map say), .ls 1 ([])], .bool false]), [], []⟩ := by
  have hd0 := hd
  simp only [deskOk, Bool.and_eq_true, decide_eq_true_eq] at hd0
  obtain ⟨⟨hn, hp⟩, hP⟩ := hd0
  have h := rowOk_lt hn
  have h1 := room_ge (n := n.length) (by omega)
  have h3 := room_ge (n := n.length + 1) (by omega)
  have hsz : Sz ⟨n, []⟩ := ⟨h1, room_ge (by simp only []; omega), fun r hr => room_ge (by have := rowOk_lt (List.all_eq_true.1 hP r hr); omega)⟩
  have ev := e13 ⟨n, []⟩ hsz
  rw [hd] at ev
  simp (contextual := true) (implicitDefEqProofs := false) (decide := true) (maxSteps := 1000000) only [row, go_sem] at ev
  have c0 := e010059 n h1
  unfold deskDo at hno
  simp only [] at hno
  by_cases k0 : k = 0
  · subst k0
    by_cases m0 : i = 0
    · subst m0
      simp only [and_self, if_true] at hno
      cases hr : rW t with
      | none => rw [q60]; simp (contextual := true) (implicitDefEqProofs := false) (decide := true) (maxSteps := 1000000) only [x60, go_sem, ev, h1, h3, row, room_ge, apK_grow, c0, hr]
      | some s =>
        simp only [hr] at hno
        have ho : rowOk (n ++ [s]) = false := by
          cases c : rowOk (n ++ [s]) with
          | false => rfl
          | true => simp [c] at hno
        have e := e49 (n ++ [s]) (by simpa using h3)
        simp (contextual := true) (implicitDefEqProofs := false) (decide := true) (maxSteps := 1000000) only [ho, say, go_sem] at e
        rw [q60]; simp (contextual := true) (implicitDefEqProofs := false) (decide := true) (maxSteps := 1000000) only [x60, go_sem, ev, h1, h3, row, room_ge, apK_grow, c0, hr, e, say]
    · rw [q60]; simp (contextual := true) (implicitDefEqProofs := false) (decide := true) (maxSteps := 1000000) only [x60, go_sem, ev, h1, h3, row, room_ge, apK_grow, c0, m0]
  · by_cases k1 : k = 1
    · subst k1
      have w := w64 (n := (n.length : Int) - 1) (by omega) (by omega)
      by_cases c1 : t = tx [] <;> by_cases c2 : i ≥ 0 <;> by_cases c3 : i < n.length <;> first | (exfalso; have c2q : 0 ≤ i := c2; simp [c1, c2q, c3] at hno; done) | (have c4 : ¬ (i ≥ 0 ∧ i ≤ (n.length : Int) - 1) := (by omega); rw [q60]; simp (contextual := true) (implicitDefEqProofs := false) (decide := true) (maxSteps := 1000000) only [x60, go_sem, ev, h1, h3, row, room_ge, apK_grow, c0, c1, w, c4]) | (rw [q60]; simp (contextual := true) (implicitDefEqProofs := false) (decide := true) (maxSteps := 1000000) only [x60, go_sem, ev, h1, h3, row, room_ge, apK_grow, c0, c1, w])
    · by_cases k2 : k = 2
      · subst k2
        by_cases c1 : t = tx [] <;> by_cases c2 : i = 0 <;> first | (exfalso; simp [c1, c2] at hno; done) | (rw [q60]; simp (contextual := true) (implicitDefEqProofs := false) (decide := true) (maxSteps := 1000000) only [x60, go_sem, ev, h1, h3, row, room_ge, apK_grow, c0, c1, c2])
      · rw [q60]; simp (contextual := true) (implicitDefEqProofs := false) (decide := true) (maxSteps := 1000000) only [x60, go_sem, ev, h1, h3, row, room_ge, apK_grow, c0, k0, k1, k2]
theorem sy060 (n : List Say) (hd : deskOk ⟨n, []⟩ = true) (t : ByteArray) (s : Say) (hs : rW t = some s) (ho : rowOk (n ++ [s]) = true) : CF E 60 [.p (.agg [.ls 3 (n.map say), .ls 1 ([])]), .p (.agg [.int .i64 0, .int .i64 0, .str t])] [] = some ⟨.p (.tup [.agg [.ls 3 ((n ++ [s]).map say), .ls 1 (([n]).map row)], .bool true]), [], []⟩ := by
  have hd0 := hd
  simp only [deskOk, Bool.and_eq_true, decide_eq_true_eq] at hd0
  obtain ⟨⟨hn, hp⟩, hP⟩ := hd0
  have h := rowOk_lt hn
  have h1 := room_ge (n := n.length) (by omega)
  have h3 := room_ge (n := n.length + 1) (by omega)
  have hsz : Sz ⟨n, []⟩ := ⟨h1, room_ge (by simp only []; omega), fun r hr => room_ge (by have := rowOk_lt (List.all_eq_true.1 hP r hr); omega)⟩
  have ev := e13 ⟨n, []⟩ hsz
  rw [hd] at ev
  simp (contextual := true) (implicitDefEqProofs := false) (decide := true) (maxSteps := 1000000) only [row, go_sem] at ev
  have c0 := e010059 n h1
  have e := e49 (n ++ [s]) (by simpa using h3)
  simp (contextual := true) (implicitDefEqProofs := false) (decide := true) (maxSteps := 1000000) only [ho, say, go_sem] at e
  rw [q60]; simp (contextual := true) (implicitDefEqProofs := false) (decide := true) (maxSteps := 1000000) only [x60, go_sem, ev, h1, h3, row, room_ge, apK_grow, c0, hs, e, say]
theorem dr060 (A B : List Say) (x : Say) (n : List Say) (hd : deskOk ⟨n, []⟩ = true) (hnn : n = A ++ x :: B) : CF E 60 [.p (.agg [.ls 3 (n.map say), .ls 1 ([])]), .p (.agg [.int .i64 1, .int .i64 A.length, .str (tx [])])] [] = some ⟨.p (.tup [.agg [.ls 3 ((A ++ B).map say), .ls 1 (([n]).map row)], .bool true]), [], []⟩ := by
  have hd0 := hd
  simp only [deskOk, Bool.and_eq_true, decide_eq_true_eq] at hd0
  obtain ⟨⟨hn, hp⟩, hP⟩ := hd0
  have h := rowOk_lt hn
  have h1 := room_ge (n := n.length) (by omega)
  have h3 := room_ge (n := n.length + 1) (by omega)
  have hsz : Sz ⟨n, []⟩ := ⟨h1, room_ge (by simp only []; omega), fun r hr => room_ge (by have := rowOk_lt (List.all_eq_true.1 hP r hr); omega)⟩
  have ev := e13 ⟨n, []⟩ hsz
  rw [hd] at ev
  simp (contextual := true) (implicitDefEqProofs := false) (decide := true) (maxSteps := 1000000) only [row, go_sem] at ev
  have c0 := e010059 n h1
  have hl : n.length = A.length + (B.length + 1) := by rw [hnn]; simp
  have w := w64 (n := (n.length : Int) - 1) (by omega) (by omega)
  have c4 : ((A.length : Int) ≥ 0 ∧ (A.length : Int) ≤ (n.length : Int) - 1) := by omega
  have c5 : (A.length : Int) ≤ n.length := by omega
  have c6 := w64s (n := A.length) (by omega)
  have c7 : ((A.length + 1 : Nat) : Int) ≤ n.length := by omega
  have c8 : (0 : Int) ≤ ((A.length + 1 : Nat) : Int) := by omega
  have t1 : List.take A.length (n.map say) = A.map say := by rw [hnn]; simp
  have t2 : List.drop (A.length + 1) (n.map say) = B.map say := by
    have e : A.length + 1 = (A ++ [x]).length := by simp
    rw [hnn, e, show A ++ x :: B = (A ++ [x]) ++ B by simp, List.map_append]
    exact List.drop_left' (by simp)
  have r1 := room_ge (n := A.length) (by omega)
  have r2 : A.length + B.length ≤ room := room_ge (by omega)
  have c9 : (0 : Int) ≤ (A.length : Int) := by omega
  have e1 : (apK 97 1 1 0 A.length 3 ((B.map say).map .p) (some ((A.map say).map .p))) = if B = [] then some (.ms 97 1 0 A.length 3, [(97, (1, some ((A.map say).map .p)))]) else some (.ms 97 2 0 (A.length + B.length) 3, [(97, (2, some ((A.map say).map .p ++ (B.map say).map .p)))]) := by
    by_cases hb : B = []
    · subst hb; simp [apK]
    · rw [if_neg hb, apK_grow (by simp) (by simp [List.length_pos_iff.2 hb]) (by simpa using r2)]; simp
  by_cases hb : B = []
  · subst hb
    rw [q60]; simp (contextual := true) (implicitDefEqProofs := false) (decide := true) (maxSteps := 1000000) only [x60, go_sem, ev, h1, h3, row, room_ge, apK_grow, c0, w, c4, c5, c6, c7, c8, c9, t1, t2, r1, e1]
  · have hb0 : 0 < B.length := List.length_pos_iff.2 hb
    rw [q60]; simp (contextual := true) (implicitDefEqProofs := false) (decide := true) (maxSteps := 1000000) only [x60, go_sem, ev, h1, h3, row, room_ge, apK_grow, c0, w, c4, c5, c6, c7, c8, c9, t1, t2, r1, r2, e1, hb]
theorem no160 (n : List Say) (p : List (List Say)) (hp0 : p ≠ []) (h10 : p.length < 10) (hd : deskOk ⟨n, p⟩ = true) (k i : Int) (t : ByteArray) (hno : deskDo ⟨n, p⟩ ⟨k, i, t⟩ = none) : CF E 60 [.p (.agg [.ls 3 (n.map say), .ls 1 ((p).map row)]), .p (.agg [.int .i64 k, .int .i64 i, .str t])] [] = some ⟨.p (.tup [.agg [.ls 3 (n.map say), .ls 1 ((p).map row)], .bool false]), [], []⟩ := by
  have hd0 := hd
  simp only [deskOk, Bool.and_eq_true, decide_eq_true_eq] at hd0
  obtain ⟨⟨hn, hp⟩, hP⟩ := hd0
  have h := rowOk_lt hn
  have h1 := room_ge (n := n.length) (by omega)
  have h3 := room_ge (n := n.length + 1) (by omega)
  have hsz : Sz ⟨n, p⟩ := ⟨h1, room_ge (by simp only []; omega), fun r hr => room_ge (by have := rowOk_lt (List.all_eq_true.1 hP r hr); omega)⟩
  have ev := e13 ⟨n, p⟩ hsz
  rw [hd] at ev
  simp (contextual := true) (implicitDefEqProofs := false) (decide := true) (maxSteps := 1000000) only [row, go_sem] at ev
  have g3 := room_ge (n := p.length) (by omega)
  have g4 := room_ge (n := p.length + 1) (by omega)
  have g6 : ¬ (((p.length + 1 : Nat) : Int) > 10) := by omega
  have hpl : ((p.length : Int) > 0) := by have := List.length_pos_iff.2 hp0; omega
  have c0 := e110059 n p hp0 h1 g3 (fun r hr => room_ge (by have := rowOk_lt (List.all_eq_true.1 hP r hr); omega))
  unfold deskDo at hno
  simp only [] at hno
  by_cases k0 : k = 0
  · subst k0
    by_cases m0 : i = 0
    · subst m0
      simp only [and_self, if_true] at hno
      cases hr : rW t with
      | none => rw [q60]; simp (contextual := true) (implicitDefEqProofs := false) (decide := true) (maxSteps := 1000000) only [x60, go_sem, ev, h1, h3, row, room_ge, apK_grow, c0, g3, g4, g6, hpl, hr]
      | some s =>
        simp only [hr] at hno
        have ho : rowOk (n ++ [s]) = false := by
          cases c : rowOk (n ++ [s]) with
          | false => rfl
          | true => simp [c] at hno
        have e := e49 (n ++ [s]) (by simpa using h3)
        simp (contextual := true) (implicitDefEqProofs := false) (decide := true) (maxSteps := 1000000) only [ho, say, go_sem] at e
        rw [q60]; simp (contextual := true) (implicitDefEqProofs := false) (decide := true) (maxSteps := 1000000) only [x60, go_sem, ev, h1, h3, row, room_ge, apK_grow, c0, g3, g4, g6, hpl, hr, e, say]
    · rw [q60]; simp (contextual := true) (implicitDefEqProofs := false) (decide := true) (maxSteps := 1000000) only [x60, go_sem, ev, h1, h3, row, room_ge, apK_grow, c0, g3, g4, g6, hpl, m0]
  · by_cases k1 : k = 1
    · subst k1
      have w := w64 (n := (n.length : Int) - 1) (by omega) (by omega)
      by_cases c1 : t = tx [] <;> by_cases c2 : i ≥ 0 <;> by_cases c3 : i < n.length <;> first | (exfalso; have c2q : 0 ≤ i := c2; simp [c1, c2q, c3] at hno; done) | (have c4 : ¬ (i ≥ 0 ∧ i ≤ (n.length : Int) - 1) := (by omega); rw [q60]; simp (contextual := true) (implicitDefEqProofs := false) (decide := true) (maxSteps := 1000000) only [x60, go_sem, ev, h1, h3, row, room_ge, apK_grow, c0, g3, g4, g6, hpl, c1, w, c4]) | (rw [q60]; simp (contextual := true) (implicitDefEqProofs := false) (decide := true) (maxSteps := 1000000) only [x60, go_sem, ev, h1, h3, row, room_ge, apK_grow, c0, g3, g4, g6, hpl, c1, w])
    · by_cases k2 : k = 2
      · subst k2
        by_cases c1 : t = tx [] <;> by_cases c2 : i = 0 <;> first | (exfalso; simp [c1, c2, hp0] at hno; done) | (rw [q60]; simp (contextual := true) (implicitDefEqProofs := false) (decide := true) (maxSteps := 1000000) only [x60, go_sem, ev, h1, h3, row, room_ge, apK_grow, c0, g3, g4, g6, hpl, c1, c2])
      · rw [q60]; simp (contextual := true) (implicitDefEqProofs := false) (decide := true) (maxSteps := 1000000) only [x60, go_sem, ev, h1, h3, row, room_ge, apK_grow, c0, g3, g4, g6, hpl, k0, k1, k2]
theorem sy160 (n : List Say) (p : List (List Say)) (hp0 : p ≠ []) (h10 : p.length < 10) (hd : deskOk ⟨n, p⟩ = true) (t : ByteArray) (s : Say) (hs : rW t = some s) (ho : rowOk (n ++ [s]) = true) : CF E 60 [.p (.agg [.ls 3 (n.map say), .ls 1 ((p).map row)]), .p (.agg [.int .i64 0, .int .i64 0, .str t])] [] = some ⟨.p (.tup [.agg [.ls 3 ((n ++ [s]).map say), .ls 1 ((p ++ [n]).map row)], .bool true]), [], []⟩ := by
  have hd0 := hd
  simp only [deskOk, Bool.and_eq_true, decide_eq_true_eq] at hd0
  obtain ⟨⟨hn, hp⟩, hP⟩ := hd0
  have h := rowOk_lt hn
  have h1 := room_ge (n := n.length) (by omega)
  have h3 := room_ge (n := n.length + 1) (by omega)
  have hsz : Sz ⟨n, p⟩ := ⟨h1, room_ge (by simp only []; omega), fun r hr => room_ge (by have := rowOk_lt (List.all_eq_true.1 hP r hr); omega)⟩
  have ev := e13 ⟨n, p⟩ hsz
  rw [hd] at ev
  simp (contextual := true) (implicitDefEqProofs := false) (decide := true) (maxSteps := 1000000) only [row, go_sem] at ev
  have g3 := room_ge (n := p.length) (by omega)
  have g4 := room_ge (n := p.length + 1) (by omega)
  have g6 : ¬ (((p.length + 1 : Nat) : Int) > 10) := by omega
  have hpl : ((p.length : Int) > 0) := by have := List.length_pos_iff.2 hp0; omega
  have c0 := e110059 n p hp0 h1 g3 (fun r hr => room_ge (by have := rowOk_lt (List.all_eq_true.1 hP r hr); omega))
  have e := e49 (n ++ [s]) (by simpa using h3)
  simp (contextual := true) (implicitDefEqProofs := false) (decide := true) (maxSteps := 1000000) only [ho, say, go_sem] at e
  rw [q60]; simp (contextual := true) (implicitDefEqProofs := false) (decide := true) (maxSteps := 1000000) only [x60, go_sem, ev, h1, h3, row, room_ge, apK_grow, c0, g3, g4, g6, hpl, hs, e, say]
theorem dr160 (A B : List Say) (x : Say) (n : List Say) (p : List (List Say)) (hp0 : p ≠ []) (h10 : p.length < 10) (hd : deskOk ⟨n, p⟩ = true) (hnn : n = A ++ x :: B) : CF E 60 [.p (.agg [.ls 3 (n.map say), .ls 1 ((p).map row)]), .p (.agg [.int .i64 1, .int .i64 A.length, .str (tx [])])] [] = some ⟨.p (.tup [.agg [.ls 3 ((A ++ B).map say), .ls 1 ((p ++ [n]).map row)], .bool true]), [], []⟩ := by
  have hd0 := hd
  simp only [deskOk, Bool.and_eq_true, decide_eq_true_eq] at hd0
  obtain ⟨⟨hn, hp⟩, hP⟩ := hd0
  have h := rowOk_lt hn
  have h1 := room_ge (n := n.length) (by omega)
  have h3 := room_ge (n := n.length + 1) (by omega)
  have hsz : Sz ⟨n, p⟩ := ⟨h1, room_ge (by simp only []; omega), fun r hr => room_ge (by have := rowOk_lt (List.all_eq_true.1 hP r hr); omega)⟩
  have ev := e13 ⟨n, p⟩ hsz
  rw [hd] at ev
  simp (contextual := true) (implicitDefEqProofs := false) (decide := true) (maxSteps := 1000000) only [row, go_sem] at ev
  have g3 := room_ge (n := p.length) (by omega)
  have g4 := room_ge (n := p.length + 1) (by omega)
  have g6 : ¬ (((p.length + 1 : Nat) : Int) > 10) := by omega
  have hpl : ((p.length : Int) > 0) := by have := List.length_pos_iff.2 hp0; omega
  have c0 := e110059 n p hp0 h1 g3 (fun r hr => room_ge (by have := rowOk_lt (List.all_eq_true.1 hP r hr); omega))
  have hl : n.length = A.length + (B.length + 1) := by rw [hnn]; simp
  have w := w64 (n := (n.length : Int) - 1) (by omega) (by omega)
  have c4 : ((A.length : Int) ≥ 0 ∧ (A.length : Int) ≤ (n.length : Int) - 1) := by omega
  have c5 : (A.length : Int) ≤ n.length := by omega
  have c6 := w64s (n := A.length) (by omega)
  have c7 : ((A.length + 1 : Nat) : Int) ≤ n.length := by omega
  have c8 : (0 : Int) ≤ ((A.length + 1 : Nat) : Int) := by omega
  have t1 : List.take A.length (n.map say) = A.map say := by rw [hnn]; simp
  have t2 : List.drop (A.length + 1) (n.map say) = B.map say := by
    have e : A.length + 1 = (A ++ [x]).length := by simp
    rw [hnn, e, show A ++ x :: B = (A ++ [x]) ++ B by simp, List.map_append]
    exact List.drop_left' (by simp)
  have r1 := room_ge (n := A.length) (by omega)
  have r2 : A.length + B.length ≤ room := room_ge (by omega)
  have c9 : (0 : Int) ≤ (A.length : Int) := by omega
  have e1 : (apK 97 1 1 0 A.length 3 ((B.map say).map .p) (some ((A.map say).map .p))) = if B = [] then some (.ms 97 1 0 A.length 3, [(97, (1, some ((A.map say).map .p)))]) else some (.ms 97 2 0 (A.length + B.length) 3, [(97, (2, some ((A.map say).map .p ++ (B.map say).map .p)))]) := by
    by_cases hb : B = []
    · subst hb; simp [apK]
    · rw [if_neg hb, apK_grow (by simp) (by simp [List.length_pos_iff.2 hb]) (by simpa using r2)]; simp
  by_cases hb : B = []
  · subst hb
    rw [q60]; simp (contextual := true) (implicitDefEqProofs := false) (decide := true) (maxSteps := 1000000) only [x60, go_sem, ev, h1, h3, row, room_ge, apK_grow, c0, g3, g4, g6, hpl, w, c4, c5, c6, c7, c8, c9, t1, t2, r1, e1]
  · have hb0 : 0 < B.length := List.length_pos_iff.2 hb
    rw [q60]; simp (contextual := true) (implicitDefEqProofs := false) (decide := true) (maxSteps := 1000000) only [x60, go_sem, ev, h1, h3, row, room_ge, apK_grow, c0, g3, g4, g6, hpl, w, c4, c5, c6, c7, c8, c9, t1, t2, r1, r2, e1, hb]
theorem no260 (n : List Say) (r : List Say) (p : List (List Say)) (h10 : p.length = 9) (hd : deskOk ⟨n, r :: p⟩ = true) (k i : Int) (t : ByteArray) (hno : deskDo ⟨n, r :: p⟩ ⟨k, i, t⟩ = none) : CF E 60 [.p (.agg [.ls 3 (n.map say), .ls 1 ((r :: p).map row)]), .p (.agg [.int .i64 k, .int .i64 i, .str t])] [] = some ⟨.p (.tup [.agg [.ls 3 (n.map say), .ls 1 ((r :: p).map row)], .bool false]), [], []⟩ := by
  have hd0 := hd
  simp only [deskOk, Bool.and_eq_true, decide_eq_true_eq] at hd0
  obtain ⟨⟨hn, hp⟩, hP⟩ := hd0
  have h := rowOk_lt hn
  have h1 := room_ge (n := n.length) (by omega)
  have h3 := room_ge (n := n.length + 1) (by omega)
  have hsz : Sz ⟨n, r :: p⟩ := ⟨h1, room_ge (by simp only []; omega), fun r hr => room_ge (by have := rowOk_lt (List.all_eq_true.1 hP r hr); omega)⟩
  have ev := e13 ⟨n, r :: p⟩ hsz
  rw [hd] at ev
  simp (contextual := true) (implicitDefEqProofs := false) (decide := true) (maxSteps := 1000000) only [row, go_sem] at ev
  have g3 := room_ge (n := p.length) (by omega)
  have g4 := room_ge (n := p.length + 1) (by omega)
  have g8 := room_ge (n := p.length + 1 + 1) (by omega)
  have g6 : (((p.length + 1 + 1 : Nat) : Int) > 10) := by omega
  have g9 : ((1 : Int) ≤ ((p.length + 1 + 1 : Nat) : Int)) := by omega
  have g0 : p.length + 1 + 1 - 1 = p.length + 1 := by omega
  have hpl : (((p.length + 1 : Nat) : Int) > 0) := by omega
  have c0 := e110059 n (r :: p) (by simp) h1 (by simpa using g4) (fun r hr => room_ge (by have := rowOk_lt (List.all_eq_true.1 hP r hr); omega))
  simp (contextual := true) (implicitDefEqProofs := false) (decide := true) (maxSteps := 1000000) only [row, go_sem] at c0
  unfold deskDo at hno
  simp only [] at hno
  by_cases k0 : k = 0
  · subst k0
    by_cases m0 : i = 0
    · subst m0
      simp only [and_self, if_true] at hno
      cases hr : rW t with
      | none => rw [q60]; simp (contextual := true) (implicitDefEqProofs := false) (decide := true) (maxSteps := 1000000) only [x60, go_sem, ev, h1, h3, row, room_ge, apK_grow, c0, g3, g4, g6, g8, g9, g0, hpl, hr]
      | some s =>
        simp only [hr] at hno
        have ho : rowOk (n ++ [s]) = false := by
          cases c : rowOk (n ++ [s]) with
          | false => rfl
          | true => simp [c] at hno
        have e := e49 (n ++ [s]) (by simpa using h3)
        simp (contextual := true) (implicitDefEqProofs := false) (decide := true) (maxSteps := 1000000) only [ho, say, go_sem] at e
        rw [q60]; simp (contextual := true) (implicitDefEqProofs := false) (decide := true) (maxSteps := 1000000) only [x60, go_sem, ev, h1, h3, row, room_ge, apK_grow, c0, g3, g4, g6, g8, g9, g0, hpl, hr, e, say]
    · rw [q60]; simp (contextual := true) (implicitDefEqProofs := false) (decide := true) (maxSteps := 1000000) only [x60, go_sem, ev, h1, h3, row, room_ge, apK_grow, c0, g3, g4, g6, g8, g9, g0, hpl, m0]
  · by_cases k1 : k = 1
    · subst k1
      have w := w64 (n := (n.length : Int) - 1) (by omega) (by omega)
      by_cases c1 : t = tx [] <;> by_cases c2 : i ≥ 0 <;> by_cases c3 : i < n.length <;> first | (exfalso; have c2q : 0 ≤ i := c2; simp [c1, c2q, c3] at hno; done) | (have c4 : ¬ (i ≥ 0 ∧ i ≤ (n.length : Int) - 1) := (by omega); rw [q60]; simp (contextual := true) (implicitDefEqProofs := false) (decide := true) (maxSteps := 1000000) only [x60, go_sem, ev, h1, h3, row, room_ge, apK_grow, c0, g3, g4, g6, g8, g9, g0, hpl, c1, w, c4]) | (rw [q60]; simp (contextual := true) (implicitDefEqProofs := false) (decide := true) (maxSteps := 1000000) only [x60, go_sem, ev, h1, h3, row, room_ge, apK_grow, c0, g3, g4, g6, g8, g9, g0, hpl, c1, w])
    · by_cases k2 : k = 2
      · subst k2
        by_cases c1 : t = tx [] <;> by_cases c2 : i = 0 <;> first | (exfalso; simp [c1, c2] at hno; done) | (rw [q60]; simp (contextual := true) (implicitDefEqProofs := false) (decide := true) (maxSteps := 1000000) only [x60, go_sem, ev, h1, h3, row, room_ge, apK_grow, c0, g3, g4, g6, g8, g9, g0, hpl, c1, c2])
      · rw [q60]; simp (contextual := true) (implicitDefEqProofs := false) (decide := true) (maxSteps := 1000000) only [x60, go_sem, ev, h1, h3, row, room_ge, apK_grow, c0, g3, g4, g6, g8, g9, g0, hpl, k0, k1, k2]
theorem sy260 (n : List Say) (r : List Say) (p : List (List Say)) (h10 : p.length = 9) (hd : deskOk ⟨n, r :: p⟩ = true) (t : ByteArray) (s : Say) (hs : rW t = some s) (ho : rowOk (n ++ [s]) = true) : CF E 60 [.p (.agg [.ls 3 (n.map say), .ls 1 ((r :: p).map row)]), .p (.agg [.int .i64 0, .int .i64 0, .str t])] [] = some ⟨.p (.tup [.agg [.ls 3 ((n ++ [s]).map say), .ls 1 ((p ++ [n]).map row)], .bool true]), [], []⟩ := by
  have hd0 := hd
  simp only [deskOk, Bool.and_eq_true, decide_eq_true_eq] at hd0
  obtain ⟨⟨hn, hp⟩, hP⟩ := hd0
  have h := rowOk_lt hn
  have h1 := room_ge (n := n.length) (by omega)
  have h3 := room_ge (n := n.length + 1) (by omega)
  have hsz : Sz ⟨n, r :: p⟩ := ⟨h1, room_ge (by simp only []; omega), fun r hr => room_ge (by have := rowOk_lt (List.all_eq_true.1 hP r hr); omega)⟩
  have ev := e13 ⟨n, r :: p⟩ hsz
  rw [hd] at ev
  simp (contextual := true) (implicitDefEqProofs := false) (decide := true) (maxSteps := 1000000) only [row, go_sem] at ev
  have g3 := room_ge (n := p.length) (by omega)
  have g4 := room_ge (n := p.length + 1) (by omega)
  have g8 := room_ge (n := p.length + 1 + 1) (by omega)
  have g6 : (((p.length + 1 + 1 : Nat) : Int) > 10) := by omega
  have g9 : ((1 : Int) ≤ ((p.length + 1 + 1 : Nat) : Int)) := by omega
  have g0 : p.length + 1 + 1 - 1 = p.length + 1 := by omega
  have hpl : (((p.length + 1 : Nat) : Int) > 0) := by omega
  have c0 := e110059 n (r :: p) (by simp) h1 (by simpa using g4) (fun r hr => room_ge (by have := rowOk_lt (List.all_eq_true.1 hP r hr); omega))
  simp (contextual := true) (implicitDefEqProofs := false) (decide := true) (maxSteps := 1000000) only [row, go_sem] at c0
  have e := e49 (n ++ [s]) (by simpa using h3)
  simp (contextual := true) (implicitDefEqProofs := false) (decide := true) (maxSteps := 1000000) only [ho, say, go_sem] at e
  rw [q60]; simp (contextual := true) (implicitDefEqProofs := false) (decide := true) (maxSteps := 1000000) only [x60, go_sem, ev, h1, h3, row, room_ge, apK_grow, c0, g3, g4, g6, g8, g9, g0, hpl, hs, e, say]
theorem dr260 (A B : List Say) (x : Say) (n : List Say) (r : List Say) (p : List (List Say)) (h10 : p.length = 9) (hd : deskOk ⟨n, r :: p⟩ = true) (hnn : n = A ++ x :: B) : CF E 60 [.p (.agg [.ls 3 (n.map say), .ls 1 ((r :: p).map row)]), .p (.agg [.int .i64 1, .int .i64 A.length, .str (tx [])])] [] = some ⟨.p (.tup [.agg [.ls 3 ((A ++ B).map say), .ls 1 ((p ++ [n]).map row)], .bool true]), [], []⟩ := by
  have hd0 := hd
  simp only [deskOk, Bool.and_eq_true, decide_eq_true_eq] at hd0
  obtain ⟨⟨hn, hp⟩, hP⟩ := hd0
  have h := rowOk_lt hn
  have h1 := room_ge (n := n.length) (by omega)
  have h3 := room_ge (n := n.length + 1) (by omega)
  have hsz : Sz ⟨n, r :: p⟩ := ⟨h1, room_ge (by simp only []; omega), fun r hr => room_ge (by have := rowOk_lt (List.all_eq_true.1 hP r hr); omega)⟩
  have ev := e13 ⟨n, r :: p⟩ hsz
  rw [hd] at ev
  simp (contextual := true) (implicitDefEqProofs := false) (decide := true) (maxSteps := 1000000) only [row, go_sem] at ev
  have g3 := room_ge (n := p.length) (by omega)
  have g4 := room_ge (n := p.length + 1) (by omega)
  have g8 := room_ge (n := p.length + 1 + 1) (by omega)
  have g6 : (((p.length + 1 + 1 : Nat) : Int) > 10) := by omega
  have g9 : ((1 : Int) ≤ ((p.length + 1 + 1 : Nat) : Int)) := by omega
  have g0 : p.length + 1 + 1 - 1 = p.length + 1 := by omega
  have hpl : (((p.length + 1 : Nat) : Int) > 0) := by omega
  have c0 := e110059 n (r :: p) (by simp) h1 (by simpa using g4) (fun r hr => room_ge (by have := rowOk_lt (List.all_eq_true.1 hP r hr); omega))
  simp (contextual := true) (implicitDefEqProofs := false) (decide := true) (maxSteps := 1000000) only [row, go_sem] at c0
  have hl : n.length = A.length + (B.length + 1) := by rw [hnn]; simp
  have w := w64 (n := (n.length : Int) - 1) (by omega) (by omega)
  have c4 : ((A.length : Int) ≥ 0 ∧ (A.length : Int) ≤ (n.length : Int) - 1) := by omega
  have c5 : (A.length : Int) ≤ n.length := by omega
  have c6 := w64s (n := A.length) (by omega)
  have c7 : ((A.length + 1 : Nat) : Int) ≤ n.length := by omega
  have c8 : (0 : Int) ≤ ((A.length + 1 : Nat) : Int) := by omega
  have t1 : List.take A.length (n.map say) = A.map say := by rw [hnn]; simp
  have t2 : List.drop (A.length + 1) (n.map say) = B.map say := by
    have e : A.length + 1 = (A ++ [x]).length := by simp
    rw [hnn, e, show A ++ x :: B = (A ++ [x]) ++ B by simp, List.map_append]
    exact List.drop_left' (by simp)
  have r1 := room_ge (n := A.length) (by omega)
  have r2 : A.length + B.length ≤ room := room_ge (by omega)
  have c9 : (0 : Int) ≤ (A.length : Int) := by omega
  have e1 : (apK 97 1 1 0 A.length 3 ((B.map say).map .p) (some ((A.map say).map .p))) = if B = [] then some (.ms 97 1 0 A.length 3, [(97, (1, some ((A.map say).map .p)))]) else some (.ms 97 2 0 (A.length + B.length) 3, [(97, (2, some ((A.map say).map .p ++ (B.map say).map .p)))]) := by
    by_cases hb : B = []
    · subst hb; simp [apK]
    · rw [if_neg hb, apK_grow (by simp) (by simp [List.length_pos_iff.2 hb]) (by simpa using r2)]; simp
  by_cases hb : B = []
  · subst hb
    rw [q60]; simp (contextual := true) (implicitDefEqProofs := false) (decide := true) (maxSteps := 1000000) only [x60, go_sem, ev, h1, h3, row, room_ge, apK_grow, c0, g3, g4, g6, g8, g9, g0, hpl, w, c4, c5, c6, c7, c8, c9, t1, t2, r1, e1]
  · have hb0 : 0 < B.length := List.length_pos_iff.2 hb
    rw [q60]; simp (contextual := true) (implicitDefEqProofs := false) (decide := true) (maxSteps := 1000000) only [x60, go_sem, ev, h1, h3, row, room_ge, apK_grow, c0, g3, g4, g6, g8, g9, g0, hpl, w, c4, c5, c6, c7, c8, c9, t1, t2, r1, r2, e1, hb]
theorem bk60 (n r : List Say) (p : List (List Say)) (hd : deskOk ⟨n, p ++ [r]⟩ = true) : CF E 60 [.p (.agg [.ls 3 (n.map say), .ls 1 ((p ++ [r]).map row)]), .p (.agg [.int .i64 2, .int .i64 0, .str (tx [])])] [] = some ⟨.p (.tup [.agg [.ls 3 (r.map say), .ls 1 (p.map row)], .bool true]), [], []⟩ := by
  have hd0 := hd
  simp only [deskOk, Bool.and_eq_true, decide_eq_true_eq] at hd0
  obtain ⟨⟨hn, hp⟩, hP⟩ := hd0
  simp at hp
  have h := rowOk_lt hn
  have h1 := room_ge (n := n.length) (by omega)
  have g4 := room_ge (n := p.length + 1) (by omega)
  have hR : ∀ x ∈ p ++ [r], x.length ≤ room := fun r hr => room_ge (by have := rowOk_lt (List.all_eq_true.1 hP r hr); omega)
  have ev := e13 ⟨n, p ++ [r]⟩ ⟨h1, by simpa using g4, hR⟩
  rw [hd] at ev
  simp (contextual := true) (implicitDefEqProofs := false) (decide := true) (maxSteps := 1000000) only [row, go_sem] at ev
  have g6 : (((p.length + 1 : Nat) : Int) > 0) := by omega
  have g7 : IntKind.wrap .i64 (((p.length + 1 : Nat) : Int) - 1) = p.length := by rw [w64 (by omega) (by omega)]; omega
  have g8 : ((p.length : Int) < ((p.length + 1 : Nat) : Int)) := by omega
  have g9 : ((p.length : Int) ≤ ((p.length + 1 : Nat) : Int)) := by omega
  have ga : (0 : Int) ≤ (p.length : Int) := by omega
  have g2 : (List.map AV.p (List.map row p) ++ [AV.p (.ls 3 (List.map say r))])[p.length]? = some (AV.p (.ls 3 (List.map say r))) := by
    rw [List.getElem?_append_right (by simp)]; simp
  have g5 : List.take p.length (List.map row p ++ [PV.ls 3 (List.map say r)]) = List.map row p := by
    exact List.take_left' (by simp)
  have c0 := e110059 n (p ++ [r]) (by simp) h1 (by simpa using g4) hR
  simp (contextual := true) (implicitDefEqProofs := false) (decide := true) (maxSteps := 1000000) only [row, go_sem] at c0
  rw [q60]; simp (contextual := true) (implicitDefEqProofs := false) (decide := true) (maxSteps := 1000000) only [x60, go_sem, ev, h1, row, c0, g6, g7, g8, g9, ga, g2, g5]
theorem push1 {p : List (List Say)} {n : List Say} (h : p.length < 10) : push p n = p ++ [n] := if_pos h
theorem push2 {p : List (List Say)} {n r : List Say} (h : p.length = 9) : push (r :: p) n = p ++ [n] := by
  simp only [push]; rw [if_neg (by simp; omega)]; rfl
theorem ed60 (d : Desk) (a : Deed) (hd : deskOk d = true) : CF E 60 [.p (.agg [.ls 3 (d.now.map say), .ls 1 (d.past.map row)]), .p (.agg [.int .i64 a.k, .int .i64 a.n, .str a.t])] [] = some ⟨.p (.tup [.agg [.ls 3 (((deskDo d a).getD d).now.map say), .ls 1 (((deskDo d a).getD d).past.map row)], .bool (deskDo d a).isSome]), [], []⟩ := by
  obtain ⟨n, p⟩ := d
  obtain ⟨k, i, t⟩ := a
  have hp : p.length ≤ 10 := by
    simp only [deskOk, Bool.and_eq_true, decide_eq_true_eq] at hd
    exact hd.1.2
  have three : p = [] ∨ (p ≠ [] ∧ p.length < 10) ∨ ∃ r q, p = r :: q ∧ q.length = 9 := by
    cases p with
    | nil => exact .inl rfl
    | cons r q =>
      by_cases h : (r :: q).length < 10
      · exact .inr (.inl ⟨by simp, h⟩)
      · exact .inr (.inr ⟨r, q, rfl, by simp at h hp; omega⟩)
  cases h : deskDo ⟨n, p⟩ ⟨k, i, t⟩ with
  | none =>
    rcases three with rfl | ⟨h1, h2⟩ | ⟨r, q, rfl, h1⟩
    · exact no060 n hd k i t h
    · exact no160 n p h1 h2 hd k i t h
    · exact no260 n r q h1 hd k i t h
  | some d' =>
    rcases deskDo_cases h with ⟨h1, h2, s, hs, hr, rfl⟩ | ⟨h1, h2, A, x, B, hA, h3, rfl⟩ | ⟨h1, h2, h3, q, r, hq, rfl⟩
    · obtain rfl : k = 0 := h1
      obtain rfl : i = 0 := h2
      simp only [Option.getD_some, Option.isSome_some]
      rcases three with rfl | ⟨h1, h2⟩ | ⟨r, q, rfl, h1⟩
      · exact sy060 n hd t s hs hr
      · rw [push1 h2]; exact sy160 n p h1 h2 hd t s hs hr
      · rw [push2 h1]; exact sy260 n r q h1 hd t s hs hr
    · obtain rfl : k = 1 := h1
      obtain rfl : t = tx [] := h2
      obtain rfl : i = A.length := h3
      simp only [Option.getD_some, Option.isSome_some]
      rcases three with rfl | ⟨h1, h2⟩ | ⟨r, q, rfl, h1⟩
      · exact dr060 A B x n hd hA
      · rw [push1 h2]; exact dr160 A B x n p h1 h2 hd hA
      · rw [push2 h1]; exact dr260 A B x n r q h1 hd hA
    · obtain rfl : k = 2 := h1
      obtain rfl : i = 0 := h2
      obtain rfl : t = tx [] := h3
      obtain rfl : p = q ++ [r] := hq
      exact bk60 n r q hd
@[go_sem] theorem e60 (d : Desk) (a : Deed) (hd : Sz d) : CF E 60 [.p (.agg [.ls 3 (d.now.map say), .ls 1 (d.past.map row)]), .p (.agg [.int .i64 a.k, .int .i64 a.n, .str a.t])] [] = some ⟨.p (.tup [.agg [.ls 3 ((doD d a).now.map say), .ls 1 ((doD d a).past.map row)], .bool (doB d a)]), [], []⟩ := by
  cases h : deskOk d with
  | false =>
    have e := e13 d hd
    rw [h] at e
    simp only [doD, doB, h, Bool.false_eq_true, if_false, none0]
    rw [q60]; simp (contextual := true) (implicitDefEqProofs := false) (decide := true) (maxSteps := 1000000) only [x60, go_sem, e]
  | true =>
    simp only [doD, doB, h, if_true, Bool.true_and]
    exact ed60 d a h
end Go.Proofs.YtjlebmnlphjjoaaGreatDoor.Fx
