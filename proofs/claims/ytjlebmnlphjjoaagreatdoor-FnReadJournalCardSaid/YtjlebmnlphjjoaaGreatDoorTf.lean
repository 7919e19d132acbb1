import Derived.Test.YtjlebmnlphjjoaaGreatDoorTd
set_option linter.unusedVariables false
set_option linter.unusedSimpArgs false
/- A desk after a deed, told by the reference, its rows boxes of their own; no condition. -/
open Go Go.Proofs.YtjlebmnlphjjoaaGreatDoor.Abs
namespace Go.Proofs.YtjlebmnlphjjoaaGreatDoor.Fx
set_option maxRecDepth 100000
set_option maxHeartbeats 8000000
set_option linter.unusedSimpArgs false
set_option linter.unusedVariables false
theorem no510060 (n : List Say) (r0 r1 r2 r3 r4 : List Say) (hd : deskOk ⟨n, [r0, r1, r2, r3, r4]⟩ = true) (k i : Int) (t : ByteArray) (hno : deskDo ⟨n, [r0, r1, r2, r3, r4]⟩ ⟨k, i, t⟩ = none) : CF E 10060 [.p (.agg [.ls 3 (n.map say), .ls 1 [.ls 3 (r0.map say), .ls 3 (r1.map say), .ls 3 (r2.map say), .ls 3 (r3.map say), .ls 3 (r4.map say)]]), .p (.agg [.int .i64 k, .int .i64 i, .str t])] [] = some ⟨.tu [.ag [.ms 950 0 0 n.length 3, .ms 951 0 0 5 1], .p (.bool false)], [], [(n.map say).map .p, [.ms 952 0 0 r0.length 3, .ms 953 0 0 r1.length 3, .ms 954 0 0 r2.length 3, .ms 955 0 0 r3.length 3, .ms 956 0 0 r4.length 3], (r0.map say).map .p, (r1.map say).map .p, (r2.map say).map .p, (r3.map say).map .p, (r4.map say).map .p]⟩ := by
  have hd0 := hd
  simp only [deskOk, Bool.and_eq_true, decide_eq_true_eq, List.all_cons, List.all_nil] at hd0
  obtain ⟨⟨hn, _⟩, hP⟩ := hd0
  have h := rowOk_lt hn
  have h1 := room_ge (n := n.length) (by omega)
  have h3 := room_ge (n := n.length + 1) (by omega)
  obtain ⟨k0, k1, k2, k3, k4, _⟩ := hP
  have g0 := room_ge (n := r0.length) (by have := rowOk_lt k0; omega)
  have g1 := room_ge (n := r1.length) (by have := rowOk_lt k1; omega)
  have g2 := room_ge (n := r2.length) (by have := rowOk_lt k2; omega)
  have g3 := room_ge (n := r3.length) (by have := rowOk_lt k3; omega)
  have g4 := room_ge (n := r4.length) (by have := rowOk_lt k4; omega)
  have ev := e13 ⟨n, [r0, r1, r2, r3, r4]⟩ ⟨h1, room_ge (by simp), by simp [g0, g1, g2, g3, g4]⟩
  rw [hd] at ev
  simp (contextual := true) (implicitDefEqProofs := false) (decide := true) (maxSteps := 1000000) only [row, go_sem] at ev
  unfold deskDo at hno
  simp only [] at hno
  by_cases k0 : k = 0
  · subst k0
    by_cases m0 : i = 0
    · subst m0
      simp only [and_self, if_true] at hno
      cases hr : rW t with
      | none => rw [q10060]; simp (contextual := true) (implicitDefEqProofs := false) (decide := true) (maxSteps := 1000000) only [x10060, go_sem, ev, h1, h3, row, room_ge, apK_grow, g0, g1, g2, g3, g4, hr]
      | some s =>
        simp only [hr] at hno
        have ho : rowOk (n ++ [s]) = false := by
          cases c : rowOk (n ++ [s]) with
          | false => rfl
          | true => simp [c] at hno
        have e := e49 (n ++ [s]) (by simpa using h3)
        simp (contextual := true) (implicitDefEqProofs := false) (decide := true) (maxSteps := 1000000) only [ho, say, go_sem] at e
        rw [q10060]; simp (contextual := true) (implicitDefEqProofs := false) (decide := true) (maxSteps := 1000000) only [x10060, go_sem, ev, h1, h3, row, room_ge, apK_grow, g0, g1, g2, g3, g4, hr, e, say]
    · rw [q10060]; simp (contextual := true) (implicitDefEqProofs := false) (decide := true) (maxSteps := 1000000) only [x10060, go_sem, ev, h1, h3, row, room_ge, apK_grow, g0, g1, g2, g3, g4, m0]
  · by_cases k1 : k = 1
    · subst k1
      have w := w64 (n := (n.length : Int) - 1) (by omega) (by omega)
      by_cases c1 : t = tx [] <;> by_cases c2 : i ≥ 0 <;> by_cases c3 : i < n.length <;> first | (exfalso; have c2q : 0 ≤ i := c2; simp [c1, c2q, c3] at hno; done) | (have c4 : ¬ (i ≥ 0 ∧ i ≤ (n.length : Int) - 1) := (by omega); rw [q10060]; simp (contextual := true) (implicitDefEqProofs := false) (decide := true) (maxSteps := 1000000) only [x10060, go_sem, ev, h1, h3, row, room_ge, apK_grow, g0, g1, g2, g3, g4, c1, w, c4]) | (rw [q10060]; simp (contextual := true) (implicitDefEqProofs := false) (decide := true) (maxSteps := 1000000) only [x10060, go_sem, ev, h1, h3, row, room_ge, apK_grow, g0, g1, g2, g3, g4, c1, w])
    · by_cases k2 : k = 2
      · subst k2
        by_cases c1 : t = tx [] <;> by_cases c2 : i = 0 <;> first | (exfalso; simp [c1, c2] at hno; done) | (rw [q10060]; simp (contextual := true) (implicitDefEqProofs := false) (decide := true) (maxSteps := 1000000) only [x10060, go_sem, ev, h1, h3, row, room_ge, apK_grow, g0, g1, g2, g3, g4, c1, c2])
      · rw [q10060]; simp (contextual := true) (implicitDefEqProofs := false) (decide := true) (maxSteps := 1000000) only [x10060, go_sem, ev, h1, h3, row, room_ge, apK_grow, g0, g1, g2, g3, g4, k0, k1, k2]
theorem sy510060 (n : List Say) (r0 r1 r2 r3 r4 : List Say) (hd : deskOk ⟨n, [r0, r1, r2, r3, r4]⟩ = true) (t : ByteArray) (s : Say) (hs : rW t = some s) (ho : rowOk (n ++ [s]) = true) : CF E 10060 [.p (.agg [.ls 3 (n.map say), .ls 1 [.ls 3 (r0.map say), .ls 3 (r1.map say), .ls 3 (r2.map say), .ls 3 (r3.map say), .ls 3 (r4.map say)]]), .p (.agg [.int .i64 0, .int .i64 0, .str t])] [] = some ⟨.tu [.ag [.ms 950 0 0 (n ++ [s]).length 3, .ms 951 0 0 6 1], .p (.bool true)], [], [((n ++ [s]).map say).map .p, [.ms 952 0 0 r0.length 3, .ms 953 0 0 r1.length 3, .ms 954 0 0 r2.length 3, .ms 955 0 0 r3.length 3, .ms 956 0 0 r4.length 3, .ms 957 0 0 n.length 3], (r0.map say).map .p, (r1.map say).map .p, (r2.map say).map .p, (r3.map say).map .p, (r4.map say).map .p, (n.map say).map .p]⟩ := by
  have hd0 := hd
  simp only [deskOk, Bool.and_eq_true, decide_eq_true_eq, List.all_cons, List.all_nil] at hd0
  obtain ⟨⟨hn, _⟩, hP⟩ := hd0
  have h := rowOk_lt hn
  have h1 := room_ge (n := n.length) (by omega)
  have h3 := room_ge (n := n.length + 1) (by omega)
  obtain ⟨k0, k1, k2, k3, k4, _⟩ := hP
  have g0 := room_ge (n := r0.length) (by have := rowOk_lt k0; omega)
  have g1 := room_ge (n := r1.length) (by have := rowOk_lt k1; omega)
  have g2 := room_ge (n := r2.length) (by have := rowOk_lt k2; omega)
  have g3 := room_ge (n := r3.length) (by have := rowOk_lt k3; omega)
  have g4 := room_ge (n := r4.length) (by have := rowOk_lt k4; omega)
  have ev := e13 ⟨n, [r0, r1, r2, r3, r4]⟩ ⟨h1, room_ge (by simp), by simp [g0, g1, g2, g3, g4]⟩
  rw [hd] at ev
  simp (contextual := true) (implicitDefEqProofs := false) (decide := true) (maxSteps := 1000000) only [row, go_sem] at ev
  have e := e49 (n ++ [s]) (by simpa using h3)
  simp (contextual := true) (implicitDefEqProofs := false) (decide := true) (maxSteps := 1000000) only [ho, say, go_sem] at e
  rw [q10060]; simp (contextual := true) (implicitDefEqProofs := false) (decide := true) (maxSteps := 1000000) only [x10060, go_sem, ev, h1, h3, row, room_ge, apK_grow, g0, g1, g2, g3, g4, hs, e, say]
theorem dr510060 (n A B : List Say) (x : Say) (r0 r1 r2 r3 r4 : List Say) (hd : deskOk ⟨n, [r0, r1, r2, r3, r4]⟩ = true) (hnn : n = A ++ x :: B) : CF E 10060 [.p (.agg [.ls 3 (n.map say), .ls 1 [.ls 3 (r0.map say), .ls 3 (r1.map say), .ls 3 (r2.map say), .ls 3 (r3.map say), .ls 3 (r4.map say)]]), .p (.agg [.int .i64 1, .int .i64 A.length, .str (tx [])])] [] = some ⟨.tu [.ag [.ms 950 0 0 (A ++ B).length 3, .ms 951 0 0 6 1], .p (.bool true)], [], [((A ++ B).map say).map .p, [.ms 952 0 0 r0.length 3, .ms 953 0 0 r1.length 3, .ms 954 0 0 r2.length 3, .ms 955 0 0 r3.length 3, .ms 956 0 0 r4.length 3, .ms 957 0 0 n.length 3], (r0.map say).map .p, (r1.map say).map .p, (r2.map say).map .p, (r3.map say).map .p, (r4.map say).map .p, (n.map say).map .p]⟩ := by
  have hd0 := hd
  simp only [deskOk, Bool.and_eq_true, decide_eq_true_eq, List.all_cons, List.all_nil] at hd0
  obtain ⟨⟨hn, _⟩, hP⟩ := hd0
  have h := rowOk_lt hn
  have h1 := room_ge (n := n.length) (by omega)
  have h3 := room_ge (n := n.length + 1) (by omega)
  obtain ⟨k0, k1, k2, k3, k4, _⟩ := hP
  have g0 := room_ge (n := r0.length) (by have := rowOk_lt k0; omega)
  have g1 := room_ge (n := r1.length) (by have := rowOk_lt k1; omega)
  have g2 := room_ge (n := r2.length) (by have := rowOk_lt k2; omega)
  have g3 := room_ge (n := r3.length) (by have := rowOk_lt k3; omega)
  have g4 := room_ge (n := r4.length) (by have := rowOk_lt k4; omega)
  have ev := e13 ⟨n, [r0, r1, r2, r3, r4]⟩ ⟨h1, room_ge (by simp), by simp [g0, g1, g2, g3, g4]⟩
  rw [hd] at ev
  simp (contextual := true) (implicitDefEqProofs := false) (decide := true) (maxSteps := 1000000) only [row, go_sem] at ev
  have hl : n.length = A.length + (B.length + 1) := by rw [hnn]; simp
  have w := w64 (n := (n.length : Int) - 1) (by omega) (by omega)
  have c4 : ((A.length : Int) ≥ 0 ∧ (A.length : Int) ≤ (n.length : Int) - 1) := by omega
  have c5 : (A.length : Int) ≤ n.length := by omega
  have c6 := w64s (n := A.length) (by omega)
  have c7 : ((A.length + 1 : Nat) : Int) ≤ n.length := by omega
  have c8 : (0 : Int) ≤ ((A.length + 1 : Nat) : Int) := by omega
  have t1 : List.take A.length (n.map say) = A.map say := by rw [hnn]; simp
  have t2 : List.drop (A.length + 1) (n.map say) = B.map say := by
    have e : A.length + 1 = (A ++ [x]).length := by simp
    rw [hnn, e, show A ++ x :: B = (A ++ [x]) ++ B by simp, List.map_append]
    exact List.drop_left' (by simp)
  have r1 := room_ge (n := A.length) (by omega)
  have r2 : A.length + B.length ≤ room := room_ge (by omega)
  have c9 : (0 : Int) ≤ (A.length : Int) := by omega
  have e1 : (apK 97 1 1 0 A.length 3 ((B.map say).map .p) (some ((A.map say).map .p))) = if B = [] then some (.ms 97 1 0 A.length 3, [(97, (1, some ((A.map say).map .p)))]) else some (.ms 97 2 0 (A.length + B.length) 3, [(97, (2, some ((A.map say).map .p ++ (B.map say).map .p)))]) := by
    by_cases hb : B = []
    · subst hb; simp [apK]
    · rw [if_neg hb, apK_grow (by simp) (by simp [List.length_pos_iff.2 hb]) (by simpa using r2)]; simp
  by_cases hb : B = []
  · subst hb
    rw [q10060]; simp (contextual := true) (implicitDefEqProofs := false) (decide := true) (maxSteps := 1000000) only [x10060, go_sem, ev, h1, h3, row, room_ge, apK_grow, g0, g1, g2, g3, g4, w, c4, c5, c6, c7, c8, c9, t1, t2, r1, e1]
  · have hb0 : 0 < B.length := List.length_pos_iff.2 hb
    rw [q10060]; simp (contextual := true) (implicitDefEqProofs := false) (decide := true) (maxSteps := 1000000) only [x10060, go_sem, ev, h1, h3, row, room_ge, apK_grow, g0, g1, g2, g3, g4, w, c4, c5, c6, c7, c8, c9, t1, t2, r1, r2, e1, hb]
theorem bk510060 (n : List Say) (r0 r1 r2 r3 r4 : List Say) (hd : deskOk ⟨n, [r0, r1, r2, r3, r4]⟩ = true) : CF E 10060 [.p (.agg [.ls 3 (n.map say), .ls 1 [.ls 3 (r0.map say), .ls 3 (r1.map say), .ls 3 (r2.map say), .ls 3 (r3.map say), .ls 3 (r4.map say)]]), .p (.agg [.int .i64 2, .int .i64 0, .str (tx [])])] [] = some ⟨.tu [.ag [.ms 950 0 0 r4.length 3, .ms 951 0 0 4 1], .p (.bool true)], [], [(r4.map say).map .p, [.ms 952 0 0 r0.length 3, .ms 953 0 0 r1.length 3, .ms 954 0 0 r2.length 3, .ms 955 0 0 r3.length 3, .ms 950 0 0 r4.length 3], (r0.map say).map .p, (r1.map say).map .p, (r2.map say).map .p, (r3.map say).map .p]⟩ := by
  have hd0 := hd
  simp only [deskOk, Bool.and_eq_true, decide_eq_true_eq, List.all_cons, List.all_nil] at hd0
  obtain ⟨⟨hn, _⟩, hP⟩ := hd0
  have h := rowOk_lt hn
  have h1 := room_ge (n := n.length) (by omega)
  have h3 := room_ge (n := n.length + 1) (by omega)
  obtain ⟨k0, k1, k2, k3, k4, _⟩ := hP
  have g0 := room_ge (n := r0.length) (by have := rowOk_lt k0; omega)
  have g1 := room_ge (n := r1.length) (by have := rowOk_lt k1; omega)
  have g2 := room_ge (n := r2.length) (by have := rowOk_lt k2; omega)
  have g3 := room_ge (n := r3.length) (by have := rowOk_lt k3; omega)
  have g4 := room_ge (n := r4.length) (by have := rowOk_lt k4; omega)
  have ev := e13 ⟨n, [r0, r1, r2, r3, r4]⟩ ⟨h1, room_ge (by simp), by simp [g0, g1, g2, g3, g4]⟩
  rw [hd] at ev
  simp (contextual := true) (implicitDefEqProofs := false) (decide := true) (maxSteps := 1000000) only [row, go_sem] at ev
  rw [q10060]; simp (contextual := true) (implicitDefEqProofs := false) (decide := true) (maxSteps := 1000000) only [x10060, go_sem, ev, h1, h3, row, room_ge, apK_grow, g0, g1, g2, g3, g4]
end Go.Proofs.YtjlebmnlphjjoaaGreatDoor.Fx
