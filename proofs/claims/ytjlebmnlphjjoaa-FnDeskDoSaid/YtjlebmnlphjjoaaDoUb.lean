import Derived.Test.YtjlebmnlphjjoaaDoTo
import Derived.Test.YtjlebmnlphjjoaaDoRj
set_option linter.unusedVariables false
set_option linter.unusedSimpArgs false
/- The law of DeskDo; no condition. -/
open Go Go.Proofs.Ytjlebmnlphjjoaa.Abs
namespace Go.Proofs.Ytjlebmnlphjjoaa.Fx
set_option maxRecDepth 100000
set_option maxHeartbeats 8000000
set_option linter.unusedSimpArgs false
set_option linter.unusedVariables false
def neg4 (x : R4) : R4 := ⟨-x.a, -x.b, -x.c, -x.d⟩
theorem wts_con {s : Say} (hs : wOk s = true) : wts (con s) = neg4 (wts s) ∧ strict (con s) = !strict s := by
  obtain ⟨f, o, t⟩ := s
  simp only [wOk, decide_eq_true_eq] at hs
  obtain ⟨f1, f2, o1, o2, t1, t2⟩ := hs
  have : f = 0 ∨ f = 1 ∨ f = 2 ∨ f = 3 ∨ f = 4 ∨ f = 5 := by omega
  rcases this with rfl | rfl | rfl | rfl | rfl | rfl <;> rcases four o1 o2 with rfl | rfl | rfl | rfl <;> rcases four t1 t2 with rfl | rfl | rfl | rfl <;> exact ⟨by decide, by decide⟩
theorem dot_neg (x y : R4) : dot x (neg4 y) = -dot x y := by
  simp only [dot, neg4, Int.mul_neg]; omega
/-- A sentence or its contrary. -/
theorem so_con (x : R4) {s : Say} (hs : wOk s = true) : so x (con s) = !so x s := by
  obtain ⟨h1, h2⟩ := wts_con hs
  unfold so
  rw [h1, h2, dot_neg]
  generalize dot x (wts s) = n
  cases strict s
  · by_cases h : n ≥ 0
    · have : ¬ (-n > 0) := by omega
      simp [h, this]
    · have : -n > 0 := by omega
      simp [h]; omega
  · by_cases h : n > 0
    · have : ¬ (-n ≥ 0) := by omega
      simp [h, this]
    · have : -n ≥ 0 := by omega
      simp [h]; omega
/-- What is said follows. -/
theorem follows_mem {N : List Say} {s : Say} (hm : s ∈ N) (hs : wOk s = true) : follows N s = true := by
  unfold follows
  rw [Bool.not_eq_true', Bool.eq_false_iff]
  intro h
  unfold counts at h
  rw [List.all_eq_true] at h
  have h1 := h s (by simp [hm])
  have h2 := h (con s) (by simp)
  rw [so_con _ hs, h1] at h2
  cases h2
theorem nowOk_w : ∀ {N pre : List Say}, nowOk pre N = true → ∀ s ∈ N, wOk s = true
  | [], _, _, s, hs => by cases hs
  | a :: N, pre, h, s, hs => by
    simp only [nowOk, Bool.and_eq_true] at h
    rcases List.mem_cons.1 hs with rfl | hs
    · exact h.1.1
    · exact nowOk_w h.2 s hs
theorem rowOk_w {N : List Say} (h : rowOk N = true) : ∀ s ∈ N, wOk s = true := by
  simp only [rowOk, Bool.and_eq_true] at h
  exact nowOk_w h.1
theorem push_back {p : List (List Say)} {n m : List Say} (h : p.length < 10) : deskDo ⟨m, push p n⟩ ⟨2, 0, tx []⟩ = some ⟨n, p⟩ := by
  rw [push1 h]
  simp [deskDo]
theorem law4 (b : List Int) (hb : ∀ x ∈ b, 0 ≤ x ∧ x ≤ 255) : CF E 4 [.p (.ls 1 (b.map u8))] [] = some ⟨.p (.bool true), [], []⟩ := by
  by_cases hlen : (b.length : Int) > 1048576
  · rw [q4]; simp (contextual := true) (implicitDefEqProofs := false) (decide := true) (maxSteps := 1000000) only [x4, go_sem, hlen]
  have hl : b.length ≤ room := by unfold room; omega
  obtain ⟨d, a, hs, e⟩ := e13 b hb hl
  have hd := hs.sz
  cases hv : deskOk d with
  | false =>
    have ev := e12 d hd
    rw [hv] at ev
    have c1 : doD d a = none0 := by simp [doD, hv]
    have c2 : doB d a = false := by simp [doB, hv]
    rw [q4]; simp (contextual := true) (implicitDefEqProofs := false) (decide := true) (maxSteps := 1000000) only [x4, go_sem, hlen, e, hd, c1, c2, Sz0, ev]
    by_cases h : none0 = d <;> simp [h]
  | true =>
    have ev := e12 d hd
    rw [hv] at ev
    cases ho : deskDo d a with
    | none =>
      have c1 : doD d a = d := by simp [doD, hv, ho]
      have c2 : doB d a = false := by simp [doB, hv, ho]
      rw [q4]; simp (contextual := true) (implicitDefEqProofs := false) (decide := true) (maxSteps := 1000000) only [x4, go_sem, hlen, e, hd, c1, c2, ev]
    | some d' =>
      have hk := (deskDo_ok hv ho).1
      have hd' := deskOk_sz hk
      have ev' := e12 d' hd'
      rw [hk] at ev'
      have c1 : doD d a = d' := by simp [doD, hv, ho]
      have c2 : doB d a = true := by simp [doB, hv, ho]
      have eb := e14 d' ⟨2, 0, tx []⟩ hd'
      have hp : d.past.length ≤ 10 := by
        simp only [deskOk, Bool.and_eq_true, decide_eq_true_eq] at hv
        exact hv.1.2
      have p10 : ((d.past.length : Int) ≥ 10) ∨ d.past.length < 10 := by omega
      have eA := e14 d a hd
      have eS := e15 d a hd
      rw [c1, c2] at eA eS
      rcases deskDo_cases ho with ⟨h1, h2, s, hs, hr, he⟩ | ⟨h1, h2, A, x, B, hA, h3, he⟩ | ⟨h1, h2, h3, q, r, hq, he⟩
      · rw [h1, h2] at eA eS
        have hn : d'.now = d.now ++ [s] := by rw [he]
        have hw := rowOk_w hr s (by simp)
        have hwf := rowOk_lt hr
        have F := e17 d'.now s (room_ge (by rw [hn]; omega))
        have hF : (weighed d'.now && decide (d'.now.length ≠ 6) && wOk s && follows d'.now s) = true := by
          rw [hn]
          have w1 : weighed (d.now ++ [s]) = true := by
            simp only [weighed, Bool.and_eq_true, decide_eq_true_eq, List.all_eq_true]
            exact ⟨by omega, rowOk_w hr⟩
          rw [w1, hw, follows_mem (by simp) hw]
          have : decide ((d.now ++ [s]).length ≠ 6) = true := decide_eq_true (by omega)
          rw [this]; rfl
        rw [hF] at F
        rcases p10 with p | p
        · rw [q4]; simp (contextual := true) (implicitDefEqProofs := false) (decide := true) (maxSteps := 1000000) only [x4, go_sem, hlen, e, hd, hd', eA, eS, ev', eb, h1, h2, hs, F, p]
        · have np : ¬ ((d.past.length : Int) ≥ 10) := by omega
          have b1 : doD d' ⟨2, 0, tx []⟩ = d := by simp only [doD, hk, if_true]; rw [he, push_back p]; rfl
          have b2 : doB d' ⟨2, 0, tx []⟩ = true := by simp only [doB, hk]; rw [he, push_back p]; rfl
          rw [b1, b2] at eb
          rw [q4]; simp (contextual := true) (implicitDefEqProofs := false) (decide := true) (maxSteps := 1000000) only [x4, go_sem, hlen, e, hd, hd', eA, eS, ev', eb, h1, h2, hs, F, np]
      · rw [h1, h2] at eA eS
        rcases p10 with p | p
        · rw [q4]; simp (contextual := true) (implicitDefEqProofs := false) (decide := true) (maxSteps := 1000000) only [x4, go_sem, hlen, e, hd, hd', eA, eS, ev', eb, h1, h2, p]
        · have np : ¬ ((d.past.length : Int) ≥ 10) := by omega
          have b1 : doD d' ⟨2, 0, tx []⟩ = d := by simp only [doD, hk, if_true]; rw [he, push_back p]; rfl
          have b2 : doB d' ⟨2, 0, tx []⟩ = true := by simp only [doB, hk]; rw [he, push_back p]; rfl
          rw [b1, b2] at eb
          rw [q4]; simp (contextual := true) (implicitDefEqProofs := false) (decide := true) (maxSteps := 1000000) only [x4, go_sem, hlen, e, hd, hd', eA, eS, ev', eb, h1, h2, np]
      · rw [h1, h2, h3] at eA eS
        rw [q4]; simp (contextual := true) (implicitDefEqProofs := false) (decide := true) (maxSteps := 1000000) only [x4, go_sem, hlen, e, hd, hd', eA, eS, ev', eb, h1, h2, h3]
end Go.Proofs.Ytjlebmnlphjjoaa.Fx
