import Derived.Test.YtjlebmnlphjjoaaGreatDoorJa
set_option linter.unusedVariables false
set_option linter.unusedSimpArgs false
/- Texts of deeds, as both write them: what they are; no condition. -/
open Go Go.Proofs.YtjlebmnlphjjoaaGreatDoor.Abs
namespace Go.Proofs.YtjlebmnlphjjoaaGreatDoor.Fx
set_option maxRecDepth 100000
set_option maxHeartbeats 4000000
set_option linter.unusedSimpArgs false
set_option linter.unusedVariables false
theorem lp103 (s : ByteArray) (hs : s.size ≤ room) (b : AC) (hb : b = lb x103.1 0) : ∀ (n i : Nat), i + n = s.size →
   CL E [0, 3] [0, 2] b ⟨mkT [(0, .p (.str s)), (3, .p (.int .i64 i))], mkS []⟩ =
    bif prF s i then some (.ex 0, ⟨mkT [(0, .p (.str s)), (2, .un)], mkS []⟩) else some (.ret, ⟨mkT [(0, .p (.str s)), (2, .p (.bool false))], mkS []⟩) := by
  simp only [x103, go_sem] at hb; subst hb
  unfold room at hs
  intro n; induction n with
  | zero =>
    intro i hi
    obtain rfl : i = s.size := by omega
    rw [prF_end]
    have h2 : ¬ ((s.size : Int) < s.size) := by omega
    rw [loop_eq]; simp (contextual := true) (implicitDefEqProofs := false) (decide := true) (maxSteps := 1000000) only [go_sem, h2]
  | succ n ih =>
    intro i hi
    have h1 : i < s.size := by omega
    have h5 : ((i : Int) < s.size) := by omega
    have h6 := w64s (n := i) (by omega)
    have hg := bd_get s i h1
    have ih := ih (i + 1) (by omega)
    rw [prF_step s i h1]
    by_cases c1 : ((s[i].toNat : Int) < 32)
    · have e : pr s[i] = false := by unfold pr; rw [decide_eq_false (by omega), Bool.false_and]
      rw [loop_eq]; simp (contextual := true) (implicitDefEqProofs := false) (decide := true) (maxSteps := 1000000) only [go_sem, h5, h6, hg, c1, e]
    · by_cases c2 : ((s[i].toNat : Int) > 126)
      · have e : pr s[i] = false := by unfold pr; rw [decide_eq_false (p := s[i].toNat ≤ 126) (by omega), Bool.and_false]
        rw [loop_eq]; simp (contextual := true) (implicitDefEqProofs := false) (decide := true) (maxSteps := 1000000) only [go_sem, h5, h6, hg, c1, c2, e]
      · have e : pr s[i] = true := by unfold pr; rw [decide_eq_true (p := 32 ≤ s[i].toNat) (by omega), decide_eq_true (p := s[i].toNat ≤ 126) (by omega)]; rfl
        rw [loop_eq]; simp (contextual := true) (implicitDefEqProofs := false) (decide := true) (maxSteps := 1000000) only [go_sem, h5, h6, hg, c1, c2, e, ih]
theorem nil_size (s : ByteArray) : s = tx [] ↔ s.size = 0 := by
  constructor
  · rintro rfl; exact tx_size []
  · intro h
    rw [tx_nil]
    obtain ⟨⟨l⟩⟩ := s
    have : l.length = 0 := h
    rw [List.length_eq_zero_iff.1 this]; rfl
@[go_sem] theorem e103 (s : ByteArray) (hs : s.size ≤ room) : CF E 103 [.p (.str s)] [] = some ⟨.p (.bool (decide (s ≠ tx []) && prF s 0)), [], []⟩ := by
  have L := lp103 s hs _ rfl s.size 0 (by omega)
  rw [q103]
  by_cases h : s = tx []
  · subst h
    have h1 : (tx []).size = 0 := tx_size []
    have : prF (tx []) 0 = true := by have := prF_end (tx []); rw [h1] at this; exact this
    rw [this] at L
    simp (contextual := true) (implicitDefEqProofs := false) (decide := true) (maxSteps := 1000000) only [x103, go_sem] at L
    simp (contextual := true) (implicitDefEqProofs := false) (decide := true) (maxSteps := 1000000) only [x103, go_sem, L]
  · have h1 : s.size ≠ 0 := fun e => h ((nil_size s).2 e)
    have h2 : ((s.size : Int) > 0) := by omega
    simp (contextual := true) (implicitDefEqProofs := false) (decide := true) (maxSteps := 1000000) only [x103, go_sem] at L
    cases hp : prF s 0 <;> rw [hp] at L <;> simp (contextual := true) (implicitDefEqProofs := false) (decide := true) (maxSteps := 1000000) only [x103, go_sem, L, h2, h]
def dg (n : Int) : ByteArray := tx [48 + n.toNat]
@[go_sem] theorem e89 (n : Int) (h0 : 0 ≤ n) (h9 : n ≤ 9) : CF E 89 [.p (.int .i64 n)] [] = some ⟨.p (.str (dg n)), [], []⟩ := by
  rw [q89]
  have : n = 0 ∨ n = 1 ∨ n = 2 ∨ n = 3 ∨ n = 4 ∨ n = 5 ∨ n = 6 ∨ n = 7 ∨ n = 8 ∨ n = 9 := by omega
  rcases this with rfl | rfl | rfl | rfl | rfl | rfl | rfl | rfl | rfl | rfl <;> simp (contextual := true) (implicitDefEqProofs := false) (decide := true) (maxSteps := 1000000) only [x89, go_sem, q115, x115, q147, x147, q184, x184, dg] <;> rfl
@[go_sem] theorem e61 (n : Int) (h0 : 0 ≤ n) (h9 : n ≤ 9) : CF E 61 [.p (.int .i64 n)] [] = some ⟨.p (.str (dg n)), [], []⟩ := by
  rw [q61]
  have : n = 0 ∨ n = 1 ∨ n = 2 ∨ n = 3 ∨ n = 4 ∨ n = 5 ∨ n = 6 ∨ n = 7 ∨ n = 8 ∨ n = 9 := by omega
  rcases this with rfl | rfl | rfl | rfl | rfl | rfl | rfl | rfl | rfl | rfl <;> simp (contextual := true) (implicitDefEqProofs := false) (decide := true) (maxSteps := 1000000) only [x61, go_sem, dg] <;> exact congrArg (fun z => some (Out.mk (.p (.str z)) [] [])) (by unfold tx; decide +kernel)
theorem dg_size (n : Int) : (dg n).size = 1 := tx_size _
/-- The text of a deed. -/
def dB (a : Deed) : ByteArray :=
  if a.k = 0 ∧ a.n = 0 ∧ a.t ≠ tx [] ∧ prF a.t 0 = true then (tx [115, 97, 121, 32]) ++ a.t
  else if a.k = 1 ∧ a.t = tx [] ∧ 0 ≤ a.n ∧ a.n ≤ 9 then (tx [100, 114, 111, 112, 32]) ++ dg a.n
  else if a.k = 2 ∧ a.n = 0 ∧ a.t = tx [] then (tx [98, 97, 99, 107]) else tx []
@[go_sem] theorem e52 (k n : Int) (t : ByteArray) (ht : t.size ≤ room) : CF E 52 [.p (.agg [.int .i64 k, .int .i64 n, .str t])] [] = some ⟨.p (.str (dB ⟨k, n, t⟩)), [], []⟩ := by
  have h4 : 4 + t.size ≤ 9223372036854775807 := by unfold room at ht; omega
  have h5 := dg_size n
  rw [q52]
  by_cases k0 : k = 0
  · subst k0
    by_cases n0 : n = 0
    · subst n0
      by_cases t0 : t = tx []
      · subst t0; simp (contextual := true) (implicitDefEqProofs := false) (decide := true) (maxSteps := 1000000) only [x52, go_sem, dB]
      · cases p0 : prF t 0 <;> simp (contextual := true) (implicitDefEqProofs := false) (decide := true) (maxSteps := 1000000) only [x52, go_sem, ht, t0, p0, h4, dB]
    · simp (contextual := true) (implicitDefEqProofs := false) (decide := true) (maxSteps := 1000000) only [x52, go_sem, ht, n0, h4, dB]
  · by_cases k1 : k = 1
    · subst k1
      by_cases t0 : t = tx []
      · subst t0
        by_cases n0 : 0 ≤ n
        · by_cases n1 : n ≤ 9 <;> simp (contextual := true) (implicitDefEqProofs := false) (decide := true) (maxSteps := 1000000) only [x52, go_sem, ht, n0, n1, h4, h5, dB]
        · simp (contextual := true) (implicitDefEqProofs := false) (decide := true) (maxSteps := 1000000) only [x52, go_sem, ht, n0, h4, h5, dB]
      · simp (contextual := true) (implicitDefEqProofs := false) (decide := true) (maxSteps := 1000000) only [x52, go_sem, ht, t0, h4, h5, dB]
    · by_cases k2 : k = 2
      · subst k2
        by_cases n0 : n = 0 <;> by_cases t0 : t = tx [] <;> simp (contextual := true) (implicitDefEqProofs := false) (decide := true) (maxSteps := 1000000) only [x52, go_sem, ht, n0, t0, h4, h5, dB]
      · simp (contextual := true) (implicitDefEqProofs := false) (decide := true) (maxSteps := 1000000) only [x52, go_sem, ht, k0, k1, k2, h4, h5, dB]
@[go_sem] theorem e79 (k n : Int) (t : ByteArray) (ht : t.size ≤ room) : CF E 79 [.p (.agg [.int .i64 k, .int .i64 n, .str t])] [] = some ⟨.p (.str (dB ⟨k, n, t⟩)), [], []⟩ := by
  have h4 : 4 + t.size ≤ 9223372036854775807 := by unfold room at ht; omega
  have h5 := dg_size n
  rw [q79]
  by_cases k0 : k = 0
  · subst k0
    by_cases n0 : n = 0
    · subst n0
      by_cases t0 : t = tx []
      · subst t0; simp (contextual := true) (implicitDefEqProofs := false) (decide := true) (maxSteps := 1000000) only [x79, go_sem, ht, dB]
      · cases p0 : prF t 0 <;> simp (contextual := true) (implicitDefEqProofs := false) (decide := true) (maxSteps := 1000000) only [x79, go_sem, ht, t0, p0, h4, dB]
    · simp (contextual := true) (implicitDefEqProofs := false) (decide := true) (maxSteps := 1000000) only [x79, go_sem, ht, n0, h4, dB]
  · by_cases k1 : k = 1
    · subst k1
      by_cases t0 : t = tx []
      · subst t0
        by_cases n0 : 0 ≤ n
        · by_cases n1 : n ≤ 9 <;> simp (contextual := true) (implicitDefEqProofs := false) (decide := true) (maxSteps := 1000000) only [x79, go_sem, ht, n0, n1, h4, h5, dB]
        · simp (contextual := true) (implicitDefEqProofs := false) (decide := true) (maxSteps := 1000000) only [x79, go_sem, ht, n0, h4, h5, dB]
      · simp (contextual := true) (implicitDefEqProofs := false) (decide := true) (maxSteps := 1000000) only [x79, go_sem, ht, t0, h4, h5, dB]
    · by_cases k2 : k = 2
      · subst k2
        by_cases n0 : n = 0 <;> by_cases t0 : t = tx [] <;> simp (contextual := true) (implicitDefEqProofs := false) (decide := true) (maxSteps := 1000000) only [x79, go_sem, ht, n0, t0, h4, h5, dB]
      · simp (contextual := true) (implicitDefEqProofs := false) (decide := true) (maxSteps := 1000000) only [x79, go_sem, ht, k0, k1, k2, h4, h5, dB]
end Go.Proofs.YtjlebmnlphjjoaaGreatDoor.Fx
