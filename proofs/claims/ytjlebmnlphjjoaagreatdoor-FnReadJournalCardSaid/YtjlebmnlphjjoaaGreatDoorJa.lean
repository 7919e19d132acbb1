import Derived.Test.YtjlebmnlphjjoaaGreatDoorTn
set_option linter.unusedVariables false
set_option linter.unusedSimpArgs false
/- Texts of deeds, as both write them; no condition. -/
open Go Go.Proofs.YtjlebmnlphjjoaaGreatDoor.Abs
namespace Go.Proofs.YtjlebmnlphjjoaaGreatDoor.Fx
set_option maxRecDepth 100000
set_option maxHeartbeats 4000000
set_option linter.unusedSimpArgs false
set_option linter.unusedVariables false
theorem bd_get (s : ByteArray) (i : Nat) (h : i < s.size) : s.data[i]? = some s[i] := by
  rw [Array.getElem?_eq_getElem (by simpa using h)]; rfl
/-- A byte from the space on up to the tilde. -/
def pr (b : UInt8) : Bool := decide (32 ≤ b.toNat) && decide (b.toNat ≤ 126)
def prF (s : ByteArray) (i : Nat) : Bool := (s.data.toList.drop i).all pr
theorem prF_end (s : ByteArray) : prF s s.size = true := by
  unfold prF
  rw [List.drop_of_length_le (by simp)]; rfl
theorem prF_step (s : ByteArray) (i : Nat) (h : i < s.size) : prF s i = (pr s[i] && prF s (i + 1)) := by
  unfold prF
  rw [List.drop_eq_getElem_cons (by simpa using h), List.all_cons]; rfl
theorem lp88 (s : ByteArray) (hs : s.size ≤ room) (b : AC) (hb : b = lb x88.1 0) : ∀ (n i : Nat), i + n = s.size →
   CL E [0, 5, 6] [2] b ⟨mkT [(0, .p (.str s)), (5, .p (.int .i64 s.size)), (6, .p (.int .i64 i))], mkS []⟩ =
    bif prF s i then some (.ex 0, ⟨mkT [(2, .un)], mkS []⟩) else some (.ret, ⟨mkT [(2, .p (.bool false))], mkS []⟩) := by
  simp only [x88, go_sem] at hb; subst hb
  unfold room at hs
  intro n; induction n with
  | zero =>
    intro i hi
    obtain rfl : i = s.size := by omega
    rw [prF_end]
    have h2 : ¬ ((s.size : Int) < s.size) := by omega
    rw [loop_eq]; simp (contextual := true) (implicitDefEqProofs := false) (decide := true) (maxSteps := 1000000) only [go_sem, h2]
  | succ n ih =>
    intro i hi
    have h1 : i < s.size := by omega
    have h5 : ((i : Int) < s.size) := by omega
    have h6 := w64s (n := i) (by omega)
    have hg := bd_get s i h1
    have ih := ih (i + 1) (by omega)
    rw [prF_step s i h1]
    by_cases c1 : ((s[i].toNat : Int) < 32)
    · have e : pr s[i] = false := by unfold pr; rw [decide_eq_false (by omega), Bool.false_and]
      rw [loop_eq]; simp (contextual := true) (implicitDefEqProofs := false) (decide := true) (maxSteps := 1000000) only [go_sem, h5, h6, hg, c1, e]
    · by_cases c2 : ((s[i].toNat : Int) > 126)
      · have e : pr s[i] = false := by unfold pr; rw [decide_eq_false (p := s[i].toNat ≤ 126) (by omega), Bool.and_false]
        rw [loop_eq]; simp (contextual := true) (implicitDefEqProofs := false) (decide := true) (maxSteps := 1000000) only [go_sem, h5, h6, hg, c1, c2, e]
      · have e : pr s[i] = true := by unfold pr; rw [decide_eq_true (p := 32 ≤ s[i].toNat) (by omega), decide_eq_true (p := s[i].toNat ≤ 126) (by omega)]; rfl
        rw [loop_eq]; simp (contextual := true) (implicitDefEqProofs := false) (decide := true) (maxSteps := 1000000) only [go_sem, h5, h6, hg, c1, c2, e, ih]
@[go_sem] theorem e88 (s : ByteArray) (hs : s.size ≤ room) : CF E 88 [.p (.str s)] [] = some ⟨.p (.bool (prF s 0)), [], []⟩ := by
  have L := lp88 s hs _ rfl s.size 0 (by omega)
  simp (contextual := true) (implicitDefEqProofs := false) (decide := true) (maxSteps := 1000000) only [x88, go_sem] at L
  rw [q88]; simp (contextual := true) (implicitDefEqProofs := false) (decide := true) (maxSteps := 1000000) only [x88, go_sem, L]
  cases prF s 0 <;> simp (contextual := true) (implicitDefEqProofs := false) (decide := true) (maxSteps := 1000000) only [go_sem]
end Go.Proofs.YtjlebmnlphjjoaaGreatDoor.Fx
