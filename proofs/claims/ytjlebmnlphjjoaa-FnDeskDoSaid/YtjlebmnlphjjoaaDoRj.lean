import Derived.Test.YtjlebmnlphjjoaaDoRi
import Derived.Test.YtjlebmnlphjjoaaDoQf
set_option linter.unusedVariables false
set_option linter.unusedSimpArgs false
/- What follows from sentences, as the program reckons it; whether desks are the same; no condition. -/
open Go Go.Proofs.Ytjlebmnlphjjoaa.Abs
namespace Go.Proofs.Ytjlebmnlphjjoaa.Fx
set_option maxRecDepth 100000
set_option maxHeartbeats 8000000
set_option linter.unusedSimpArgs false
theorem e48 (s : Say) : CF E 48 [.p (.agg [.int .i64 s.f, .int .i64 s.o, .int .i64 s.t])] [] = some ⟨.p (.bool !(wOk s)), [], []⟩ := by
  rw [q48]; simp (contextual := true) (implicitDefEqProofs := false) (decide := true) (maxSteps := 1000000) only [x48, go_sem]
def weighed (N : List Say) : Bool := decide (N.length ≤ 6) && N.all wOk
theorem e33 (N : List Say) (hN : N.length ≤ room) : CF E 33 [.p (.ls 3 (N.map say))] [] = some ⟨.p (.bool (weighed N)), [], []⟩ := by
  have F := eA47 N hN 48 (by first | exact .inl rfl | exact .inr rfl) (fun s => !(wOk s)) (fun s _ => e48 s)
  have hc : (N.any fun s => !(wOk s)) = !N.all wOk := by simp [List.all_eq_not_any_not]
  rw [hc] at F
  have hl : ((N.length : Int) ≤ 6) = (N.length ≤ 6) := by simp; omega
  rw [q33]; simp (contextual := true) (implicitDefEqProofs := false) (decide := true) (maxSteps := 1000000) only [x33, go_sem, F]
  unfold weighed
  simp only [hl]
  cases N.all wOk <;> by_cases h : N.length ≤ 6 <;> simp [h]
def follows (N : List Say) (s : Say) : Bool := !counts (N ++ [con s])
theorem e35 (N : List Say) (s : Say) (hN : N.length ≤ 9) (hw : ∀ s ∈ N, wOk s = true) (hs : wOk s = true) : CF E 35 [.p (.ls 3 (N.map say)), .p (.agg [.int .i64 s.f, .int .i64 s.o, .int .i64 s.t])] [] = some ⟨.p (.bool (follows N s)), [], []⟩ := by
  have e := e49 (N ++ [con s]) (by simp; omega) (fun t ht => by
    rw [List.mem_append, List.mem_singleton] at ht
    rcases ht with ht | rfl
    · exact hw t ht
    · exact con_ok hs)
  have h1 := room_ge (n := N.length) (by omega)
  have h2 := room_ge (n := N.length + 1) (by omega)
  simp (contextual := true) (implicitDefEqProofs := false) (decide := true) (maxSteps := 1000000) only [say, go_sem] at e
  rw [q35]; simp (contextual := true) (implicitDefEqProofs := false) (decide := true) (maxSteps := 1000000) only [x35, go_sem, say, h1, h2, hs, apK_grow, e]
  rfl
theorem e17 (N : List Say) (s : Say) (hN : N.length ≤ room) : CF E 17 [.p (.ls 3 (N.map say)), .p (.agg [.int .i64 s.f, .int .i64 s.o, .int .i64 s.t])] [] = some ⟨.p (.bool (weighed N && decide (N.length ≠ 6) && wOk s && follows N s)), [], []⟩ := by
  have e := e33 N hN
  have hl : ((N.length : Int) = 6) = (N.length = 6) := by simp; omega
  cases h1 : weighed N with
  | false => rw [h1] at e; rw [q17]; simp (contextual := true) (implicitDefEqProofs := false) (decide := true) (maxSteps := 1000000) only [x17, go_sem, e]
  | true =>
    have hw := h1
    simp only [weighed, Bool.and_eq_true, decide_eq_true_eq, List.all_eq_true] at hw
    rw [h1] at e
    cases h2 : wOk s with
    | false => rw [q17]; simp (contextual := true) (implicitDefEqProofs := false) (decide := true) (maxSteps := 1000000) only [x17, go_sem, e, h2]; simp
    | true =>
      have f := e35 N s (by omega) hw.2 h2
      rw [q17]; simp (contextual := true) (implicitDefEqProofs := false) (decide := true) (maxSteps := 1000000) only [x17, go_sem, e, h2, f, hl]
      by_cases h3 : N.length = 6 <;> simp [h3]
end Go.Proofs.Ytjlebmnlphjjoaa.Fx
