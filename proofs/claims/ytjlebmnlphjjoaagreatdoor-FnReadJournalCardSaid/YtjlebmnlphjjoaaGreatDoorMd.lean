import Derived.Test.YtjlebmnlphjjoaaGreatDoorE
set_option linter.unusedVariables false
set_option linter.unusedSimpArgs false
/- The plain words: sentences, desks, deeds, and what is done with them; no condition. -/
open Go Go.Proofs.YtjlebmnlphjjoaaGreatDoor.Abs
namespace Go.Proofs.YtjlebmnlphjjoaaGreatDoor.Fx
structure Say where (f o t : Int)
  deriving DecidableEq
def say (s : Say) : PV := .agg [.int .i64 s.f, .int .i64 s.o, .int .i64 s.t]
def row (l : List Say) : PV := .ls 3 (l.map say)
def rows (l : List (List Say)) : PV := .ls 1 (l.map row)
structure Desk where (now : List Say) (past : List (List Say))
  deriving DecidableEq
def desk (d : Desk) : PV := .agg [row d.now, rows d.past]
def wOk (s : Say) : Bool := decide (0 ≤ s.f ∧ s.f ≤ 5 ∧ 0 ≤ s.o ∧ s.o ≤ 3 ∧ 0 ≤ s.t ∧ s.t ≤ 3)
def pos (s : Say) : List Say → Int → Int
  | [], _ => -1
  | a :: r, i => if s = a then i else pos s r (i + 1)
theorem pos_lt (s : Say) : ∀ (l : List Say) (i : Int), 0 ≤ i → (decide (pos s l i ≥ 0) = l.contains s)
  | [], _, _ => rfl
  | a :: r, i, h => by
    have ih := pos_lt s r (i + 1) (by omega)
    unfold pos
    by_cases h1 : s = a
    · subst h1; simpa using h
    · simp only [if_neg h1, ih, List.contains_cons, beq_eq_false_iff_ne.2 h1, Bool.false_or]
theorem Say_eq (s a : Say) : (s = a) = (s.f = a.f ∧ s.o = a.o ∧ s.t = a.t) := by
  cases s; cases a; simp
theorem eq_say (s a : Say) : eqCells [0, 0, 0] [.int .i64 s.f, .int .i64 s.o, .int .i64 s.t] [.int .i64 a.f, .int .i64 a.o, .int .i64 a.t] = some (decide (s = a)) := by
  simp [eqCells, eqCell, Say_eq]
  by_cases h1 : s.f = a.f <;> by_cases h2 : s.o = a.o <;> by_cases h3 : s.t = a.t <;> simp [h1, h2, h3]
def nowOk : List Say → List Say → Bool
  | _, [] => true
  | pre, a :: r => wOk a && !pre.contains a && nowOk (pre ++ [a]) r
def rowOk (N : List Say) : Bool := nowOk [] N && decide (N.length < 6)
def deskOk (d : Desk) : Bool := rowOk d.now && decide (d.past.length ≤ 10) && d.past.all rowOk
def find {α : Type} (p : α → Bool) : List α → Int → Int
  | [], _ => -1
  | a :: r, i => if p a = true then i else find p r (i + 1)
theorem find_lt {α : Type} (p : α → Bool) : ∀ (l : List α) (i : Int), 0 ≤ i → (decide (find p l i ≥ 0) = l.any p)
  | [], _, _ => rfl
  | a :: r, i, h => by
    have ih := find_lt p r (i + 1) (by omega)
    unfold find
    by_cases h1 : p a = true
    · simpa [h1] using h
    · simp only [if_neg h1, ih, List.any_cons, Bool.not_eq_true] at *
      simp [h1]
theorem rowOk_lt {n : List Say} (h : rowOk n = true) : n.length < 6 := by
  simp only [rowOk, Bool.and_eq_true, decide_eq_true_eq] at h; exact h.2
theorem room_ge {n : Nat} (h : n < 1000) : n ≤ room := by unfold room; omega
end Go.Proofs.YtjlebmnlphjjoaaGreatDoor.Fx
