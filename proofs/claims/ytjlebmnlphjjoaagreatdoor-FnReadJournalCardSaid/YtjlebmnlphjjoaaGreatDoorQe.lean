import Derived.Test.YtjlebmnlphjjoaaGreatDoorQd
set_option linter.unusedVariables false
set_option linter.unusedSimpArgs false
/- A desk after a deed, told by the program's function; no condition. -/
open Go Go.Proofs.YtjlebmnlphjjoaaGreatDoor.Abs
namespace Go.Proofs.YtjlebmnlphjjoaaGreatDoor.Fx
set_option maxRecDepth 100000
set_option maxHeartbeats 4000000
set_option linter.unusedSimpArgs false
theorem e91 (A B : List Say) (x : Say) (h : A.length + B.length + 1 ≤ room) : CF E 91 [.ms 900 0 0 (A.length + (B.length + 1)) 3, .p (.int .i64 A.length), .p (.int .i64 (A.length + 1 : Nat))] [(A.map say ++ say x :: B.map say)] = some ⟨.ms 900 0 0 (A.length + B.length) 3, [A.map say ++ B.map say ++ [.agg [.int .i64 0, .int .i64 0, .int .i64 0]]], []⟩ := by
  unfold room at h
  have h1 : ¬ ((A.length : Int) = (A.length + 1 : Nat)) := by omega
  have h2 : ((A.length : Int) ≤ (A.length + 1 : Nat)) := by omega
  have h3 : ((A.length + 1 : Nat) : Int) ≤ (A.length + (B.length + 1) : Nat) := by omega
  have h4 : ((A.length) : Int) ≤ (A.length + (B.length + 1) : Nat) := by omega
  have h5 : A.length + (B.length + 1) - (A.length + 1) = B.length := by omega
  have h6 : A.length + B.length ≤ A.length + (B.length + 1) := by omega
  have h7 : ((A.length + B.length : Nat) : Int) ≤ (A.length + (B.length + 1) : Nat) := by omega
  have h8 : A.length + (B.length + 1) - (A.length + B.length) = 1 := by omega
  have h9 : A.length + B.length + 1 ≤ A.length + (B.length + 1) := by omega
  obtain ⟨z, h10⟩ : ∃ z, List.drop (A.length + B.length) (List.map AV.p (List.map say A) ++ AV.p (say x) :: List.map AV.p (List.map say B)) = [z] := by
    refine List.length_eq_one_iff.1 ?_
    simp; omega
  rw [q91]; simp (contextual := true) (implicitDefEqProofs := false) (decide := true) (maxSteps := 1000000) only [x91, go_sem, h1, h2, h3, h4, h5, h6, h7, h8, h9, apK_in, h10]
  rw [if_pos (by omega)]
structure Deed where (k n : Int) (t : ByteArray)
  deriving DecidableEq
def push (p : List (List Say)) (r : List Say) : List (List Say) := if p.length < 10 then p ++ [r] else (p ++ [r]).drop 1
/-- A valid desk after a deed, if it can be done. -/
def deskDo (d : Desk) (a : Deed) : Option Desk :=
  if a.k = 0 ∧ a.n = 0 then match rW a.t with
    | none => none
    | some s => if rowOk (d.now ++ [s]) = true then some ⟨d.now ++ [s], push d.past d.now⟩ else none
  else if a.k = 1 ∧ a.t = tx [] ∧ 0 ≤ a.n ∧ a.n < d.now.length then some ⟨d.now.take a.n.toNat ++ d.now.drop (a.n.toNat + 1), push d.past d.now⟩
  else if a.k = 2 ∧ a.n = 0 ∧ a.t = tx [] ∧ d.past ≠ [] then some ⟨d.past.getLast?.getD [], d.past.dropLast⟩
  else none
