/- For all arguments the program's TurnedPairs returns what the reference's returns; no condition. -/
import Derived.Test.YtmohhjbcdfhopaaPFnExactTurnedPairsx1
namespace Go.Proofs.Ytmohhjbcdfhopaa.Pure
open Go.RowKit Go.Proofs.Ytmohhjbcdfhopaa.PFnExactTurnedPairs Go.Proofs.YtmohhjbcdfhopaaW.PrintWords Go.Proofs.YtmohhjbcdfhopaaW.PrintLast
set_option linter.unusedVariables false
set_option linter.unusedSimpArgs false

/-! pack arith: numbers that do not wrap, and steps of 'from some number of rounds on' -/
theorem w64 {n : Int} (h0 : -9223372036854775808 ≤ n) (h1 : n ≤ 9223372036854775807) : wrap64 n = n := by unfold wrap64; omega
theorem ev_pos {α : Type} {c : Prop} [Decidable c] {a b : Nat → Option α} {r : α} (h : c) (H : Ev a r) : Ev (fun k => if c then a k else b k) r :=
  Ev.congr (fun _ => if_pos h) H
theorem ev_neg {α : Type} {c : Prop} [Decidable c] {a b : Nat → Option α} {r : α} (h : ¬ c) (H : Ev b r) : Ev (fun k => if c then a k else b k) r :=
  Ev.congr (fun _ => if_neg h) H
theorem ev_now {α : Type} {a r : α} (h : a = r) : Ev (fun _ => some a) r := h ▸ Ev.now a
theorem ev_of {α : Type} {o : Option α} {r : α} (h : o = some r) : Ev (fun _ => o) r := ⟨0, fun _ _ => h⟩
theorem ev_bind {α β : Type} {o : Option α} {f : Nat → α → Option β} {a : α} {r : β} (h : o = some a) (k : Ev (fun n => f n a) r) : Ev (fun n => o.bind (f n)) r :=
  Ev.congr (fun n => by rw [h]; rfl) k
theorem ev_eq {α : Type} {g : Nat → Option α} {r r' : α} (h : r = r') (k : Ev g r) : Ev g r' := h ▸ k

/-! pack pairs: relations of three things as numbers -/
theorem rel_cases {P : Int → Prop} (h : ∀ r : Fin 512, P (r.val : Int)) {x : Int} (h0 : 0 ≤ x) (h1 : x < 512) : P x := by
  obtain ⟨n, rfl⟩ : ∃ n : Nat, x = n := ⟨x.toNat, by omega⟩
  exact h ⟨n, by omega⟩
theorem set_cases {P : Int → Prop} (h : ∀ r : Fin 8, P (r.val : Int)) {x : Int} (h0 : 0 ≤ x) (h1 : x < 8) : P x := by
  obtain ⟨n, rfl⟩ : ∃ n : Nat, x = n := ⟨x.toNat, by omega⟩
  exact h ⟨n, by omega⟩
def sz (n : Nat) : Nat := n % 2 + n / 2 % 2 + n / 4 % 2
def rowN (rel x : Nat) : Nat := rel / 8 ^ x % 8
def b1 (b : Bool) : Nat := if b then 1 else 0
/-- the other way round, a relation's nine pairs -/
def turnN (r : Nat) : Nat := r % 2 + 8 * (r / 2 % 2) + 64 * (r / 4 % 2) + 2 * (r / 8 % 2) + 16 * (r / 16 % 2) + 128 * (r / 32 % 2) + 4 * (r / 64 % 2) + 32 * (r / 128 % 2) + 256 * (r / 256 % 2)

theorem turned_all : ∀ r : Fin 512, laws_FnExactTurnedPairs.f 20 (r.val : Int) = some true := by decide +kernel
theorem FnExactTurnedPairs : laws_FnExactTurnedPairs.Pure := by
  intro rel _
  refine ⟨20, ?_⟩
  by_cases h : 0 ≤ rel ∧ rel < 512
  · exact rel_cases (P := fun rel => laws_FnExactTurnedPairs.f 20 rel = some true) turned_all h.1 h.2
  · unfold laws_FnExactTurnedPairs.f spec_TurnedPairs.f impl_TurnedPairs.f impl_arePairs.f spec_l1In.f
    have e : (rel ≤ 511) = (rel < 512) := propext (by omega)
    simp only [e]
    by_cases h1 : rel ≥ 0 <;> by_cases h2 : rel < 512 <;> simp [h1, h2]
    exact (h ⟨h1, h2⟩).elim

end Go.Proofs.Ytmohhjbcdfhopaa.Pure
