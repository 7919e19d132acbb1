/- For all arguments the program's PairsOk returns what the reference's returns; no condition. -/
import Derived.Test.YtmohhjbcdfhopaaPFnExactPairsOkx1
namespace Go.Proofs.Ytmohhjbcdfhopaa.Pure
open Go.RowKit Go.Proofs.Ytmohhjbcdfhopaa.PFnExactPairsOk Go.Proofs.YtmohhjbcdfhopaaW.PrintWords Go.Proofs.YtmohhjbcdfhopaaW.PrintLast
set_option linter.unusedVariables false
set_option linter.unusedSimpArgs false

/-! pack arith: numbers that do not wrap, and steps of 'from some number of rounds on' -/
theorem w64 {n : Int} (h0 : -9223372036854775808 ≤ n) (h1 : n ≤ 9223372036854775807) : wrap64 n = n := by unfold wrap64; omega
theorem ev_pos {α : Type} {c : Prop} [Decidable c] {a b : Nat → Option α} {r : α} (h : c) (H : Ev a r) : Ev (fun k => if c then a k else b k) r :=
  Ev.congr (fun _ => if_pos h) H
theorem ev_neg {α : Type} {c : Prop} [Decidable c] {a b : Nat → Option α} {r : α} (h : ¬ c) (H : Ev b r) : Ev (fun k => if c then a k else b k) r :=
  Ev.congr (fun _ => if_neg h) H
theorem ev_now {α : Type} {a r : α} (h : a = r) : Ev (fun _ => some a) r := h ▸ Ev.now a
theorem ev_of {α : Type} {o : Option α} {r : α} (h : o = some r) : Ev (fun _ => o) r := ⟨0, fun _ _ => h⟩
theorem ev_bind {α β : Type} {o : Option α} {f : Nat → α → Option β} {a : α} {r : β} (h : o = some a) (k : Ev (fun n => f n a) r) : Ev (fun n => o.bind (f n)) r :=
  Ev.congr (fun n => by rw [h]; rfl) k
theorem ev_eq {α : Type} {g : Nat → Option α} {r r' : α} (h : r = r') (k : Ev g r) : Ev g r' := h ▸ k

/-! pack okpairs: which numbers are relations and sets -/
def okPairs (rel a b : Int) : Bool := decide (0 ≤ rel ∧ rel < 512 ∧ 0 ≤ a ∧ a < 8 ∧ 0 ≤ b ∧ b < 8)
theorem le511 (x : Int) : (x ≤ 511) = (x < 512) := propext (by omega)
theorem le7 (x : Int) : (x ≤ 7) = (x < 8) := propext (by omega)
theorem sPairs (rel a b : Int) : spec_PairsOk.f rel a b = some (okPairs rel a b) := by
  unfold spec_PairsOk.f spec_l1In.f okPairs
  simp only [le511, le7, ge_iff_le]
  by_cases h1 : 0 ≤ rel <;> by_cases h2 : rel < 512 <;> by_cases h3 : 0 ≤ a <;> by_cases h4 : a < 8 <;> by_cases h5 : 0 ≤ b <;> by_cases h6 : b < 8 <;> simp [h1, h2, h3, h4, h5, h6]
theorem iPairs (rel a b : Int) : impl_arePairs.f rel a b = some (okPairs rel a b) := by
  unfold impl_arePairs.f okPairs
  simp only [ge_iff_le]
  by_cases h1 : 0 ≤ rel <;> by_cases h2 : rel < 512 <;> by_cases h3 : 0 ≤ a <;> by_cases h4 : a < 8 <;> by_cases h5 : 0 ≤ b <;> by_cases h6 : b < 8 <;> simp [h1, h2, h3, h4, h5, h6]
theorem okPairs_nat {rel a b : Int} (h : okPairs rel a b = true) : ∃ r x y : Nat, r < 512 ∧ x < 8 ∧ y < 8 ∧ rel = r ∧ a = x ∧ b = y := by
  unfold okPairs at h
  have h := of_decide_eq_true h
  exact ⟨rel.toNat, a.toNat, b.toNat, by omega, by omega, by omega, by omega, by omega, by omega⟩
theorem okPairs_of {r x y : Nat} (hr : r < 512) (hx : x < 8) (hy : y < 8) : okPairs (r : Int) (x : Int) (y : Int) = true := by
  unfold okPairs; exact decide_eq_true (by omega)

theorem FnExactPairsOk : laws_FnExactPairsOk.Pure := by
  intro rel a b _ _ _
  unfold laws_FnExactPairsOk.f impl_PairsOk.f
  rw [sPairs, iPairs]
  simp

end Go.Proofs.Ytmohhjbcdfhopaa.Pure
