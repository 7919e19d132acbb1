/- For all arguments the program's WithinBoth returns what the reference's returns; no condition. -/
import Derived.Test.YtmohhjbcdfhopaaPFnExactWithinBothx1
namespace Go.Proofs.Ytmohhjbcdfhopaa.Pure
open Go.RowKit Go.Proofs.Ytmohhjbcdfhopaa.PFnExactWithinBoth Go.Proofs.YtmohhjbcdfhopaaW.PrintWords Go.Proofs.YtmohhjbcdfhopaaW.PrintLast
set_option linter.unusedVariables false
set_option linter.unusedSimpArgs false

/-! pack arith: numbers that do not wrap, and steps of 'from some number of rounds on' -/
theorem w64 {n : Int} (h0 : -9223372036854775808 ≤ n) (h1 : n ≤ 9223372036854775807) : wrap64 n = n := by unfold wrap64; omega
theorem ev_pos {α : Type} {c : Prop} [Decidable c] {a b : Nat → Option α} {r : α} (h : c) (H : Ev a r) : Ev (fun k => if c then a k else b k) r :=
  Ev.congr (fun _ => if_pos h) H
theorem ev_neg {α : Type} {c : Prop} [Decidable c] {a b : Nat → Option α} {r : α} (h : ¬ c) (H : Ev b r) : Ev (fun k => if c then a k else b k) r :=
  Ev.congr (fun _ => if_neg h) H
theorem ev_now {α : Type} {a r : α} (h : a = r) : Ev (fun _ => some a) r := h ▸ Ev.now a
theorem ev_of {α : Type} {o : Option α} {r : α} (h : o = some r) : Ev (fun _ => o) r := ⟨0, fun _ _ => h⟩
theorem ev_bind {α β : Type} {o : Option α} {f : Nat → α → Option β} {a : α} {r : β} (h : o = some a) (k : Ev (fun n => f n a) r) : Ev (fun n => o.bind (f n)) r :=
  Ev.congr (fun n => by rw [h]; rfl) k
theorem ev_eq {α : Type} {g : Nat → Option α} {r r' : α} (h : r = r') (k : Ev g r) : Ev g r' := h ▸ k

/-! pack pairs: relations of three things as numbers -/
theorem rel_cases {P : Int → Prop} (h : ∀ r : Fin 512, P (r.val : Int)) {x : Int} (h0 : 0 ≤ x) (h1 : x < 512) : P x := by
  obtain ⟨n, rfl⟩ : ∃ n : Nat, x = n := ⟨x.toNat, by omega⟩
  exact h ⟨n, by omega⟩
theorem set_cases {P : Int → Prop} (h : ∀ r : Fin 8, P (r.val : Int)) {x : Int} (h0 : 0 ≤ x) (h1 : x < 8) : P x := by
  obtain ⟨n, rfl⟩ : ∃ n : Nat, x = n := ⟨x.toNat, by omega⟩
  exact h ⟨n, by omega⟩
def sz (n : Nat) : Nat := n % 2 + n / 2 % 2 + n / 4 % 2
def rowN (rel x : Nat) : Nat := rel / 8 ^ x % 8
def b1 (b : Bool) : Nat := if b then 1 else 0
/-- the other way round, a relation's nine pairs -/
def turnN (r : Nat) : Nat := r % 2 + 8 * (r / 2 % 2) + 64 * (r / 4 % 2) + 2 * (r / 8 % 2) + 16 * (r / 16 % 2) + 128 * (r / 32 % 2) + 4 * (r / 64 % 2) + 32 * (r / 128 % 2) + 256 * (r / 256 % 2)

/-! pack okpairs: which numbers are relations and sets -/
def okPairs (rel a b : Int) : Bool := decide (0 ≤ rel ∧ rel < 512 ∧ 0 ≤ a ∧ a < 8 ∧ 0 ≤ b ∧ b < 8)
theorem le511 (x : Int) : (x ≤ 511) = (x < 512) := propext (by omega)
theorem le7 (x : Int) : (x ≤ 7) = (x < 8) := propext (by omega)
theorem sPairs (rel a b : Int) : spec_PairsOk.f rel a b = some (okPairs rel a b) := by
  unfold spec_PairsOk.f spec_l1In.f okPairs
  simp only [le511, le7, ge_iff_le]
  by_cases h1 : 0 ≤ rel <;> by_cases h2 : rel < 512 <;> by_cases h3 : 0 ≤ a <;> by_cases h4 : a < 8 <;> by_cases h5 : 0 ≤ b <;> by_cases h6 : b < 8 <;> simp [h1, h2, h3, h4, h5, h6]
theorem iPairs (rel a b : Int) : impl_arePairs.f rel a b = some (okPairs rel a b) := by
  unfold impl_arePairs.f okPairs
  simp only [ge_iff_le]
  by_cases h1 : 0 ≤ rel <;> by_cases h2 : rel < 512 <;> by_cases h3 : 0 ≤ a <;> by_cases h4 : a < 8 <;> by_cases h5 : 0 ≤ b <;> by_cases h6 : b < 8 <;> simp [h1, h2, h3, h4, h5, h6]
theorem okPairs_nat {rel a b : Int} (h : okPairs rel a b = true) : ∃ r x y : Nat, r < 512 ∧ x < 8 ∧ y < 8 ∧ rel = r ∧ a = x ∧ b = y := by
  unfold okPairs at h
  have h := of_decide_eq_true h
  exact ⟨rel.toNat, a.toNat, b.toNat, by omega, by omega, by omega, by omega, by omega, by omega⟩
theorem okPairs_of {r x y : Nat} (hr : r < 512) (hx : x < 8) (hy : y < 8) : okPairs (r : Int) (x : Int) (y : Int) = true := by
  unfold okPairs; exact decide_eq_true (by omega)

/-! pack within: the pairs whose things are in two sets -/
def w1 (rel a b x : Nat) : Nat := if a / 2 ^ x % 2 = 1 then rowN rel x &&& b else 0
def withN (rel a b : Nat) : Nat := w1 rel a b 0 + 8 * w1 rel a b 1 + 64 * w1 rel a b 2
theorem w1_lt (rel a b x : Nat) : w1 rel a b x < 8 := by
  unfold w1; split
  · exact Nat.lt_of_le_of_lt Nat.and_le_left (Nat.mod_lt _ (by decide))
  · decide
theorem row_lt (r x : Nat) : rowN r x < 8 := Nat.mod_lt _ (by decide)
theorem and_lt {a b : Nat} (h : b < 8) : a &&& b < 8 := Nat.and_lt_two_pow a (n := 3) h
theorem irel_all : ∀ x : Fin 3, ∀ r : Fin 512, impl_relatedTo.f (r.val : Int) (x.val : Int) = some (rowN r.val x.val : Int) := by decide +kernel
theorem irel {x r : Nat} (hx : x < 3) (h : r < 512) : impl_relatedTo.f (r : Int) (x : Int) = some (rowN r x : Int) := irel_all ⟨x, hx⟩ ⟨r, h⟩
theorem iand_all : ∀ a b : Fin 8, Go.bits .and .i64 (a.val : Int) (b.val : Int) = ((a.val &&& b.val : Nat) : Int) := by decide +kernel
theorem iand {a b : Nat} (ha : a < 8) (hb : b < 8) : Go.bits .and .i64 (a : Int) (b : Int) = ((a &&& b : Nat) : Int) := iand_all ⟨a, ha⟩ ⟨b, hb⟩
theorem ibit_all : ∀ a : Fin 8, ∀ x : Fin 3, Go.bits .and .i64 (shr .i64 (a.val : Int) (x.val : Int)) 1 = ((a.val / 2 ^ x.val % 2 : Nat) : Int) := by decide +kernel
theorem ilay_all : ∀ v : Fin 8, ∀ x : Fin 3, ∀ o : Fin 64, o.val < 8 ^ x.val → Go.bits .or .i64 (o.val : Int) (shl .i64 (v.val : Int) (wrap64 (3 * (x.val : Int)))) = ((o.val + 8 ^ x.val * v.val : Nat) : Int) := by decide +kernel
theorem pow8 {x o : Nat} (hx : x < 3) (ho : o < 8 ^ x) : o < 64 := by rcases (show x = 0 ∨ x = 1 ∨ x = 2 by omega) with rfl | rfl | rfl <;> omega
theorem iwith_round {rel a b : Nat} (ha : a < 8) (hb : b < 8) (hr : rel < 512) {x o : Nat} (hx : x < 3) (ho : o < 8 ^ x) {r : Int}
    (H : Ev (fun k => impl_WithinBoth.l0 k (rel : Int) (a : Int) (b : Int) ((o + 8 ^ x * w1 rel a b x : Nat) : Int) ((x + 1 : Nat) : Int)) r) :
    Ev (fun k => impl_WithinBoth.l0 k (rel : Int) (a : Int) (b : Int) (o : Int) (x : Int)) r := by
  have e : wrap64 ((x : Int) + 1) = ((x + 1 : Nat) : Int) := by rw [w64 (by omega) (by omega)]; omega
  have e3 : 0 ≤ wrap64 (3 * (x : Int)) := by rw [w64 (by omega) (by omega)]; omega
  have eb := ibit_all ⟨a, ha⟩ ⟨x, hx⟩
  simp only at eb
  refine Ev.step (fun _ => impl_WithinBoth.l0.eq_2 _ _ _ _ _ _) (ev_pos (by omega) (ev_pos (by omega) ?_))
  rw [e, eb]
  unfold w1 at H
  by_cases h : a / 2 ^ x % 2 = 1
  · rw [if_pos h] at H
    refine ev_pos (by omega) (ev_bind (irel hx hr) (ev_pos e3 ?_))
    rw [iand (row_lt _ _) hb]
    have := ilay_all ⟨rowN rel x &&& b, and_lt hb⟩ ⟨x, hx⟩ ⟨o, pow8 hx ho⟩ ho
    simp only at this
    rw [this]; exact H
  · rw [if_neg h] at H
    exact ev_neg (by omega) (by simpa using H)
theorem iwith_loop {rel a b : Nat} (ha : a < 8) (hb : b < 8) (hr : rel < 512) : Ev (fun k => impl_WithinBoth.l0 k (rel : Int) (a : Int) (b : Int) 0 0) (withN rel a b : Int) := by
  have h0 := w1_lt rel a b 0
  have h1 := w1_lt rel a b 1
  refine iwith_round (x := 0) (o := 0) ha hb hr (by omega) (by omega) ?_
  refine iwith_round (x := 1) ha hb hr (by omega) (by simp; omega) ?_
  refine iwith_round (x := 2) ha hb hr (by omega) (by simp; omega) ?_
  refine Ev.step (fun _ => impl_WithinBoth.l0.eq_2 _ _ _ _ _ _) (ev_neg (by omega) (ev_now ?_))
  unfold withN; omega
theorem iwith (rel a b : Int) : Ev (fun k => impl_WithinBoth.f k rel a b) (if okPairs rel a b then (withN rel.toNat a.toNat b.toNat : Int) else -1) := by
  unfold impl_WithinBoth.f
  refine ev_bind (iPairs _ _ _) ?_
  cases hp : okPairs rel a b with
  | false => exact ev_neg (by simp) (ev_now rfl)
  | true =>
    obtain ⟨r, x, y, hr, hx, hy, rfl, rfl, rfl⟩ := okPairs_nat hp
    exact ev_pos rfl (iwith_loop hx hy hr)

/-! pack within_s -/
theorem srow_all : ∀ x : Fin 3, ∀ r : Fin 512, spec_l8Row.f (r.val : Int) (x.val : Int) = some (rowN r.val x.val : Int) := by decide +kernel
theorem srow {x r : Nat} (hx : x < 3) (h : r < 512) : spec_l8Row.f (r : Int) (x : Int) = some (rowN r x : Int) := srow_all ⟨x, hx⟩ ⟨r, h⟩
theorem sbit_all : ∀ a : Fin 8, ∀ x : Fin 3, Int.tmod (shr .i64 (a.val : Int) (x.val : Int)) 2 = ((a.val / 2 ^ x.val % 2 : Nat) : Int) := by decide +kernel
theorem sbit {a x : Nat} (ha : a < 8) (hx : x < 3) : Int.tmod (shr .i64 (a : Int) (x : Int)) 2 = ((a / 2 ^ x % 2 : Nat) : Int) := sbit_all ⟨a, ha⟩ ⟨x, hx⟩
theorem slay_all : ∀ x y : Fin 3, shl .i64 1 (wrap64 (wrap64 (3 * (x.val : Int)) + (y.val : Int))) = ((8 ^ x.val * 2 ^ y.val : Nat) : Int) := by decide +kernel
def s1 (rel b x y : Nat) : Nat := if b / 2 ^ y % 2 = 1 ∧ rowN rel x / 2 ^ y % 2 = 1 then 2 ^ y else 0
theorem s1_sum : ∀ r b : Fin 8, (if b.val / 2 ^ 0 % 2 = 1 ∧ r.val / 2 ^ 0 % 2 = 1 then 2 ^ 0 else 0) + (if b.val / 2 ^ 1 % 2 = 1 ∧ r.val / 2 ^ 1 % 2 = 1 then 2 ^ 1 else 0) + (if b.val / 2 ^ 2 % 2 = 1 ∧ r.val / 2 ^ 2 % 2 = 1 then 2 ^ 2 else 0) = r.val &&& b.val := by decide +kernel
theorem s1_le (rel b x y : Nat) (hy : y < 3) : s1 rel b x y ≤ 4 := by
  unfold s1; split
  · rcases (show y = 0 ∨ y = 1 ∨ y = 2 by omega) with rfl | rfl | rfl <;> decide
  · decide
theorem pow8_le {x : Nat} (hx : x < 3) : 8 ^ x ≤ 64 := by rcases (show x = 0 ∨ x = 1 ∨ x = 2 by omega) with rfl | rfl | rfl <;> decide
theorem swith_in {rel a b : Nat} (ha : a < 8) (hb : b < 8) (hr : rel < 512) {x y o : Nat} (hx : x < 3) (hy : y < 3) (ho : o < 100000) (hbit : a / 2 ^ x % 2 = 1) {r : Int}
    (H : Ev (fun k => spec_WithinBoth.l1 k (rel : Int) (a : Int) (b : Int) ((o + 8 ^ x * s1 rel b x y : Nat) : Int) (x : Int) ((y + 1 : Nat) : Int)) r) :
    Ev (fun k => spec_WithinBoth.l1 k (rel : Int) (a : Int) (b : Int) (o : Int) (x : Int) (y : Int)) r := by
  have e : wrap64 ((y : Int) + 1) = ((y + 1 : Nat) : Int) := by rw [w64 (by omega) (by omega)]; omega
  have e0 : wrap64 (3 * (x : Int)) = 3 * x := w64 (by omega) (by omega)
  have e3 : 0 ≤ wrap64 (wrap64 (3 * (x : Int)) + (y : Int)) := by rw [e0, w64 (by omega) (by omega)]; omega
  have el := slay_all ⟨x, hx⟩ ⟨y, hy⟩
  simp only at el
  have hp := pow8_le hx
  have h2 : 2 ^ y ≤ 4 := by rcases (show y = 0 ∨ y = 1 ∨ y = 2 by omega) with rfl | rfl | rfl <;> decide
  have hm : 8 ^ x * 2 ^ y ≤ 64 * 4 := Nat.mul_le_mul hp h2
  have e5 : wrap64 ((o : Int) + ((8 ^ x * 2 ^ y : Nat) : Int)) = ((o + 8 ^ x * 2 ^ y : Nat) : Int) := by rw [w64 (by omega) (by omega)]; omega
  refine Ev.step (fun _ => spec_WithinBoth.l1.eq_2 _ _ _ _ _ _ _) (ev_pos (by omega) (ev_pos (by omega) ?_))
  rw [sbit ha hx, sbit hb hy, e, el, e5]
  refine ev_pos (by omega) (ev_pos (by omega) ?_)
  unfold s1 at H
  by_cases c1 : b / 2 ^ y % 2 = 1
  · refine ev_pos (by omega) (ev_bind (srow hx hr) ?_)
    rw [sbit (row_lt _ _) hy]
    by_cases c2 : rowN rel x / 2 ^ y % 2 = 1
    · rw [if_pos ⟨c1, c2⟩] at H
      refine ev_pos (by omega) (ev_pos e3 ?_)
      simpa using H
    · rw [if_neg (fun h => c2 h.2)] at H
      exact ev_neg (by omega) (by simpa using H)
  · rw [if_neg (fun h => c1 h.1)] at H
    exact ev_neg (by omega) (by simpa using H)
theorem swith_off {rel a b : Nat} (ha : a < 8) {x y o : Nat} (hx : x < 3) (hy : y < 3) (hbit : ¬ a / 2 ^ x % 2 = 1) {r : Int}
    (H : Ev (fun k => spec_WithinBoth.l1 k (rel : Int) (a : Int) (b : Int) (o : Int) (x : Int) ((y + 1 : Nat) : Int)) r) :
    Ev (fun k => spec_WithinBoth.l1 k (rel : Int) (a : Int) (b : Int) (o : Int) (x : Int) (y : Int)) r := by
  have e : wrap64 ((y : Int) + 1) = ((y + 1 : Nat) : Int) := by rw [w64 (by omega) (by omega)]; omega
  refine Ev.step (fun _ => spec_WithinBoth.l1.eq_2 _ _ _ _ _ _ _) (ev_pos (by omega) (ev_pos (by omega) ?_))
  rw [sbit ha hx, e]
  exact ev_neg (by omega) H
theorem swith_round {rel a b : Nat} (ha : a < 8) (hb : b < 8) (hr : rel < 512) {x o : Nat} (hx : x < 3) (ho : o < 600) {r : Int}
    (H : Ev (fun k => spec_WithinBoth.l0 k (rel : Int) (a : Int) (b : Int) ((o + 8 ^ x * w1 rel a b x : Nat) : Int) ((x + 1 : Nat) : Int)) r) :
    Ev (fun k => spec_WithinBoth.l0 k (rel : Int) (a : Int) (b : Int) (o : Int) (x : Int)) r := by
  have e : wrap64 ((x : Int) + 1) = ((x + 1 : Nat) : Int) := by rw [w64 (by omega) (by omega)]; omega
  have hp := pow8_le hx
  refine Ev.step (fun _ => spec_WithinBoth.l0.eq_2 _ _ _ _ _ _) (ev_pos (by omega) ?_)
  by_cases hbit : a / 2 ^ x % 2 = 1
  · have m0 : 8 ^ x * s1 rel b x 0 ≤ 64 * 4 := Nat.mul_le_mul hp (s1_le rel b x 0 (by omega))
    have m1 : 8 ^ x * s1 rel b x 1 ≤ 64 * 4 := Nat.mul_le_mul hp (s1_le rel b x 1 (by omega))
    refine swith_in (y := 0) ha hb hr hx (by omega) (by omega) hbit (swith_in (y := 1) ha hb hr hx (by omega) (by omega) hbit (swith_in (y := 2) ha hb hr hx (by omega) (by omega) hbit ?_))
    refine Ev.step (fun _ => spec_WithinBoth.l1.eq_2 _ _ _ _ _ _ _) (ev_neg (by omega) ?_)
    rw [e]
    have hw : w1 rel a b x = s1 rel b x 0 + s1 rel b x 1 + s1 rel b x 2 := by
      unfold w1 s1; rw [if_pos hbit]; exact (s1_sum ⟨_, row_lt rel x⟩ ⟨b, hb⟩).symm
    rw [hw, Nat.mul_add, Nat.mul_add] at H
    simpa [Nat.add_assoc] using H
  · have hw : w1 rel a b x = 0 := by unfold w1; rw [if_neg hbit]
    rw [hw] at H
    refine swith_off (y := 0) ha hx (by omega) hbit (swith_off (y := 1) ha hx (by omega) hbit (swith_off (y := 2) ha hx (by omega) hbit ?_))
    refine Ev.step (fun _ => spec_WithinBoth.l1.eq_2 _ _ _ _ _ _ _) (ev_neg (by omega) ?_)
    rw [e]
    simpa using H
theorem swith (rel a b : Int) : Ev (fun k => spec_WithinBoth.f k rel a b) (if okPairs rel a b then (withN rel.toNat a.toNat b.toNat : Int) else -1) := by
  unfold spec_WithinBoth.f
  refine ev_bind (sPairs _ _ _) ?_
  cases hp : okPairs rel a b with
  | false => exact ev_neg (by simp) (ev_now rfl)
  | true =>
    obtain ⟨r, x, y, hr, hx, hy, rfl, rfl, rfl⟩ := okPairs_nat hp
    refine ev_pos rfl ?_
    have h0 := w1_lt r x y 0
    have h1 := w1_lt r x y 1
    have h2 := w1_lt r x y 2
    refine swith_round (x := 0) (o := 0) hx hy hr (by omega) (by omega) ?_
    refine swith_round (x := 1) hx hy hr (by omega) (by simp; omega) ?_
    refine swith_round (x := 2) hx hy hr (by omega) (by simp; omega) ?_
    refine Ev.step (fun _ => spec_WithinBoth.l0.eq_2 _ _ _ _ _ _) (ev_neg (by omega) (ev_now ?_))
    simp [withN]

theorem FnExactWithinBoth : laws_FnExactWithinBoth.Pure := by
  intro rel a b _ _ _
  refine Ev.rounds (g := fun k => laws_FnExactWithinBoth.f k rel a b) ?_
  unfold laws_FnExactWithinBoth.f
  exact Ev.bind (swith rel a b) (Ev.bind (iwith rel a b) (ev_pos rfl (ev_now rfl)))

end Go.Proofs.Ytmohhjbcdfhopaa.Pure
