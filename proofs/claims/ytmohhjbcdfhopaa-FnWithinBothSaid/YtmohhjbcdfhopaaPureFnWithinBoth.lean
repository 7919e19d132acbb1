/- For every code the law FnWithinBoth answers true: within twice is within once, turned round it is within the sets exchanged; no condition. -/
import Derived.Test.YtmohhjbcdfhopaaPFnWithinBothx2
namespace Go.Proofs.Ytmohhjbcdfhopaa.Pure
open Go.RowKit Go.Proofs.Ytmohhjbcdfhopaa.PFnWithinBoth Go.Proofs.YtmohhjbcdfhopaaW.PrintWords Go.Proofs.YtmohhjbcdfhopaaW.PrintLast
set_option linter.unusedVariables false
set_option linter.unusedSimpArgs false

/-! pack arith: numbers that do not wrap, and steps of 'from some number of rounds on' -/
theorem w64 {n : Int} (h0 : -9223372036854775808 ≤ n) (h1 : n ≤ 9223372036854775807) : wrap64 n = n := by unfold wrap64; omega
theorem ev_pos {α : Type} {c : Prop} [Decidable c] {a b : Nat → Option α} {r : α} (h : c) (H : Ev a r) : Ev (fun k => if c then a k else b k) r :=
  Ev.congr (fun _ => if_pos h) H
theorem ev_neg {α : Type} {c : Prop} [Decidable c] {a b : Nat → Option α} {r : α} (h : ¬ c) (H : Ev b r) : Ev (fun k => if c then a k else b k) r :=
  Ev.congr (fun _ => if_neg h) H
theorem ev_now {α : Type} {a r : α} (h : a = r) : Ev (fun _ => some a) r := h ▸ Ev.now a
theorem ev_of {α : Type} {o : Option α} {r : α} (h : o = some r) : Ev (fun _ => o) r := ⟨0, fun _ _ => h⟩
theorem ev_bind {α β : Type} {o : Option α} {f : Nat → α → Option β} {a : α} {r : β} (h : o = some a) (k : Ev (fun n => f n a) r) : Ev (fun n => o.bind (f n)) r :=
  Ev.congr (fun n => by rw [h]; rfl) k
theorem ev_eq {α : Type} {g : Nat → Option α} {r r' : α} (h : r = r') (k : Ev g r) : Ev g r' := h ▸ k

/-! pack pairs: relations of three things as numbers -/
theorem rel_cases {P : Int → Prop} (h : ∀ r : Fin 512, P (r.val : Int)) {x : Int} (h0 : 0 ≤ x) (h1 : x < 512) : P x := by
  obtain ⟨n, rfl⟩ : ∃ n : Nat, x = n := ⟨x.toNat, by omega⟩
  exact h ⟨n, by omega⟩
theorem set_cases {P : Int → Prop} (h : ∀ r : Fin 8, P (r.val : Int)) {x : Int} (h0 : 0 ≤ x) (h1 : x < 8) : P x := by
  obtain ⟨n, rfl⟩ : ∃ n : Nat, x = n := ⟨x.toNat, by omega⟩
  exact h ⟨n, by omega⟩
def sz (n : Nat) : Nat := n % 2 + n / 2 % 2 + n / 4 % 2
def rowN (rel x : Nat) : Nat := rel / 8 ^ x % 8
def b1 (b : Bool) : Nat := if b then 1 else 0
/-- the other way round, a relation's nine pairs -/
def turnN (r : Nat) : Nat := r % 2 + 8 * (r / 2 % 2) + 64 * (r / 4 % 2) + 2 * (r / 8 % 2) + 16 * (r / 16 % 2) + 128 * (r / 32 % 2) + 4 * (r / 64 % 2) + 32 * (r / 128 % 2) + 256 * (r / 256 % 2)

/-! pack okpairs: which numbers are relations and sets -/
def okPairs (rel a b : Int) : Bool := decide (0 ≤ rel ∧ rel < 512 ∧ 0 ≤ a ∧ a < 8 ∧ 0 ≤ b ∧ b < 8)
theorem le511 (x : Int) : (x ≤ 511) = (x < 512) := propext (by omega)
theorem le7 (x : Int) : (x ≤ 7) = (x < 8) := propext (by omega)
theorem sPairs (rel a b : Int) : spec_PairsOk.f rel a b = some (okPairs rel a b) := by
  unfold spec_PairsOk.f spec_l1In.f okPairs
  simp only [le511, le7, ge_iff_le]
  by_cases h1 : 0 ≤ rel <;> by_cases h2 : rel < 512 <;> by_cases h3 : 0 ≤ a <;> by_cases h4 : a < 8 <;> by_cases h5 : 0 ≤ b <;> by_cases h6 : b < 8 <;> simp [h1, h2, h3, h4, h5, h6]
theorem iPairs (rel a b : Int) : impl_arePairs.f rel a b = some (okPairs rel a b) := by
  unfold impl_arePairs.f okPairs
  simp only [ge_iff_le]
  by_cases h1 : 0 ≤ rel <;> by_cases h2 : rel < 512 <;> by_cases h3 : 0 ≤ a <;> by_cases h4 : a < 8 <;> by_cases h5 : 0 ≤ b <;> by_cases h6 : b < 8 <;> simp [h1, h2, h3, h4, h5, h6]
theorem okPairs_nat {rel a b : Int} (h : okPairs rel a b = true) : ∃ r x y : Nat, r < 512 ∧ x < 8 ∧ y < 8 ∧ rel = r ∧ a = x ∧ b = y := by
  unfold okPairs at h
  have h := of_decide_eq_true h
  exact ⟨rel.toNat, a.toNat, b.toNat, by omega, by omega, by omega, by omega, by omega, by omega⟩
theorem okPairs_of {r x y : Nat} (hr : r < 512) (hx : x < 8) (hy : y < 8) : okPairs (r : Int) (x : Int) (y : Int) = true := by
  unfold okPairs; exact decide_eq_true (by omega)

/-! pack pick: the reader of draws -/
theorem xor_pos (x y : Int) (hx : 0 ≤ x) (hx1 : x < 4611686018427387904) (hy : 0 ≤ y) (hy1 : y < 4611686018427387904) : 0 ≤ Go.bits .xor .i64 x y := by
  obtain ⟨a, rfl⟩ := Int.eq_ofNat_of_zero_le hx
  obtain ⟨b, rfl⟩ := Int.eq_ofNat_of_zero_le hy
  have ha : a < 2 ^ 62 := by have e : (2 : Nat) ^ 62 = 4611686018427387904 := by decide
                             omega
  have hb : b < 2 ^ 62 := by have e : (2 : Nat) ^ 62 = 4611686018427387904 := by decide
                             omega
  have hx : a ^^^ b < 2 ^ 62 := Nat.xor_lt_two_pow ha hb
  have ha' : a % 2 ^ IntKind.i64.bits = a := Nat.mod_eq_of_lt (Nat.lt_trans ha (by decide))
  have hb' : b % 2 ^ IntKind.i64.bits = b := Nat.mod_eq_of_lt (Nat.lt_trans hb (by decide))
  simp only [Go.bits, BitVec.ofInt_natCast, BitVec.toNat_xor, BitVec.toNat_ofNat, ha', hb']
  rw [IntKind.wrap_i64]
  have e : (2 : Nat) ^ 62 = 4611686018427387904 := by decide
  omega
theorem rd_byte {b : List Int} (hw : ∀ x ∈ b, 0 ≤ x ∧ x ≤ 255) (i : Int) : 0 ≤ rd b i ∧ rd b i ≤ 255 := by
  unfold rd
  rw [List.getD_eq_getElem?_getD]
  by_cases h : i.toNat < b.length
  · rw [List.getElem?_eq_getElem h]; exact hw _ (List.getElem_mem h)
  · rw [List.getElem?_eq_none (by omega)]; simp
/-- what a reader's bytes and place are -/
def Rdr (b : List Int) : Prop := b.length ≤ 2000 ∧ ∀ x ∈ b, 0 ≤ x ∧ x ≤ 255
theorem pick_ok {b : List Int} {p n : Int} (hb : Rdr b) (hp0 : 0 ≤ p) (hp1 : p ≤ 1000000) (hn : 1 ≤ n) :
    ∃ v, 0 ≤ v ∧ v < n ∧ Ev (fun k => spec_l20Rd_pick.f k b p n) (v, p + 1) := by
  obtain ⟨hl, hw⟩ := hb
  have e1 : wrap64 (p + 1) = p + 1 := w64 (by omega) (by omega)
  have e2 : wrap64 (p + 1 - 1) = p := by rw [show p + 1 - 1 = p by omega]; exact w64 (by omega) (by omega)
  by_cases h0 : b.length = 0
  · refine ⟨0, by omega, by omega, ?_⟩
    unfold spec_l20Rd_pick.f
    refine ev_neg (by omega) ?_
    rw [e1]
    refine Ev.step (fun _ => spec_l20Rd_pick.j0.eq_2 _ _ _ _ _) ?_
    refine ev_pos (beq_iff_eq.mpr (by omega)) (ev_now rfl)
  · have hx24 : ¬ (((b.length : Int) == 0) = true) := fun h => h0 (by have := beq_iff_eq.mp h; omega)
    by_cases h1 : p < b.length
    · have hr := rd_byte hw p
      have er : wrap64 (rd b p) = rd b p := w64 (by omega) (by omega)
      refine ⟨Int.tmod (rd b p) n, Int.tmod_nonneg _ hr.1, Int.tmod_lt_of_pos _ (by omega), ?_⟩
      unfold spec_l20Rd_pick.f
      refine ev_neg (by omega) ?_
      rw [e1]
      refine Ev.step (fun _ => spec_l20Rd_pick.j0.eq_2 _ _ _ _ _) ?_
      simp only [e2, er]
      refine ev_neg hx24 (ev_pos h1 (ev_pos hp0 (ev_neg (by omega) (ev_now rfl))))
    · have hL : (0 : Int) < b.length := by omega
      have m0 := Int.tmod_nonneg (b.length : Int) hp0
      have m1 := Int.tmod_lt_of_pos p hL
      have e3 : wrap64 (p * 7) = p * 7 := w64 (by omega) (by omega)
      have e4 : wrap64 (p * 7 + 3) = p * 7 + 3 := w64 (by omega) (by omega)
      have n0 := Int.tmod_nonneg (b.length : Int) (show 0 ≤ p * 7 + 3 by omega)
      have n1 := Int.tmod_lt_of_pos (p * 7 + 3) hL
      have r1 := rd_byte hw (Int.tmod p b.length)
      have r2 := rd_byte hw (Int.tmod (p * 7 + 3) b.length)
      have d0 : 0 ≤ Int.tdiv p b.length := Int.tdiv_nonneg hp0 (by omega)
      have d1 : Int.tdiv p b.length ≤ p := Int.tdiv_le_self _ hp0
      have e5 : wrap64 (rd b (Int.tmod p b.length)) = rd b (Int.tmod p b.length) := w64 (by omega) (by omega)
      have e6 : wrap64 (rd b (Int.tmod (p * 7 + 3) b.length)) = rd b (Int.tmod (p * 7 + 3) b.length) := w64 (by omega) (by omega)
      have e7 : wrap64 (rd b (Int.tmod p b.length) * 131) = rd b (Int.tmod p b.length) * 131 := w64 (by omega) (by omega)
      have e8 : wrap64 (rd b (Int.tmod (p * 7 + 3) b.length) * 1117) = rd b (Int.tmod (p * 7 + 3) b.length) * 1117 := w64 (by omega) (by omega)
      have e9 : wrap64 (p * 29) = p * 29 := w64 (by omega) (by omega)
      have e10 : wrap64 (Int.tdiv p b.length) = Int.tdiv p b.length := w64 (by omega) (by omega)
      have e11 : wrap64 (Int.tdiv p b.length * 53) = Int.tdiv p b.length * 53 := w64 (by omega) (by omega)
      generalize hA : rd b (Int.tmod p b.length) = A at *
      generalize hB : rd b (Int.tmod (p * 7 + 3) b.length) = B at *
      generalize hD : Int.tdiv p b.length = D at *
      have e12 : wrap64 (A * 131 + B * 1117) = A * 131 + B * 1117 := w64 (by omega) (by omega)
      have e13 : wrap64 (A * 131 + B * 1117 + p * 29) = A * 131 + B * 1117 + p * 29 := w64 (by omega) (by omega)
      have e14 : wrap64 (A * 131 + B * 1117 + p * 29 + D * 53) = A * 131 + B * 1117 + p * 29 + D * 53 := w64 (by omega) (by omega)
      have hS : 0 ≤ A * 131 + B * 1117 + p * 29 + D * 53 := by omega
      have hS1 : A * 131 + B * 1117 + p * 29 + D * 53 < 4611686018427387904 := by omega
      have t0 : 0 ≤ Int.tdiv (A * 131 + B * 1117 + p * 29 + D * 53) 64 := Int.tdiv_nonneg hS (by omega)
      have t1 : Int.tdiv (A * 131 + B * 1117 + p * 29 + D * 53) 64 ≤ A * 131 + B * 1117 + p * 29 + D * 53 := Int.tdiv_le_self _ hS
      have e15 : wrap64 (Int.tdiv (A * 131 + B * 1117 + p * 29 + D * 53) 64) = Int.tdiv (A * 131 + B * 1117 + p * 29 + D * 53) 64 := w64 (by omega) (by omega)
      have hX := xor_pos _ _ hS hS1 t0 (by omega)
      refine ⟨_, Int.tmod_nonneg n hX, Int.tmod_lt_of_pos _ (show 0 < n by omega), ?_⟩
      unfold spec_l20Rd_pick.f
      refine ev_neg (by omega) ?_
      rw [e1]
      refine Ev.step (fun _ => spec_l20Rd_pick.j0.eq_2 _ _ _ _ _) ?_
      simp only [e2, e3, e4, hA, hB, e5, e6, e7, e8, e9, hD, e10, e11, e12, e13, e14, e15]
      exact ev_neg hx24 (ev_neg h1 (ev_neg (by omega) (ev_pos m0 (ev_pos m1 (ev_pos n0 (ev_pos n1 (ev_neg (by omega) (ev_now rfl))))))))
theorem open_ok {l : List Int} (hw : ∀ x ∈ l, (Lit.int .u8 x).wf = true) : ∃ b, spec_l20Open.f l = some (b, 0) ∧ Rdr b := by
  have hw' : ∀ x ∈ l, 0 ≤ x ∧ x ≤ 255 := fun x hx => by
    have := hw x hx
    simp [Lit.wf, IntKind.min, IntKind.max, IntKind.signed, IntKind.bits] at this
    omega
  unfold spec_l20Open.f
  by_cases h : (l.length : Int) > 2000
  · refine ⟨l.take 2000, by rw [if_pos h, if_pos (by omega)], by simp; omega, fun x hx => hw' x (List.mem_of_mem_take hx)⟩
  · exact ⟨l, by rw [if_neg h], by omega, hw'⟩

/-! pack drawpairs: drawn relations and sets -/
theorem pairs_ok {b : List Int} (hb : Rdr b) {p : Int} (hp0 : 0 ≤ p) (hp1 : p ≤ 900000) :
    ∃ rel a c, -600 ≤ rel ∧ rel < 512 ∧ 0 ≤ a ∧ a < 16 ∧ 0 ≤ c ∧ c < 8 ∧ Ev (fun k => spec_l20Pairs.f k b p) (rel, a, c, p + 6) := by
  obtain ⟨v1, a1, b1, h1⟩ := pick_ok (p := p) (n := 256) hb (by omega) (by omega) (by omega)
  obtain ⟨v2, a2, b2, h2⟩ := pick_ok (p := p + 1) (n := 2) hb (by omega) (by omega) (by omega)
  obtain ⟨v3, a3, b3, h3⟩ := pick_ok (p := p + 1 + 1) (n := 40) hb (by omega) (by omega) (by omega)
  obtain ⟨v4, a4, b4, h4⟩ := pick_ok (p := p + 1 + 1 + 1) (n := 8) hb (by omega) (by omega) (by omega)
  obtain ⟨v5, a5, b5, h5⟩ := pick_ok (p := p + 1 + 1 + 1 + 1) (n := 40) hb (by omega) (by omega) (by omega)
  obtain ⟨v6, a6, b6, h6⟩ := pick_ok (p := p + 1 + 1 + 1 + 1 + 1) (n := 8) hb (by omega) (by omega) (by omega)
  have t3 : Int.tdiv v3 39 = v3 / 39 := Int.tdiv_eq_ediv_of_nonneg a3
  have t5 : Int.tdiv v5 39 = v5 / 39 := Int.tdiv_eq_ediv_of_nonneg a5
  have e1 : wrap64 (wrap64 (v1 + wrap64 (v2 * 256)) - wrap64 (wrap64 (Int.tdiv v3 39) * 600)) = v1 + v2 * 256 - v3 / 39 * 600 := by
    rw [t3]; unfold wrap64; omega
  have e2 : wrap64 (v4 + wrap64 (wrap64 (Int.tdiv v5 39) * 8)) = v4 + v5 / 39 * 8 := by
    rw [t5]; unfold wrap64; omega
  refine ⟨v1 + v2 * 256 - v3 / 39 * 600, v4 + v5 / 39 * 8, v6, by omega, by omega, by omega, by omega, by omega, by omega, ?_⟩
  unfold spec_l20Pairs.f
  refine Ev.bind h1 (Ev.bind h2 (Ev.bind h3 (Ev.bind h4 (Ev.bind h5 (Ev.bind h6 (ev_now ?_))))))
  dsimp only
  rw [e1, e2]
  congr 3; omega

theorem alive_t : laws_alive.f = some true := by decide +kernel

/-! pack turn: a relation the other way round -/
theorem turn_lt : ∀ r : Fin 512, turnN r.val < 512 := by decide +kernel
theorem turnlt {r : Nat} (h : r < 512) : turnN r < 512 := turn_lt ⟨r, h⟩

theorem iturn_all : ∀ r : Fin 512, impl_turnedPairs.f 20 (r.val : Int) = some (turnN r.val : Int) := by decide +kernel
theorem iturn {r : Nat} (h : r < 512) : Ev (fun k => impl_turnedPairs.f k (r : Int)) (turnN r : Int) := Ev.of (impl_turnedPairs.mono _) (iturn_all ⟨r, h⟩)

/-! pack within: the pairs whose things are in two sets -/
def w1 (rel a b x : Nat) : Nat := if a / 2 ^ x % 2 = 1 then rowN rel x &&& b else 0
def withN (rel a b : Nat) : Nat := w1 rel a b 0 + 8 * w1 rel a b 1 + 64 * w1 rel a b 2
theorem w1_lt (rel a b x : Nat) : w1 rel a b x < 8 := by
  unfold w1; split
  · exact Nat.lt_of_le_of_lt Nat.and_le_left (Nat.mod_lt _ (by decide))
  · decide
theorem row_lt (r x : Nat) : rowN r x < 8 := Nat.mod_lt _ (by decide)
theorem and_lt {a b : Nat} (h : b < 8) : a &&& b < 8 := Nat.and_lt_two_pow a (n := 3) h
theorem irel_all : ∀ x : Fin 3, ∀ r : Fin 512, impl_relatedTo.f (r.val : Int) (x.val : Int) = some (rowN r.val x.val : Int) := by decide +kernel
theorem irel {x r : Nat} (hx : x < 3) (h : r < 512) : impl_relatedTo.f (r : Int) (x : Int) = some (rowN r x : Int) := irel_all ⟨x, hx⟩ ⟨r, h⟩
theorem iand_all : ∀ a b : Fin 8, Go.bits .and .i64 (a.val : Int) (b.val : Int) = ((a.val &&& b.val : Nat) : Int) := by decide +kernel
theorem iand {a b : Nat} (ha : a < 8) (hb : b < 8) : Go.bits .and .i64 (a : Int) (b : Int) = ((a &&& b : Nat) : Int) := iand_all ⟨a, ha⟩ ⟨b, hb⟩
theorem ibit_all : ∀ a : Fin 8, ∀ x : Fin 3, Go.bits .and .i64 (shr .i64 (a.val : Int) (x.val : Int)) 1 = ((a.val / 2 ^ x.val % 2 : Nat) : Int) := by decide +kernel
theorem ilay_all : ∀ v : Fin 8, ∀ x : Fin 3, ∀ o : Fin 64, o.val < 8 ^ x.val → Go.bits .or .i64 (o.val : Int) (shl .i64 (v.val : Int) (wrap64 (3 * (x.val : Int)))) = ((o.val + 8 ^ x.val * v.val : Nat) : Int) := by decide +kernel
theorem pow8 {x o : Nat} (hx : x < 3) (ho : o < 8 ^ x) : o < 64 := by rcases (show x = 0 ∨ x = 1 ∨ x = 2 by omega) with rfl | rfl | rfl <;> omega
theorem iwith_round {rel a b : Nat} (ha : a < 8) (hb : b < 8) (hr : rel < 512) {x o : Nat} (hx : x < 3) (ho : o < 8 ^ x) {r : Int}
    (H : Ev (fun k => impl_WithinBoth.l0 k (rel : Int) (a : Int) (b : Int) ((o + 8 ^ x * w1 rel a b x : Nat) : Int) ((x + 1 : Nat) : Int)) r) :
    Ev (fun k => impl_WithinBoth.l0 k (rel : Int) (a : Int) (b : Int) (o : Int) (x : Int)) r := by
  have e : wrap64 ((x : Int) + 1) = ((x + 1 : Nat) : Int) := by rw [w64 (by omega) (by omega)]; omega
  have e3 : 0 ≤ wrap64 (3 * (x : Int)) := by rw [w64 (by omega) (by omega)]; omega
  have eb := ibit_all ⟨a, ha⟩ ⟨x, hx⟩
  simp only at eb
  refine Ev.step (fun _ => impl_WithinBoth.l0.eq_2 _ _ _ _ _ _) (ev_pos (by omega) (ev_pos (by omega) ?_))
  rw [e, eb]
  unfold w1 at H
  by_cases h : a / 2 ^ x % 2 = 1
  · rw [if_pos h] at H
    refine ev_pos (by omega) (ev_bind (irel hx hr) (ev_pos e3 ?_))
    rw [iand (row_lt _ _) hb]
    have := ilay_all ⟨rowN rel x &&& b, and_lt hb⟩ ⟨x, hx⟩ ⟨o, pow8 hx ho⟩ ho
    simp only at this
    rw [this]; exact H
  · rw [if_neg h] at H
    exact ev_neg (by omega) (by simpa using H)
theorem iwith_loop {rel a b : Nat} (ha : a < 8) (hb : b < 8) (hr : rel < 512) : Ev (fun k => impl_WithinBoth.l0 k (rel : Int) (a : Int) (b : Int) 0 0) (withN rel a b : Int) := by
  have h0 := w1_lt rel a b 0
  have h1 := w1_lt rel a b 1
  refine iwith_round (x := 0) (o := 0) ha hb hr (by omega) (by omega) ?_
  refine iwith_round (x := 1) ha hb hr (by omega) (by simp; omega) ?_
  refine iwith_round (x := 2) ha hb hr (by omega) (by simp; omega) ?_
  refine Ev.step (fun _ => impl_WithinBoth.l0.eq_2 _ _ _ _ _ _) (ev_neg (by omega) (ev_now ?_))
  unfold withN; omega
theorem iwith (rel a b : Int) : Ev (fun k => impl_WithinBoth.f k rel a b) (if okPairs rel a b then (withN rel.toNat a.toNat b.toNat : Int) else -1) := by
  unfold impl_WithinBoth.f
  refine ev_bind (iPairs _ _ _) ?_
  cases hp : okPairs rel a b with
  | false => exact ev_neg (by simp) (ev_now rfl)
  | true =>
    obtain ⟨r, x, y, hr, hx, hy, rfl, rfl, rfl⟩ := okPairs_nat hp
    exact ev_pos rfl (iwith_loop hx hy hr)

/-! pack within_s -/
theorem srow_all : ∀ x : Fin 3, ∀ r : Fin 512, spec_l8Row.f (r.val : Int) (x.val : Int) = some (rowN r.val x.val : Int) := by decide +kernel
theorem srow {x r : Nat} (hx : x < 3) (h : r < 512) : spec_l8Row.f (r : Int) (x : Int) = some (rowN r x : Int) := srow_all ⟨x, hx⟩ ⟨r, h⟩
theorem sbit_all : ∀ a : Fin 8, ∀ x : Fin 3, Int.tmod (shr .i64 (a.val : Int) (x.val : Int)) 2 = ((a.val / 2 ^ x.val % 2 : Nat) : Int) := by decide +kernel
theorem sbit {a x : Nat} (ha : a < 8) (hx : x < 3) : Int.tmod (shr .i64 (a : Int) (x : Int)) 2 = ((a / 2 ^ x % 2 : Nat) : Int) := sbit_all ⟨a, ha⟩ ⟨x, hx⟩
theorem slay_all : ∀ x y : Fin 3, shl .i64 1 (wrap64 (wrap64 (3 * (x.val : Int)) + (y.val : Int))) = ((8 ^ x.val * 2 ^ y.val : Nat) : Int) := by decide +kernel
def s1 (rel b x y : Nat) : Nat := if b / 2 ^ y % 2 = 1 ∧ rowN rel x / 2 ^ y % 2 = 1 then 2 ^ y else 0
theorem s1_sum : ∀ r b : Fin 8, (if b.val / 2 ^ 0 % 2 = 1 ∧ r.val / 2 ^ 0 % 2 = 1 then 2 ^ 0 else 0) + (if b.val / 2 ^ 1 % 2 = 1 ∧ r.val / 2 ^ 1 % 2 = 1 then 2 ^ 1 else 0) + (if b.val / 2 ^ 2 % 2 = 1 ∧ r.val / 2 ^ 2 % 2 = 1 then 2 ^ 2 else 0) = r.val &&& b.val := by decide +kernel
theorem s1_le (rel b x y : Nat) (hy : y < 3) : s1 rel b x y ≤ 4 := by
  unfold s1; split
  · rcases (show y = 0 ∨ y = 1 ∨ y = 2 by omega) with rfl | rfl | rfl <;> decide
  · decide
theorem pow8_le {x : Nat} (hx : x < 3) : 8 ^ x ≤ 64 := by rcases (show x = 0 ∨ x = 1 ∨ x = 2 by omega) with rfl | rfl | rfl <;> decide
theorem swith_in {rel a b : Nat} (ha : a < 8) (hb : b < 8) (hr : rel < 512) {x y o : Nat} (hx : x < 3) (hy : y < 3) (ho : o < 100000) (hbit : a / 2 ^ x % 2 = 1) {r : Int}
    (H : Ev (fun k => spec_WithinBoth.l1 k (rel : Int) (a : Int) (b : Int) ((o + 8 ^ x * s1 rel b x y : Nat) : Int) (x : Int) ((y + 1 : Nat) : Int)) r) :
    Ev (fun k => spec_WithinBoth.l1 k (rel : Int) (a : Int) (b : Int) (o : Int) (x : Int) (y : Int)) r := by
  have e : wrap64 ((y : Int) + 1) = ((y + 1 : Nat) : Int) := by rw [w64 (by omega) (by omega)]; omega
  have e0 : wrap64 (3 * (x : Int)) = 3 * x := w64 (by omega) (by omega)
  have e3 : 0 ≤ wrap64 (wrap64 (3 * (x : Int)) + (y : Int)) := by rw [e0, w64 (by omega) (by omega)]; omega
  have el := slay_all ⟨x, hx⟩ ⟨y, hy⟩
  simp only at el
  have hp := pow8_le hx
  have h2 : 2 ^ y ≤ 4 := by rcases (show y = 0 ∨ y = 1 ∨ y = 2 by omega) with rfl | rfl | rfl <;> decide
  have hm : 8 ^ x * 2 ^ y ≤ 64 * 4 := Nat.mul_le_mul hp h2
  have e5 : wrap64 ((o : Int) + ((8 ^ x * 2 ^ y : Nat) : Int)) = ((o + 8 ^ x * 2 ^ y : Nat) : Int) := by rw [w64 (by omega) (by omega)]; omega
  refine Ev.step (fun _ => spec_WithinBoth.l1.eq_2 _ _ _ _ _ _ _) (ev_pos (by omega) (ev_pos (by omega) ?_))
  rw [sbit ha hx, sbit hb hy, e, el, e5]
  refine ev_pos (by omega) (ev_pos (by omega) ?_)
  unfold s1 at H
  by_cases c1 : b / 2 ^ y % 2 = 1
  · refine ev_pos (by omega) (ev_bind (srow hx hr) ?_)
    rw [sbit (row_lt _ _) hy]
    by_cases c2 : rowN rel x / 2 ^ y % 2 = 1
    · rw [if_pos ⟨c1, c2⟩] at H
      refine ev_pos (by omega) (ev_pos e3 ?_)
      simpa using H
    · rw [if_neg (fun h => c2 h.2)] at H
      exact ev_neg (by omega) (by simpa using H)
  · rw [if_neg (fun h => c1 h.1)] at H
    exact ev_neg (by omega) (by simpa using H)
theorem swith_off {rel a b : Nat} (ha : a < 8) {x y o : Nat} (hx : x < 3) (hy : y < 3) (hbit : ¬ a / 2 ^ x % 2 = 1) {r : Int}
    (H : Ev (fun k => spec_WithinBoth.l1 k (rel : Int) (a : Int) (b : Int) (o : Int) (x : Int) ((y + 1 : Nat) : Int)) r) :
    Ev (fun k => spec_WithinBoth.l1 k (rel : Int) (a : Int) (b : Int) (o : Int) (x : Int) (y : Int)) r := by
  have e : wrap64 ((y : Int) + 1) = ((y + 1 : Nat) : Int) := by rw [w64 (by omega) (by omega)]; omega
  refine Ev.step (fun _ => spec_WithinBoth.l1.eq_2 _ _ _ _ _ _ _) (ev_pos (by omega) (ev_pos (by omega) ?_))
  rw [sbit ha hx, e]
  exact ev_neg (by omega) H
theorem swith_round {rel a b : Nat} (ha : a < 8) (hb : b < 8) (hr : rel < 512) {x o : Nat} (hx : x < 3) (ho : o < 600) {r : Int}
    (H : Ev (fun k => spec_WithinBoth.l0 k (rel : Int) (a : Int) (b : Int) ((o + 8 ^ x * w1 rel a b x : Nat) : Int) ((x + 1 : Nat) : Int)) r) :
    Ev (fun k => spec_WithinBoth.l0 k (rel : Int) (a : Int) (b : Int) (o : Int) (x : Int)) r := by
  have e : wrap64 ((x : Int) + 1) = ((x + 1 : Nat) : Int) := by rw [w64 (by omega) (by omega)]; omega
  have hp := pow8_le hx
  refine Ev.step (fun _ => spec_WithinBoth.l0.eq_2 _ _ _ _ _ _) (ev_pos (by omega) ?_)
  by_cases hbit : a / 2 ^ x % 2 = 1
  · have m0 : 8 ^ x * s1 rel b x 0 ≤ 64 * 4 := Nat.mul_le_mul hp (s1_le rel b x 0 (by omega))
    have m1 : 8 ^ x * s1 rel b x 1 ≤ 64 * 4 := Nat.mul_le_mul hp (s1_le rel b x 1 (by omega))
    refine swith_in (y := 0) ha hb hr hx (by omega) (by omega) hbit (swith_in (y := 1) ha hb hr hx (by omega) (by omega) hbit (swith_in (y := 2) ha hb hr hx (by omega) (by omega) hbit ?_))
    refine Ev.step (fun _ => spec_WithinBoth.l1.eq_2 _ _ _ _ _ _ _) (ev_neg (by omega) ?_)
    rw [e]
    have hw : w1 rel a b x = s1 rel b x 0 + s1 rel b x 1 + s1 rel b x 2 := by
      unfold w1 s1; rw [if_pos hbit]; exact (s1_sum ⟨_, row_lt rel x⟩ ⟨b, hb⟩).symm
    rw [hw, Nat.mul_add, Nat.mul_add] at H
    simpa [Nat.add_assoc] using H
  · have hw : w1 rel a b x = 0 := by unfold w1; rw [if_neg hbit]
    rw [hw] at H
    refine swith_off (y := 0) ha hx (by omega) hbit (swith_off (y := 1) ha hx (by omega) hbit (swith_off (y := 2) ha hx (by omega) hbit ?_))
    refine Ev.step (fun _ => spec_WithinBoth.l1.eq_2 _ _ _ _ _ _ _) (ev_neg (by omega) ?_)
    rw [e]
    simpa using H
theorem swith (rel a b : Int) : Ev (fun k => spec_WithinBoth.f k rel a b) (if okPairs rel a b then (withN rel.toNat a.toNat b.toNat : Int) else -1) := by
  unfold spec_WithinBoth.f
  refine ev_bind (sPairs _ _ _) ?_
  cases hp : okPairs rel a b with
  | false => exact ev_neg (by simp) (ev_now rfl)
  | true =>
    obtain ⟨r, x, y, hr, hx, hy, rfl, rfl, rfl⟩ := okPairs_nat hp
    refine ev_pos rfl ?_
    have h0 := w1_lt r x y 0
    have h1 := w1_lt r x y 1
    have h2 := w1_lt r x y 2
    refine swith_round (x := 0) (o := 0) hx hy hr (by omega) (by omega) ?_
    refine swith_round (x := 1) hx hy hr (by omega) (by simp; omega) ?_
    refine swith_round (x := 2) hx hy hr (by omega) (by simp; omega) ?_
    refine Ev.step (fun _ => spec_WithinBoth.l0.eq_2 _ _ _ _ _ _) (ev_neg (by omega) (ev_now ?_))
    simp [withN]

theorem withN_lt (r a b : Nat) : withN r a b < 512 := by
  have h0 := w1_lt r a b 0
  have h1 := w1_lt r a b 1
  have h2 := w1_lt r a b 2
  unfold withN; omega
theorem with77_all : ∀ r : Fin 512, withN r.val 7 7 = r.val := by decide +kernel
def withChk (r a b : Nat) : Bool := withN (withN r a b) a b == withN r a b && turnN (withN r a b) == withN (turnN r) b a
theorem with_all : ∀ r : Fin 512, ∀ a b : Fin 8, withChk r.val a.val b.val = true := by decide +kernel

theorem iwithN {r a b : Nat} (hr : r < 512) (ha : a < 8) (hb : b < 8) : Ev (fun k => impl_WithinBoth.f k (r : Int) (a : Int) (b : Int)) (withN r a b : Int) :=
  ev_eq (by rw [okPairs_of hr ha hb]; rfl) (iwith (r : Int) (a : Int) (b : Int))
theorem iTurned {r : Nat} (hr : r < 512) : Ev (fun k => impl_TurnedPairs.f k (r : Int)) (turnN r : Int) := by
  unfold impl_TurnedPairs.f
  exact ev_bind (iPairs _ _ _) (ev_pos (okPairs_of hr (x := 0) (y := 0) (by omega) (by omega)) (Ev.bind (iturn hr) (ev_now rfl)))
theorem FnWithinBoth : laws_FnWithinBoth.Pure := by
  intro l _ _ hw
  refine Ev.rounds (g := fun k => laws_FnWithinBoth.f k l) ?_
  unfold laws_FnWithinBoth.f
  by_cases h : (l.length : Int) > 1048576
  · exact ev_pos h (ev_now rfl)
  · obtain ⟨b, ho, hb⟩ := open_ok hw
    obtain ⟨rel, a, c, _, hr1, _, _, _, _, hE⟩ := pairs_ok (p := 0) hb (by omega) (by omega)
    have hD : Ev (fun k => spec_DrawWithinBoth.f k l) (rel, a, c) := by
      unfold spec_DrawWithinBoth.f
      exact ev_bind ho (Ev.bind hE (ev_now rfl))
    refine ev_neg h (Ev.bind hD (Ev.bind (iwith _ _ _) (Ev.bind (swith _ _ _) (ev_pos rfl ?_))))
    cases hp : okPairs rel a c with
    | false => exact ev_pos (by simp) (ev_pos (by simp) (ev_bind alive_t (ev_now rfl)))
    | true =>
      obtain ⟨r, x, y, hr, hx, hy, rfl, rfl, rfl⟩ := okPairs_nat hp
      have hc := with_all ⟨r, hr⟩ ⟨x, hx⟩ ⟨y, hy⟩
      unfold withChk at hc
      simp only [Bool.and_eq_true, beq_iff_eq] at hc
      have h7 := with77_all ⟨r, hr⟩
      simp only at h7
      have hl := withN_lt r x y
      simp only [Int.toNat_natCast, if_true]
      refine ev_neg (by omega) (Ev.bind (iwithN hl hx hy) (ev_pos (by rw [hc.1]) (Ev.bind (iTurned hl) (Ev.bind (iTurned hr) (Ev.bind (iwithN (turnlt hr) hy hx) (ev_pos (by rw [hc.2]) (Ev.bind (iwithN (a := 7) (b := 7) hr (by omega) (by omega)) (ev_now ?_))))))))
      rw [h7]; simp

end Go.Proofs.Ytmohhjbcdfhopaa.Pure
