/- For every code the law FnTurnedPairs answers true: the drawn relation is turned alike by the program and the reference, things stay related to themselves, and turned twice it is as before; no condition. -/
import Derived.Test.YtmohhjbcdfhopaaPFnTurnedPairsx2
namespace Go.Proofs.Ytmohhjbcdfhopaa.Pure
open Go.RowKit Go.Proofs.Ytmohhjbcdfhopaa.PFnTurnedPairs Go.Proofs.YtmohhjbcdfhopaaW.PrintWords Go.Proofs.YtmohhjbcdfhopaaW.PrintLast
set_option linter.unusedVariables false
set_option linter.unusedSimpArgs false

/-! pack arith: numbers that do not wrap, and steps of 'from some number of rounds on' -/
theorem w64 {n : Int} (h0 : -9223372036854775808 ≤ n) (h1 : n ≤ 9223372036854775807) : wrap64 n = n := by unfold wrap64; omega
theorem ev_pos {α : Type} {c : Prop} [Decidable c] {a b : Nat → Option α} {r : α} (h : c) (H : Ev a r) : Ev (fun k => if c then a k else b k) r :=
  Ev.congr (fun _ => if_pos h) H
theorem ev_neg {α : Type} {c : Prop} [Decidable c] {a b : Nat → Option α} {r : α} (h : ¬ c) (H : Ev b r) : Ev (fun k => if c then a k else b k) r :=
  Ev.congr (fun _ => if_neg h) H
theorem ev_now {α : Type} {a r : α} (h : a = r) : Ev (fun _ => some a) r := h ▸ Ev.now a
theorem ev_of {α : Type} {o : Option α} {r : α} (h : o = some r) : Ev (fun _ => o) r := ⟨0, fun _ _ => h⟩
theorem ev_bind {α β : Type} {o : Option α} {f : Nat → α → Option β} {a : α} {r : β} (h : o = some a) (k : Ev (fun n => f n a) r) : Ev (fun n => o.bind (f n)) r :=
  Ev.congr (fun n => by rw [h]; rfl) k
theorem ev_eq {α : Type} {g : Nat → Option α} {r r' : α} (h : r = r') (k : Ev g r) : Ev g r' := h ▸ k

/-! pack pairs: relations of three things as numbers -/
theorem rel_cases {P : Int → Prop} (h : ∀ r : Fin 512, P (r.val : Int)) {x : Int} (h0 : 0 ≤ x) (h1 : x < 512) : P x := by
  obtain ⟨n, rfl⟩ : ∃ n : Nat, x = n := ⟨x.toNat, by omega⟩
  exact h ⟨n, by omega⟩
theorem set_cases {P : Int → Prop} (h : ∀ r : Fin 8, P (r.val : Int)) {x : Int} (h0 : 0 ≤ x) (h1 : x < 8) : P x := by
  obtain ⟨n, rfl⟩ : ∃ n : Nat, x = n := ⟨x.toNat, by omega⟩
  exact h ⟨n, by omega⟩
def sz (n : Nat) : Nat := n % 2 + n / 2 % 2 + n / 4 % 2
def rowN (rel x : Nat) : Nat := rel / 8 ^ x % 8
def b1 (b : Bool) : Nat := if b then 1 else 0
/-- the other way round, a relation's nine pairs -/
def turnN (r : Nat) : Nat := r % 2 + 8 * (r / 2 % 2) + 64 * (r / 4 % 2) + 2 * (r / 8 % 2) + 16 * (r / 16 % 2) + 128 * (r / 32 % 2) + 4 * (r / 64 % 2) + 32 * (r / 128 % 2) + 256 * (r / 256 % 2)

/-! pack pick: the reader of draws -/
theorem xor_pos (x y : Int) (hx : 0 ≤ x) (hx1 : x < 4611686018427387904) (hy : 0 ≤ y) (hy1 : y < 4611686018427387904) : 0 ≤ Go.bits .xor .i64 x y := by
  obtain ⟨a, rfl⟩ := Int.eq_ofNat_of_zero_le hx
  obtain ⟨b, rfl⟩ := Int.eq_ofNat_of_zero_le hy
  have ha : a < 2 ^ 62 := by have e : (2 : Nat) ^ 62 = 4611686018427387904 := by decide
                             omega
  have hb : b < 2 ^ 62 := by have e : (2 : Nat) ^ 62 = 4611686018427387904 := by decide
                             omega
  have hx : a ^^^ b < 2 ^ 62 := Nat.xor_lt_two_pow ha hb
  have ha' : a % 2 ^ IntKind.i64.bits = a := Nat.mod_eq_of_lt (Nat.lt_trans ha (by decide))
  have hb' : b % 2 ^ IntKind.i64.bits = b := Nat.mod_eq_of_lt (Nat.lt_trans hb (by decide))
  simp only [Go.bits, BitVec.ofInt_natCast, BitVec.toNat_xor, BitVec.toNat_ofNat, ha', hb']
  rw [IntKind.wrap_i64]
  have e : (2 : Nat) ^ 62 = 4611686018427387904 := by decide
  omega
theorem rd_byte {b : List Int} (hw : ∀ x ∈ b, 0 ≤ x ∧ x ≤ 255) (i : Int) : 0 ≤ rd b i ∧ rd b i ≤ 255 := by
  unfold rd
  rw [List.getD_eq_getElem?_getD]
  by_cases h : i.toNat < b.length
  · rw [List.getElem?_eq_getElem h]; exact hw _ (List.getElem_mem h)
  · rw [List.getElem?_eq_none (by omega)]; simp
/-- what a reader's bytes and place are -/
def Rdr (b : List Int) : Prop := b.length ≤ 2000 ∧ ∀ x ∈ b, 0 ≤ x ∧ x ≤ 255
theorem pick_ok {b : List Int} {p n : Int} (hb : Rdr b) (hp0 : 0 ≤ p) (hp1 : p ≤ 1000000) (hn : 1 ≤ n) :
    ∃ v, 0 ≤ v ∧ v < n ∧ Ev (fun k => spec_l20Rd_pick.f k b p n) (v, p + 1) := by
  obtain ⟨hl, hw⟩ := hb
  have e1 : wrap64 (p + 1) = p + 1 := w64 (by omega) (by omega)
  have e2 : wrap64 (p + 1 - 1) = p := by rw [show p + 1 - 1 = p by omega]; exact w64 (by omega) (by omega)
  by_cases h0 : b.length = 0
  · refine ⟨0, by omega, by omega, ?_⟩
    unfold spec_l20Rd_pick.f
    refine ev_neg (by omega) ?_
    rw [e1]
    refine Ev.step (fun _ => spec_l20Rd_pick.j0.eq_2 _ _ _ _ _) ?_
    refine ev_pos (beq_iff_eq.mpr (by omega)) (ev_now rfl)
  · have hx24 : ¬ (((b.length : Int) == 0) = true) := fun h => h0 (by have := beq_iff_eq.mp h; omega)
    by_cases h1 : p < b.length
    · have hr := rd_byte hw p
      have er : wrap64 (rd b p) = rd b p := w64 (by omega) (by omega)
      refine ⟨Int.tmod (rd b p) n, Int.tmod_nonneg _ hr.1, Int.tmod_lt_of_pos _ (by omega), ?_⟩
      unfold spec_l20Rd_pick.f
      refine ev_neg (by omega) ?_
      rw [e1]
      refine Ev.step (fun _ => spec_l20Rd_pick.j0.eq_2 _ _ _ _ _) ?_
      simp only [e2, er]
      refine ev_neg hx24 (ev_pos h1 (ev_pos hp0 (ev_neg (by omega) (ev_now rfl))))
    · have hL : (0 : Int) < b.length := by omega
      have m0 := Int.tmod_nonneg (b.length : Int) hp0
      have m1 := Int.tmod_lt_of_pos p hL
      have e3 : wrap64 (p * 7) = p * 7 := w64 (by omega) (by omega)
      have e4 : wrap64 (p * 7 + 3) = p * 7 + 3 := w64 (by omega) (by omega)
      have n0 := Int.tmod_nonneg (b.length : Int) (show 0 ≤ p * 7 + 3 by omega)
      have n1 := Int.tmod_lt_of_pos (p * 7 + 3) hL
      have r1 := rd_byte hw (Int.tmod p b.length)
      have r2 := rd_byte hw (Int.tmod (p * 7 + 3) b.length)
      have d0 : 0 ≤ Int.tdiv p b.length := Int.tdiv_nonneg hp0 (by omega)
      have d1 : Int.tdiv p b.length ≤ p := Int.tdiv_le_self _ hp0
      have e5 : wrap64 (rd b (Int.tmod p b.length)) = rd b (Int.tmod p b.length) := w64 (by omega) (by omega)
      have e6 : wrap64 (rd b (Int.tmod (p * 7 + 3) b.length)) = rd b (Int.tmod (p * 7 + 3) b.length) := w64 (by omega) (by omega)
      have e7 : wrap64 (rd b (Int.tmod p b.length) * 131) = rd b (Int.tmod p b.length) * 131 := w64 (by omega) (by omega)
      have e8 : wrap64 (rd b (Int.tmod (p * 7 + 3) b.length) * 1117) = rd b (Int.tmod (p * 7 + 3) b.length) * 1117 := w64 (by omega) (by omega)
      have e9 : wrap64 (p * 29) = p * 29 := w64 (by omega) (by omega)
      have e10 : wrap64 (Int.tdiv p b.length) = Int.tdiv p b.length := w64 (by omega) (by omega)
      have e11 : wrap64 (Int.tdiv p b.length * 53) = Int.tdiv p b.length * 53 := w64 (by omega) (by omega)
      generalize hA : rd b (Int.tmod p b.length) = A at *
      generalize hB : rd b (Int.tmod (p * 7 + 3) b.length) = B at *
      generalize hD : Int.tdiv p b.length = D at *
      have e12 : wrap64 (A * 131 + B * 1117) = A * 131 + B * 1117 := w64 (by omega) (by omega)
      have e13 : wrap64 (A * 131 + B * 1117 + p * 29) = A * 131 + B * 1117 + p * 29 := w64 (by omega) (by omega)
      have e14 : wrap64 (A * 131 + B * 1117 + p * 29 + D * 53) = A * 131 + B * 1117 + p * 29 + D * 53 := w64 (by omega) (by omega)
      have hS : 0 ≤ A * 131 + B * 1117 + p * 29 + D * 53 := by omega
      have hS1 : A * 131 + B * 1117 + p * 29 + D * 53 < 4611686018427387904 := by omega
      have t0 : 0 ≤ Int.tdiv (A * 131 + B * 1117 + p * 29 + D * 53) 64 := Int.tdiv_nonneg hS (by omega)
      have t1 : Int.tdiv (A * 131 + B * 1117 + p * 29 + D * 53) 64 ≤ A * 131 + B * 1117 + p * 29 + D * 53 := Int.tdiv_le_self _ hS
      have e15 : wrap64 (Int.tdiv (A * 131 + B * 1117 + p * 29 + D * 53) 64) = Int.tdiv (A * 131 + B * 1117 + p * 29 + D * 53) 64 := w64 (by omega) (by omega)
      have hX := xor_pos _ _ hS hS1 t0 (by omega)
      refine ⟨_, Int.tmod_nonneg n hX, Int.tmod_lt_of_pos _ (show 0 < n by omega), ?_⟩
      unfold spec_l20Rd_pick.f
      refine ev_neg (by omega) ?_
      rw [e1]
      refine Ev.step (fun _ => spec_l20Rd_pick.j0.eq_2 _ _ _ _ _) ?_
      simp only [e2, e3, e4, hA, hB, e5, e6, e7, e8, e9, hD, e10, e11, e12, e13, e14, e15]
      exact ev_neg hx24 (ev_neg h1 (ev_neg (by omega) (ev_pos m0 (ev_pos m1 (ev_pos n0 (ev_pos n1 (ev_neg (by omega) (ev_now rfl))))))))
theorem open_ok {l : List Int} (hw : ∀ x ∈ l, (Lit.int .u8 x).wf = true) : ∃ b, spec_l20Open.f l = some (b, 0) ∧ Rdr b := by
  have hw' : ∀ x ∈ l, 0 ≤ x ∧ x ≤ 255 := fun x hx => by
    have := hw x hx
    simp [Lit.wf, IntKind.min, IntKind.max, IntKind.signed, IntKind.bits] at this
    omega
  unfold spec_l20Open.f
  by_cases h : (l.length : Int) > 2000
  · refine ⟨l.take 2000, by rw [if_pos h, if_pos (by omega)], by simp; omega, fun x hx => hw' x (List.mem_of_mem_take hx)⟩
  · exact ⟨l, by rw [if_neg h], by omega, hw'⟩

/-! pack drawpairs: drawn relations and sets -/
theorem pairs_ok {b : List Int} (hb : Rdr b) {p : Int} (hp0 : 0 ≤ p) (hp1 : p ≤ 900000) :
    ∃ rel a c, -600 ≤ rel ∧ rel < 512 ∧ 0 ≤ a ∧ a < 16 ∧ 0 ≤ c ∧ c < 8 ∧ Ev (fun k => spec_l20Pairs.f k b p) (rel, a, c, p + 6) := by
  obtain ⟨v1, a1, b1, h1⟩ := pick_ok (p := p) (n := 256) hb (by omega) (by omega) (by omega)
  obtain ⟨v2, a2, b2, h2⟩ := pick_ok (p := p + 1) (n := 2) hb (by omega) (by omega) (by omega)
  obtain ⟨v3, a3, b3, h3⟩ := pick_ok (p := p + 1 + 1) (n := 40) hb (by omega) (by omega) (by omega)
  obtain ⟨v4, a4, b4, h4⟩ := pick_ok (p := p + 1 + 1 + 1) (n := 8) hb (by omega) (by omega) (by omega)
  obtain ⟨v5, a5, b5, h5⟩ := pick_ok (p := p + 1 + 1 + 1 + 1) (n := 40) hb (by omega) (by omega) (by omega)
  obtain ⟨v6, a6, b6, h6⟩ := pick_ok (p := p + 1 + 1 + 1 + 1 + 1) (n := 8) hb (by omega) (by omega) (by omega)
  have t3 : Int.tdiv v3 39 = v3 / 39 := Int.tdiv_eq_ediv_of_nonneg a3
  have t5 : Int.tdiv v5 39 = v5 / 39 := Int.tdiv_eq_ediv_of_nonneg a5
  have e1 : wrap64 (wrap64 (v1 + wrap64 (v2 * 256)) - wrap64 (wrap64 (Int.tdiv v3 39) * 600)) = v1 + v2 * 256 - v3 / 39 * 600 := by
    rw [t3]; unfold wrap64; omega
  have e2 : wrap64 (v4 + wrap64 (wrap64 (Int.tdiv v5 39) * 8)) = v4 + v5 / 39 * 8 := by
    rw [t5]; unfold wrap64; omega
  refine ⟨v1 + v2 * 256 - v3 / 39 * 600, v4 + v5 / 39 * 8, v6, by omega, by omega, by omega, by omega, by omega, by omega, ?_⟩
  unfold spec_l20Pairs.f
  refine Ev.bind h1 (Ev.bind h2 (Ev.bind h3 (Ev.bind h4 (Ev.bind h5 (Ev.bind h6 (ev_now ?_))))))
  dsimp only
  rw [e1, e2]
  congr 3; omega

theorem alive_t : laws_alive.f = some true := by decide +kernel

/-! pack turn: a relation the other way round -/
theorem turn_lt : ∀ r : Fin 512, turnN r.val < 512 := by decide +kernel
theorem turnlt {r : Nat} (h : r < 512) : turnN r < 512 := turn_lt ⟨r, h⟩

theorem iturn_all : ∀ r : Fin 512, impl_turnedPairs.f 20 (r.val : Int) = some (turnN r.val : Int) := by decide +kernel
theorem iturn {r : Nat} (h : r < 512) : Ev (fun k => impl_turnedPairs.f k (r : Int)) (turnN r : Int) := Ev.of (impl_turnedPairs.mono _) (iturn_all ⟨r, h⟩)

theorem sturn_all : ∀ r : Fin 512, spec_TurnedPairs.f 20 (r.val : Int) = some (turnN r.val : Int) := by decide +kernel
theorem sturn {r : Nat} (h : r < 512) : Ev (fun k => spec_TurnedPairs.f k (r : Int)) (turnN r : Int) := Ev.of (spec_TurnedPairs.mono _) (sturn_all ⟨r, h⟩)

theorem turned_loop_all : ∀ r : Fin 512, laws_FnTurnedPairs.l0 40 (r.val : Int) (turnN r.val : Int) 0 = some true := by decide +kernel
theorem FnTurnedPairs : laws_FnTurnedPairs.Pure := by
  intro l _ _ hw
  refine Ev.rounds (g := fun k => laws_FnTurnedPairs.f k l) ?_
  unfold laws_FnTurnedPairs.f
  by_cases h : (l.length : Int) > 1048576
  · exact ev_pos h (ev_now rfl)
  · obtain ⟨b, ho, hb⟩ := open_ok hw
    obtain ⟨rel, a, c, _, hr1, _, _, _, _, hE⟩ := pairs_ok (p := 0) hb (by omega) (by omega)
    have hD : Ev (fun k => spec_DrawTurnedPairs.f k l) rel := by
      unfold spec_DrawTurnedPairs.f
      exact ev_bind ho (Ev.bind hE (ev_now rfl))
    refine ev_neg h (Ev.bind hD ?_)
    by_cases hr : 0 ≤ rel
    · obtain ⟨r, rfl⟩ := Int.eq_ofNat_of_zero_le hr
      have hr2 : r < 512 := by omega
      have hi : Ev (fun k => impl_TurnedPairs.f k (r : Int)) (turnN r : Int) := by
        unfold impl_TurnedPairs.f impl_arePairs.f
        refine ev_bind (a := true) ?_ (ev_pos rfl (Ev.bind (iturn hr2) (ev_now rfl)))
        rw [if_pos (by omega), if_pos (by omega), if_pos (by omega), if_pos (by omega), if_pos (by omega)]; rfl
      refine Ev.bind hi (Ev.bind (sturn hr2) (ev_pos rfl (ev_neg (by omega) ?_)))
      exact Ev.of (fun k => laws_FnTurnedPairs.mono_l k _ _ _) (turned_loop_all ⟨r, hr2⟩)
    · have hi : Ev (fun k => impl_TurnedPairs.f k rel) (-1) := by
        unfold impl_TurnedPairs.f impl_arePairs.f
        refine ev_bind (a := false) ?_ (ev_neg (by simp) (ev_now rfl))
        rw [if_neg (by omega)]
      have hs : Ev (fun k => spec_TurnedPairs.f k rel) (-1) := by
        unfold spec_TurnedPairs.f spec_l1In.f
        refine ev_bind (a := false) ?_ (ev_neg (by simp) (ev_now rfl))
        rw [if_neg (by omega)]
      exact Ev.bind hi (Ev.bind hs (ev_pos rfl (ev_pos (by omega) (ev_pos rfl (ev_bind alive_t (ev_now rfl))))))

end Go.Proofs.Ytmohhjbcdfhopaa.Pure
