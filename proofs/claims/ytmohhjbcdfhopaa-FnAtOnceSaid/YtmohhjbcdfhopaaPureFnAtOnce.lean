/- For every code the law FnAtOnce answers true: the two drawn quantities hold at once alike by the program and the reference; it is so exactly if each is so by itself with some; for every twice every of the first is related to some of the second; no condition. -/
import Derived.Test.YtmohhjbcdfhopaaPFnAtOncex11
namespace Go.Proofs.Ytmohhjbcdfhopaa.Pure
open Go.RowKit Go.Proofs.Ytmohhjbcdfhopaa.PFnAtOnce Go.Proofs.YtmohhjbcdfhopaaW.PrintWords Go.Proofs.YtmohhjbcdfhopaaW.PrintLast
set_option linter.unusedVariables false
set_option linter.unusedSimpArgs false

/-! pack arith: numbers that do not wrap, and steps of 'from some number of rounds on' -/
theorem w64 {n : Int} (h0 : -9223372036854775808 ≤ n) (h1 : n ≤ 9223372036854775807) : wrap64 n = n := by unfold wrap64; omega
theorem ev_pos {α : Type} {c : Prop} [Decidable c] {a b : Nat → Option α} {r : α} (h : c) (H : Ev a r) : Ev (fun k => if c then a k else b k) r :=
  Ev.congr (fun _ => if_pos h) H
theorem ev_neg {α : Type} {c : Prop} [Decidable c] {a b : Nat → Option α} {r : α} (h : ¬ c) (H : Ev b r) : Ev (fun k => if c then a k else b k) r :=
  Ev.congr (fun _ => if_neg h) H
theorem ev_now {α : Type} {a r : α} (h : a = r) : Ev (fun _ => some a) r := h ▸ Ev.now a
theorem ev_of {α : Type} {o : Option α} {r : α} (h : o = some r) : Ev (fun _ => o) r := ⟨0, fun _ _ => h⟩
theorem ev_bind {α β : Type} {o : Option α} {f : Nat → α → Option β} {a : α} {r : β} (h : o = some a) (k : Ev (fun n => f n a) r) : Ev (fun n => o.bind (f n)) r :=
  Ev.congr (fun n => by rw [h]; rfl) k
theorem ev_eq {α : Type} {g : Nat → Option α} {r r' : α} (h : r = r') (k : Ev g r) : Ev g r' := h ▸ k

/-! pack pairs: relations of three things as numbers -/
theorem rel_cases {P : Int → Prop} (h : ∀ r : Fin 512, P (r.val : Int)) {x : Int} (h0 : 0 ≤ x) (h1 : x < 512) : P x := by
  obtain ⟨n, rfl⟩ : ∃ n : Nat, x = n := ⟨x.toNat, by omega⟩
  exact h ⟨n, by omega⟩
theorem set_cases {P : Int → Prop} (h : ∀ r : Fin 8, P (r.val : Int)) {x : Int} (h0 : 0 ≤ x) (h1 : x < 8) : P x := by
  obtain ⟨n, rfl⟩ : ∃ n : Nat, x = n := ⟨x.toNat, by omega⟩
  exact h ⟨n, by omega⟩
def sz (n : Nat) : Nat := n % 2 + n / 2 % 2 + n / 4 % 2
def rowN (rel x : Nat) : Nat := rel / 8 ^ x % 8
def b1 (b : Bool) : Nat := if b then 1 else 0
/-- the other way round, a relation's nine pairs -/
def turnN (r : Nat) : Nat := r % 2 + 8 * (r / 2 % 2) + 64 * (r / 4 % 2) + 2 * (r / 8 % 2) + 16 * (r / 16 % 2) + 128 * (r / 32 % 2) + 4 * (r / 64 % 2) + 32 * (r / 128 % 2) + 256 * (r / 256 % 2)

/-! pack ints: the laws' copies and comparisons of rows of numbers -/
theorem rd_getD (l : List Int) (i : Nat) : rd l (i : Int) = l.getD i 0 := by simp [rd]
theorem getD_drop (l : List Int) (i : Nat) (h : i < l.length) : l.drop i = l.getD i 0 :: l.drop (i + 1) := by
  rw [List.drop_eq_getElem_cons h, List.getD_eq_getElem?_getD, List.getElem?_eq_getElem h]; rfl

/-! pack pick: the reader of draws -/
theorem xor_pos (x y : Int) (hx : 0 ≤ x) (hx1 : x < 4611686018427387904) (hy : 0 ≤ y) (hy1 : y < 4611686018427387904) : 0 ≤ Go.bits .xor .i64 x y := by
  obtain ⟨a, rfl⟩ := Int.eq_ofNat_of_zero_le hx
  obtain ⟨b, rfl⟩ := Int.eq_ofNat_of_zero_le hy
  have ha : a < 2 ^ 62 := by have e : (2 : Nat) ^ 62 = 4611686018427387904 := by decide
                             omega
  have hb : b < 2 ^ 62 := by have e : (2 : Nat) ^ 62 = 4611686018427387904 := by decide
                             omega
  have hx : a ^^^ b < 2 ^ 62 := Nat.xor_lt_two_pow ha hb
  have ha' : a % 2 ^ IntKind.i64.bits = a := Nat.mod_eq_of_lt (Nat.lt_trans ha (by decide))
  have hb' : b % 2 ^ IntKind.i64.bits = b := Nat.mod_eq_of_lt (Nat.lt_trans hb (by decide))
  simp only [Go.bits, BitVec.ofInt_natCast, BitVec.toNat_xor, BitVec.toNat_ofNat, ha', hb']
  rw [IntKind.wrap_i64]
  have e : (2 : Nat) ^ 62 = 4611686018427387904 := by decide
  omega
theorem rd_byte {b : List Int} (hw : ∀ x ∈ b, 0 ≤ x ∧ x ≤ 255) (i : Int) : 0 ≤ rd b i ∧ rd b i ≤ 255 := by
  unfold rd
  rw [List.getD_eq_getElem?_getD]
  by_cases h : i.toNat < b.length
  · rw [List.getElem?_eq_getElem h]; exact hw _ (List.getElem_mem h)
  · rw [List.getElem?_eq_none (by omega)]; simp
/-- what a reader's bytes and place are -/
def Rdr (b : List Int) : Prop := b.length ≤ 2000 ∧ ∀ x ∈ b, 0 ≤ x ∧ x ≤ 255
theorem pick_ok {b : List Int} {p n : Int} (hb : Rdr b) (hp0 : 0 ≤ p) (hp1 : p ≤ 1000000) (hn : 1 ≤ n) :
    ∃ v, 0 ≤ v ∧ v < n ∧ Ev (fun k => spec_l20Rd_pick.f k b p n) (v, p + 1) := by
  obtain ⟨hl, hw⟩ := hb
  have e1 : wrap64 (p + 1) = p + 1 := w64 (by omega) (by omega)
  have e2 : wrap64 (p + 1 - 1) = p := by rw [show p + 1 - 1 = p by omega]; exact w64 (by omega) (by omega)
  by_cases h0 : b.length = 0
  · refine ⟨0, by omega, by omega, ?_⟩
    unfold spec_l20Rd_pick.f
    refine ev_neg (by omega) ?_
    rw [e1]
    refine Ev.step (fun _ => spec_l20Rd_pick.j0.eq_2 _ _ _ _ _) ?_
    refine ev_pos (beq_iff_eq.mpr (by omega)) (ev_now rfl)
  · have hx24 : ¬ (((b.length : Int) == 0) = true) := fun h => h0 (by have := beq_iff_eq.mp h; omega)
    by_cases h1 : p < b.length
    · have hr := rd_byte hw p
      have er : wrap64 (rd b p) = rd b p := w64 (by omega) (by omega)
      refine ⟨Int.tmod (rd b p) n, Int.tmod_nonneg _ hr.1, Int.tmod_lt_of_pos _ (by omega), ?_⟩
      unfold spec_l20Rd_pick.f
      refine ev_neg (by omega) ?_
      rw [e1]
      refine Ev.step (fun _ => spec_l20Rd_pick.j0.eq_2 _ _ _ _ _) ?_
      simp only [e2, er]
      refine ev_neg hx24 (ev_pos h1 (ev_pos hp0 (ev_neg (by omega) (ev_now rfl))))
    · have hL : (0 : Int) < b.length := by omega
      have m0 := Int.tmod_nonneg (b.length : Int) hp0
      have m1 := Int.tmod_lt_of_pos p hL
      have e3 : wrap64 (p * 7) = p * 7 := w64 (by omega) (by omega)
      have e4 : wrap64 (p * 7 + 3) = p * 7 + 3 := w64 (by omega) (by omega)
      have n0 := Int.tmod_nonneg (b.length : Int) (show 0 ≤ p * 7 + 3 by omega)
      have n1 := Int.tmod_lt_of_pos (p * 7 + 3) hL
      have r1 := rd_byte hw (Int.tmod p b.length)
      have r2 := rd_byte hw (Int.tmod (p * 7 + 3) b.length)
      have d0 : 0 ≤ Int.tdiv p b.length := Int.tdiv_nonneg hp0 (by omega)
      have d1 : Int.tdiv p b.length ≤ p := Int.tdiv_le_self _ hp0
      have e5 : wrap64 (rd b (Int.tmod p b.length)) = rd b (Int.tmod p b.length) := w64 (by omega) (by omega)
      have e6 : wrap64 (rd b (Int.tmod (p * 7 + 3) b.length)) = rd b (Int.tmod (p * 7 + 3) b.length) := w64 (by omega) (by omega)
      have e7 : wrap64 (rd b (Int.tmod p b.length) * 131) = rd b (Int.tmod p b.length) * 131 := w64 (by omega) (by omega)
      have e8 : wrap64 (rd b (Int.tmod (p * 7 + 3) b.length) * 1117) = rd b (Int.tmod (p * 7 + 3) b.length) * 1117 := w64 (by omega) (by omega)
      have e9 : wrap64 (p * 29) = p * 29 := w64 (by omega) (by omega)
      have e10 : wrap64 (Int.tdiv p b.length) = Int.tdiv p b.length := w64 (by omega) (by omega)
      have e11 : wrap64 (Int.tdiv p b.length * 53) = Int.tdiv p b.length * 53 := w64 (by omega) (by omega)
      generalize hA : rd b (Int.tmod p b.length) = A at *
      generalize hB : rd b (Int.tmod (p * 7 + 3) b.length) = B at *
      generalize hD : Int.tdiv p b.length = D at *
      have e12 : wrap64 (A * 131 + B * 1117) = A * 131 + B * 1117 := w64 (by omega) (by omega)
      have e13 : wrap64 (A * 131 + B * 1117 + p * 29) = A * 131 + B * 1117 + p * 29 := w64 (by omega) (by omega)
      have e14 : wrap64 (A * 131 + B * 1117 + p * 29 + D * 53) = A * 131 + B * 1117 + p * 29 + D * 53 := w64 (by omega) (by omega)
      have hS : 0 ≤ A * 131 + B * 1117 + p * 29 + D * 53 := by omega
      have hS1 : A * 131 + B * 1117 + p * 29 + D * 53 < 4611686018427387904 := by omega
      have t0 : 0 ≤ Int.tdiv (A * 131 + B * 1117 + p * 29 + D * 53) 64 := Int.tdiv_nonneg hS (by omega)
      have t1 : Int.tdiv (A * 131 + B * 1117 + p * 29 + D * 53) 64 ≤ A * 131 + B * 1117 + p * 29 + D * 53 := Int.tdiv_le_self _ hS
      have e15 : wrap64 (Int.tdiv (A * 131 + B * 1117 + p * 29 + D * 53) 64) = Int.tdiv (A * 131 + B * 1117 + p * 29 + D * 53) 64 := w64 (by omega) (by omega)
      have hX := xor_pos _ _ hS hS1 t0 (by omega)
      refine ⟨_, Int.tmod_nonneg n hX, Int.tmod_lt_of_pos _ (show 0 < n by omega), ?_⟩
      unfold spec_l20Rd_pick.f
      refine ev_neg (by omega) ?_
      rw [e1]
      refine Ev.step (fun _ => spec_l20Rd_pick.j0.eq_2 _ _ _ _ _) ?_
      simp only [e2, e3, e4, hA, hB, e5, e6, e7, e8, e9, hD, e10, e11, e12, e13, e14, e15]
      exact ev_neg hx24 (ev_neg h1 (ev_neg (by omega) (ev_pos m0 (ev_pos m1 (ev_pos n0 (ev_pos n1 (ev_neg (by omega) (ev_now rfl))))))))
theorem open_ok {l : List Int} (hw : ∀ x ∈ l, (Lit.int .u8 x).wf = true) : ∃ b, spec_l20Open.f l = some (b, 0) ∧ Rdr b := by
  have hw' : ∀ x ∈ l, 0 ≤ x ∧ x ≤ 255 := fun x hx => by
    have := hw x hx
    simp [Lit.wf, IntKind.min, IntKind.max, IntKind.signed, IntKind.bits] at this
    omega
  unfold spec_l20Open.f
  by_cases h : (l.length : Int) > 2000
  · refine ⟨l.take 2000, by rw [if_pos h, if_pos (by omega)], by simp; omega, fun x hx => hw' x (List.mem_of_mem_take hx)⟩
  · exact ⟨l, by rw [if_neg h], by omega, hw'⟩

/-! pack odd -/
theorem odd_ok {b : List Int} (hb : Rdr b) {p n : Int} (hp0 : 0 ≤ p) (hp1 : p ≤ 1000000) (hn : 0 ≤ n) (hn1 : n ≤ 1000000) :
    ∃ v p', p ≤ p' ∧ p' ≤ p + 1 ∧ (n = 0 → v = false) ∧ Ev (fun k => spec_l20Rd_odd.f k b p n) (v, p') := by
  unfold spec_l20Rd_odd.f
  by_cases h : n > 0
  · obtain ⟨v, a, c, hE⟩ := pick_ok (n := n) hb hp0 hp1 (by omega)
    exact ⟨_, p + 1, by omega, by omega, fun e => by omega, ev_pos h (Ev.bind hE (Ev.now _))⟩
  · exact ⟨false, p, by omega, by omega, fun _ => rfl, ev_neg h (Ev.now _)⟩

/-! pack drawpairs: drawn relations and sets -/
theorem pairs_ok {b : List Int} (hb : Rdr b) {p : Int} (hp0 : 0 ≤ p) (hp1 : p ≤ 900000) :
    ∃ rel a c, -600 ≤ rel ∧ rel < 512 ∧ 0 ≤ a ∧ a < 16 ∧ 0 ≤ c ∧ c < 8 ∧ Ev (fun k => spec_l20Pairs.f k b p) (rel, a, c, p + 6) := by
  obtain ⟨v1, a1, b1, h1⟩ := pick_ok (p := p) (n := 256) hb (by omega) (by omega) (by omega)
  obtain ⟨v2, a2, b2, h2⟩ := pick_ok (p := p + 1) (n := 2) hb (by omega) (by omega) (by omega)
  obtain ⟨v3, a3, b3, h3⟩ := pick_ok (p := p + 1 + 1) (n := 40) hb (by omega) (by omega) (by omega)
  obtain ⟨v4, a4, b4, h4⟩ := pick_ok (p := p + 1 + 1 + 1) (n := 8) hb (by omega) (by omega) (by omega)
  obtain ⟨v5, a5, b5, h5⟩ := pick_ok (p := p + 1 + 1 + 1 + 1) (n := 40) hb (by omega) (by omega) (by omega)
  obtain ⟨v6, a6, b6, h6⟩ := pick_ok (p := p + 1 + 1 + 1 + 1 + 1) (n := 8) hb (by omega) (by omega) (by omega)
  have t3 : Int.tdiv v3 39 = v3 / 39 := Int.tdiv_eq_ediv_of_nonneg a3
  have t5 : Int.tdiv v5 39 = v5 / 39 := Int.tdiv_eq_ediv_of_nonneg a5
  have e1 : wrap64 (wrap64 (v1 + wrap64 (v2 * 256)) - wrap64 (wrap64 (Int.tdiv v3 39) * 600)) = v1 + v2 * 256 - v3 / 39 * 600 := by
    rw [t3]; unfold wrap64; omega
  have e2 : wrap64 (v4 + wrap64 (wrap64 (Int.tdiv v5 39) * 8)) = v4 + v5 / 39 * 8 := by
    rw [t5]; unfold wrap64; omega
  refine ⟨v1 + v2 * 256 - v3 / 39 * 600, v4 + v5 / 39 * 8, v6, by omega, by omega, by omega, by omega, by omega, by omega, ?_⟩
  unfold spec_l20Pairs.f
  refine Ev.bind h1 (Ev.bind h2 (Ev.bind h3 (Ev.bind h4 (Ev.bind h5 (Ev.bind h6 (ev_now ?_))))))
  dsimp only
  rw [e1, e2]
  congr 3; omega

/-! pack drawtri: drawn triangles -/
def nmB (i : Nat) : ByteArray := rdOf ByteArray.empty ((spec_l20Names.f).getD []) (i : Int)
def nmT (i : Nat) : List Int := ((spec_NamedTriangle.f 200 (nmB i)).getD ([], false)).1
theorem names_len : ((spec_l20Names.f).getD []).length = 10 := by decide +kernel
theorem names_some : spec_l20Names.f = some ((spec_l20Names.f).getD []) := by decide +kernel
theorem nm_all : ∀ i : Fin 10, spec_NamedTriangle.f 200 (nmB i.val) = some (nmT i.val, true) ∧ (nmT i.val).length = 21 := by decide +kernel
theorem nmNot_all : ∀ i : Fin 10, (spec_NotOf.f 100 (nmT i.val)).isSome = true ∧ ((spec_NotOf.f 100 (nmT i.val)).getD []).length = 21 := by decide +kernel
theorem nmIn_all : ∀ i : Fin 10, (spec_InsideNot.f 100 (nmT i.val)).isSome = true ∧ ((spec_InsideNot.f 100 (nmT i.val)).getD []).length = 21 := by decide +kernel
theorem nmBoth_all : ∀ i j : Fin 10, (spec_BothOf.f 100 (nmT i.val) (nmT j.val)).isSome = true ∧ ((spec_BothOf.f 100 (nmT i.val) (nmT j.val)).getD []).length = 21 := by decide +kernel
theorem nmEither_all : ∀ i j : Fin 10, (spec_EitherOf.f 100 (nmT i.val) (nmT j.val)).isSome = true ∧ ((spec_EitherOf.f 100 (nmT i.val) (nmT j.val)).getD []).length = 21 := by decide +kernel
theorem of_some {α : Type} {o : Option (List α)} (h : o.isSome = true ∧ (o.getD []).length = 21) : ∃ x, o = some x ∧ x.length = 21 := by
  cases o with
  | none => simp at h
  | some x => exact ⟨x, rfl, h.2⟩
theorem nm_ev {i : Int} (h0 : 0 ≤ i) (h1 : i < 10) : ∃ n : Nat, n < 10 ∧ i = n ∧ Ev (fun k => spec_NamedTriangle.f k (rdOf ByteArray.empty ((spec_l20Names.f).getD []) i)) (nmT n, true) := by
  obtain ⟨n, rfl⟩ := Int.eq_ofNat_of_zero_le h0
  exact ⟨n, by omega, rfl, Ev.of (spec_NamedTriangle.mono _) (nm_all ⟨n, by omega⟩).1⟩
theorem tri_end {b : List Int} (hb : Rdr b) {p n : Int} (hp0 : 0 ≤ p) (hp1 : p ≤ 900000) (hn : 0 ≤ n) (hn1 : n ≤ 1000000) {t : List Int} (ht : t.length = 21) :
    ∃ r p', r.length ≤ 22 ∧ p ≤ p' ∧ p' ≤ p + 3 ∧ Ev (fun k => spec_l20Tri.j1 k n t b p) (r, p') := by
  obtain ⟨v, p', g0, g1, _, h4⟩ := odd_ok (p := p) (n := n) hb (by omega) (by omega) (by omega) (by omega)
  obtain ⟨u, u0, u1, h5⟩ := pick_ok (p := p') (n := 3) hb (by omega) (by omega) (by omega)
  obtain ⟨y, y0, y1, h6⟩ := pick_ok (p := p' + 1) (n := 21) hb (by omega) (by omega) (by omega)
  cases v with
  | false => exact ⟨t, p', by omega, by omega, by omega, Ev.step (fun _ => spec_l20Tri.j1.eq_2 _ _ _ _ _) (Ev.bind h4 (ev_neg (by simp) (Ev.now _)))⟩
  | true =>
    by_cases c0 : u = 0
    · exact ⟨[], p' + 1, by simp, by omega, by omega, Ev.step (fun _ => spec_l20Tri.j1.eq_2 _ _ _ _ _) (Ev.bind h4 (ev_pos rfl (Ev.bind h5 (ev_pos c0 (Ev.now _)))))⟩
    · by_cases c1 : u = 1
      · exact ⟨t ++ [1], p' + 1, by simp; omega, by omega, by omega, Ev.step (fun _ => spec_l20Tri.j1.eq_2 _ _ _ _ _) (Ev.bind h4 (ev_pos rfl (Ev.bind h5 (ev_neg c0 (ev_pos c1 (ev_pos (by omega) (Ev.now _)))))))⟩
      · exact ⟨t.set y.toNat 2, p' + 1 + 1, by simp; omega, by omega, by omega, Ev.step (fun _ => spec_l20Tri.j1.eq_2 _ _ _ _ _) (Ev.bind h4 (ev_pos rfl (Ev.bind h5 (ev_neg c0 (ev_neg c1 (Ev.bind h6 (ev_pos y0 (ev_pos (by dsimp only; omega) (Ev.now _)))))))))⟩
theorem tri_loop {b : List Int} (hb : Rdr b) {n : Int} (hn : 0 ≤ n) (hn1 : n ≤ 1000000) (d : Nat) : ∀ (i : Nat) (p : Int) (t : List Int), i + d = 21 → 0 ≤ p → p ≤ 800000 + i → t.length = i →
    ∃ r p', r.length ≤ 22 ∧ p ≤ p' ∧ p' ≤ p + d + 3 ∧ Ev (fun k => spec_l20Tri.l0 k n t (i : Int) b p) (r, p') := by
  induction d with
  | zero =>
    intro i p t hi hp0 hp1 ht
    obtain ⟨r, p', a0, a1, a2, h⟩ := tri_end hb hp0 (by omega) hn hn1 (show t.length = 21 by omega)
    exact ⟨r, p', a0, a1, by omega, Ev.step (fun _ => spec_l20Tri.l0.eq_2 _ _ _ _ _ _) (ev_neg (by omega) h)⟩
  | succ d ih =>
    intro i p t hi hp0 hp1 ht
    obtain ⟨v, v0, v1, hv⟩ := pick_ok (p := p) (n := 2) hb (by omega) (by omega) (by omega)
    obtain ⟨r, p', a0, a1, a2, h⟩ := ih (i + 1) (p + 1) (t ++ [v]) (by omega) (by omega) (by omega) (by simp; omega)
    refine ⟨r, p', a0, by omega, by omega, Ev.step (fun _ => spec_l20Tri.l0.eq_2 _ _ _ _ _ _) (ev_pos (by omega) (Ev.bind hv (ev_pos (by omega) ?_)))⟩
    rw [w64 (by omega) (by omega)]
    exact h
theorem tri_ok {b : List Int} (hb : Rdr b) {p n : Int} (hp0 : 0 ≤ p) (hp1 : p ≤ 700000) (hn : 0 ≤ n) (hn1 : n ≤ 1000000) :
    ∃ r p', r.length ≤ 22 ∧ p ≤ p' ∧ p' ≤ p + 40 ∧ Ev (fun k => spec_l20Tri.f k b p n) (r, p') := by
  obtain ⟨v, v0, v1, hv⟩ := pick_ok (p := p) (n := 4) hb (by omega) (by omega) (by omega)
  unfold spec_l20Tri.f
  by_cases c : v = 0
  · obtain ⟨r, p', a0, a1, a2, h⟩ := tri_loop hb hn hn1 21 0 (p + 1) [] (by omega) (by omega) (by omega) rfl
    exact ⟨r, p', a0, by omega, by omega, Ev.bind hv (ev_pos c h)⟩
  · obtain ⟨x, x0, x1, hx⟩ := pick_ok (p := p + 1) (n := 10) hb (by omega) (by omega) (by omega)
    obtain ⟨y, y0, y1, hy⟩ := pick_ok (p := p + 1 + 1) (n := 10) hb (by omega) (by omega) (by omega)
    obtain ⟨z, z0, z1, hz⟩ := pick_ok (p := p + 1 + 1 + 1) (n := 7) hb (by omega) (by omega) (by omega)
    obtain ⟨i, hi, rfl, hi'⟩ := nm_ev x0 x1
    obtain ⟨j, hj, rfl, hj'⟩ := nm_ev y0 y1
    have hl := names_len
    by_cases c0 : z = 0
    · obtain ⟨t, ht, hl'⟩ := of_some (nmNot_all ⟨i, hi⟩)
      obtain ⟨r, p', a0, a1, a2, h⟩ := tri_end (p := p + 1 + 1 + 1 + 1) hb (by omega) (by omega) hn hn1 hl'
      exact ⟨r, p', a0, by omega, by omega, Ev.bind hv (ev_neg c (ev_bind names_some (Ev.bind hx (ev_pos x0 (ev_pos (by rw [hl]; exact x1) (Ev.bind hi' (ev_bind names_some (Ev.bind hy (ev_pos y0 (ev_pos (by rw [hl]; exact y1) (Ev.bind hj' (Ev.bind hz (ev_pos c0 (Ev.bind (Ev.of (spec_NotOf.mono _) ht) h))))))))))))))⟩
    · by_cases c1 : z = 1
      · obtain ⟨t, ht, hl'⟩ := of_some (nmIn_all ⟨i, hi⟩)
        obtain ⟨r, p', a0, a1, a2, h⟩ := tri_end (p := p + 1 + 1 + 1 + 1) hb (by omega) (by omega) hn hn1 hl'
        exact ⟨r, p', a0, by omega, by omega, Ev.bind hv (ev_neg c (ev_bind names_some (Ev.bind hx (ev_pos x0 (ev_pos (by rw [hl]; exact x1) (Ev.bind hi' (ev_bind names_some (Ev.bind hy (ev_pos y0 (ev_pos (by rw [hl]; exact y1) (Ev.bind hj' (Ev.bind hz (ev_neg c0 (ev_pos c1 (Ev.bind (Ev.of (spec_InsideNot.mono _) ht) h)))))))))))))))⟩
      · by_cases c2 : z = 2
        · obtain ⟨t, ht, hl'⟩ := of_some (nmBoth_all ⟨i, hi⟩ ⟨j, hj⟩)
          obtain ⟨r, p', a0, a1, a2, h⟩ := tri_end (p := p + 1 + 1 + 1 + 1) hb (by omega) (by omega) hn hn1 hl'
          exact ⟨r, p', a0, by omega, by omega, Ev.bind hv (ev_neg c (ev_bind names_some (Ev.bind hx (ev_pos x0 (ev_pos (by rw [hl]; exact x1) (Ev.bind hi' (ev_bind names_some (Ev.bind hy (ev_pos y0 (ev_pos (by rw [hl]; exact y1) (Ev.bind hj' (Ev.bind hz (ev_neg c0 (ev_neg c1 (ev_pos c2 (Ev.bind (Ev.of (spec_BothOf.mono _ _) ht) h))))))))))))))))⟩
        · by_cases c3 : z = 3
          · obtain ⟨t, ht, hl'⟩ := of_some (nmEither_all ⟨i, hi⟩ ⟨j, hj⟩)
            obtain ⟨r, p', a0, a1, a2, h⟩ := tri_end (p := p + 1 + 1 + 1 + 1) hb (by omega) (by omega) hn hn1 hl'
            exact ⟨r, p', a0, by omega, by omega, Ev.bind hv (ev_neg c (ev_bind names_some (Ev.bind hx (ev_pos x0 (ev_pos (by rw [hl]; exact x1) (Ev.bind hi' (ev_bind names_some (Ev.bind hy (ev_pos y0 (ev_pos (by rw [hl]; exact y1) (Ev.bind hj' (Ev.bind hz (ev_neg c0 (ev_neg c1 (ev_neg c2 (ev_pos c3 (Ev.bind (Ev.of (spec_EitherOf.mono _ _) ht) h)))))))))))))))))⟩
          · obtain ⟨r, p', a0, a1, a2, h⟩ := tri_end (p := p + 1 + 1 + 1 + 1) hb (by omega) (by omega) hn hn1 (nm_all ⟨i, hi⟩).2
            exact ⟨r, p', a0, by omega, by omega, Ev.bind hv (ev_neg c (ev_bind names_some (Ev.bind hx (ev_pos x0 (ev_pos (by rw [hl]; exact x1) (Ev.bind hi' (ev_bind names_some (Ev.bind hy (ev_pos y0 (ev_pos (by rw [hl]; exact y1) (Ev.bind hj' (Ev.bind hz (ev_neg c0 (ev_neg c1 (ev_neg c2 (ev_neg c3 h))))))))))))))))⟩

/-! pack drawtwo -/
theorem two_ok {b : List Int} (hb : Rdr b) {p : Int} (hp0 : 0 ≤ p) (hp1 : p ≤ 500000) :
    ∃ s a t c rel, s.length ≤ 22 ∧ t.length ≤ 22 ∧ ∃ p', Ev (fun k => spec_l20Two.f k b p) (s, a, t, c, rel, p') := by
  obtain ⟨rel, a, c, _, hr1, _, _, _, _, hE⟩ := pairs_ok (p := p) hb (by omega) (by omega)
  obtain ⟨s, p1, hs, _, _, hS⟩ := tri_ok (p := p + 6) (n := 24) hb (by omega) (by omega) (by omega) (by omega)
  obtain ⟨t, p2, ht, _, _, hT⟩ := tri_ok (p := p1) (n := 24) hb (by omega) (by omega) (by omega) (by omega)
  refine ⟨s, a, t, c, rel, hs, ht, p2, ?_⟩
  unfold spec_l20Two.f
  exact Ev.bind hE (Ev.bind hS (Ev.bind hT (Ev.now _)))

theorem alive_t : laws_alive.f = some true := by decide +kernel

/-! pack tri: rows of 21 noughts and ones -/
def isTri (l : List Int) : Bool := l.all (fun x => x == 0 || x == 1) && l.length == 21
theorem tri_out (l : List Int) (n : Nat) (h : (l.drop n).all (fun x => x == 0 || x == 1) = true) (hn : l.length ≤ n) : True := trivial
theorem len_beq (l : List Int) : ((l.length : Int) == 21) = (l.length == 21) := by
  by_cases h : l.length = 21
  · rw [h]; rfl
  · rw [beq_false_of_ne h, beq_false_of_ne (by omega)]
theorem iTri_loop (l : List Int) (hl : l.length ≤ 100000000) (d : Nat) : ∀ i : Nat, i + d = l.length →
    Ev (fun k => impl_isTriangle.l0 k l l (l.length : Int) i) ((l.drop i).all (fun x => x == 0 || x == 1) && l.length == 21) := by
  induction d with
  | zero =>
    intro i hi
    refine Ev.step (fun _ => impl_isTriangle.l0.eq_2 _ _ _ _ _) (ev_neg (by omega) (ev_now ?_))
    rw [List.drop_of_length_le (by omega), len_beq]; rfl
  | succ d ih =>
    intro i hi
    refine Ev.step (fun _ => impl_isTriangle.l0.eq_2 _ _ _ _ _) (ev_pos (by omega) (ev_pos (by omega) (ev_pos (by omega) ?_)))
    rw [getD_drop l i (by omega), w64 (by omega) (by omega)]
    simp only [rd_getD, List.all_cons]
    by_cases h : l.getD i 0 = 0
    · refine ev_pos h (ev_eq ?_ (ih (i + 1) (by omega)))
      rw [h]; rfl
    · by_cases h1 : l.getD i 0 = 1
      · refine ev_neg h (ev_pos h1 (ev_eq ?_ (ih (i + 1) (by omega))))
        rw [h1]; rfl
      · refine ev_neg h (ev_neg h1 (ev_now ?_))
        rw [beq_false_of_ne h, beq_false_of_ne h1]; rfl
theorem iTri_ev (l : List Int) (hl : l.length ≤ 100000000) : Ev (fun k => impl_isTriangle.f k l) (isTri l) := by
  unfold impl_isTriangle.f
  exact ev_eq (by simp [isTri]) (iTri_loop l hl l.length 0 (by omega))
theorem in01 (x : Int) : spec_l1In.f x 0 1 = some (x == 0 || x == 1) := by
  unfold spec_l1In.f
  by_cases h : x ≥ 0
  · rw [if_pos h]
    by_cases h1 : x ≤ 1
    · rcases (show x = 0 ∨ x = 1 by omega) with rfl | rfl <;> rfl
    · rw [decide_eq_false h1, beq_false_of_ne (show x ≠ 0 by omega), beq_false_of_ne (show x ≠ 1 by omega)]; rfl
  · rw [if_neg h, beq_false_of_ne (show x ≠ 0 by omega), beq_false_of_ne (show x ≠ 1 by omega)]; rfl
theorem sTri_loop (l : List Int) (hl : l.length ≤ 100000000) (d : Nat) : ∀ i : Nat, i + d = l.length →
    Ev (fun k => spec_TriangleOk.l0 k l i) ((l.drop i).all (fun x => x == 0 || x == 1) && l.length == 21) := by
  induction d with
  | zero =>
    intro i hi
    refine Ev.step (fun _ => spec_TriangleOk.l0.eq_2 _ _ _) (ev_neg (by omega) (ev_now ?_))
    rw [List.drop_of_length_le (by omega), len_beq]; rfl
  | succ d ih =>
    intro i hi
    refine Ev.step (fun _ => spec_TriangleOk.l0.eq_2 _ _ _) (ev_pos (by omega) (ev_pos (by omega) ?_))
    rw [getD_drop l i (by omega), w64 (by omega) (by omega)]
    simp only [rd_getD, List.all_cons]
    refine ev_bind (in01 _) ?_
    by_cases h : (l.getD i 0 == 0 || l.getD i 0 == 1) = true
    · refine ev_pos h (ev_eq ?_ (ih (i + 1) (by omega)))
      rw [h]; rfl
    · refine ev_neg h (ev_now ?_)
      rw [Bool.not_eq_true] at h
      rw [h]; rfl
theorem sTri_ev (l : List Int) (hl : l.length ≤ 100000000) : Ev (fun k => spec_TriangleOk.f k l) (isTri l) := by
  unfold spec_TriangleOk.f
  exact ev_eq (by simp [isTri]) (sTri_loop l hl l.length 0 (by omega))

/-! pack who: what triangles say of sets and relations -/
def pl (a s : Nat) : Nat := a * (a + 1) / 2 + s
def hd (t : List Int) (a s : Nat) : Bool := t.getD (pl a s) 0 == 1
theorem sz_le : ∀ n : Fin 8, sz n.val ≤ 3 := by decide
theorem sz_and : ∀ a b : Fin 8, sz (a.val &&& b.val) ≤ sz a.val := by decide
theorem szle {n : Nat} (h : n < 8) : sz n ≤ 3 := sz_le ⟨n, h⟩
theorem szand {a b : Nat} (ha : a < 8) (hb : b < 8) : sz (a &&& b) ≤ sz a := sz_and ⟨a, ha⟩ ⟨b, hb⟩
theorem and_lt {a b : Nat} (h : b < 8) : a &&& b < 8 := Nat.and_lt_two_pow a (n := 3) h
theorem and_lt' {a b : Nat} (h : a < 8) : a &&& b < 8 := by rw [Nat.and_comm]; exact and_lt h
theorem row_lt (r x : Nat) : rowN r x < 8 := Nat.mod_lt _ (by decide)
theorem isize_all : ∀ n : Fin 8, impl_sizeOf.f (n.val : Int) = some (sz n.val : Int) := by decide +kernel
theorem irel_all : ∀ x : Fin 3, ∀ r : Fin 512, impl_relatedTo.f (r.val : Int) (x.val : Int) = some (rowN r.val x.val : Int) := by decide +kernel
theorem iand_all : ∀ a b : Fin 8, Go.bits .and .i64 (a.val : Int) (b.val : Int) = ((a.val &&& b.val : Nat) : Int) := by decide +kernel
theorem iplace_all : ∀ a s : Fin 4, impl_placeOf.f (a.val : Int) (s.val : Int) = some (pl a.val s.val : Int) := by decide +kernel
theorem ior_all : ∀ x : Fin 3, ∀ o : Fin 4, o.val < 2 ^ x.val → Go.bits .or .i64 (o.val : Int) (shl .i64 1 (x.val : Int)) = ((o.val + 2 ^ x.val : Nat) : Int) := by decide +kernel
theorem isize {n : Nat} (h : n < 8) : impl_sizeOf.f (n : Int) = some (sz n : Int) := isize_all ⟨n, h⟩
theorem irel {x r : Nat} (hx : x < 3) (h : r < 512) : impl_relatedTo.f (r : Int) (x : Int) = some (rowN r x : Int) := irel_all ⟨x, hx⟩ ⟨r, h⟩
theorem iand {a b : Nat} (ha : a < 8) (hb : b < 8) : Go.bits .and .i64 (a : Int) (b : Int) = ((a &&& b : Nat) : Int) := iand_all ⟨a, ha⟩ ⟨b, hb⟩
theorem ior {x o : Nat} (hx : x < 3) (ho : o < 2 ^ x) : Go.bits .or .i64 (o : Int) (shl .i64 1 (x : Int)) = ((o + 2 ^ x : Nat) : Int) :=
  ior_all ⟨x, hx⟩ ⟨o, by rcases (show x = 0 ∨ x = 1 ∨ x = 2 by omega) with rfl | rfl | rfl <;> omega⟩ ho
theorem pl_lt {a s : Nat} (ha : a ≤ 3) (hs : s ≤ a) : pl a s < 21 := by
  unfold pl
  rcases (show a = 0 ∨ a = 1 ∨ a = 2 ∨ a = 3 by omega) with rfl | rfl | rfl | rfl <;> omega
theorem iholds {t : List Int} (ht : t.length = 21) {a s : Nat} (ha : a ≤ 3) (hs : s ≤ a) : impl_holds.f t (a : Int) (s : Int) = some (hd t a s) := by
  unfold impl_holds.f
  rw [iplace_all ⟨a, by omega⟩ ⟨s, by omega⟩]
  have := pl_lt ha hs
  simp only [Option.bind_some]
  rw [if_pos (by omega), if_pos (by omega), rd_getD]
  unfold hd
  rfl
def who1 (t : List Int) (b rel x : Nat) : Bool := hd t (sz b) (sz (b &&& rowN rel x))
def whoN (t : List Int) (b rel : Nat) : Nat := b1 (who1 t b rel 0) + 2 * b1 (who1 t b rel 1) + 4 * b1 (who1 t b rel 2)
theorem b1_le (b : Bool) : b1 b ≤ 1 := by cases b <;> decide
theorem whoN_lt (t : List Int) (b rel : Nat) : whoN t b rel < 8 := by
  have h0 := b1_le (who1 t b rel 0)
  have h1 := b1_le (who1 t b rel 1)
  have h2 := b1_le (who1 t b rel 2)
  unfold whoN; omega

/-! pack who_i -/
theorem iwho_round {t : List Int} (ht : t.length = 21) {b rel : Nat} (hb : b < 8) (hr : rel < 512) {x o : Nat} (hx : x < 3) (ho : o < 2 ^ x) {r : Int}
    (H : Ev (fun k => impl_whoDo.l0 k t b rel ((o + 2 ^ x * b1 (who1 t b rel x) : Nat) : Int) ((x + 1 : Nat) : Int)) r) : Ev (fun k => impl_whoDo.l0 k t b rel (o : Int) (x : Int)) r := by
  have hs := szle hb
  have hs2 := szand hb (row_lt rel x)
  refine Ev.step (fun _ => impl_whoDo.l0.eq_2 _ _ _ _ _ _) (ev_pos (by omega) ?_)
  refine ev_bind (isize hb) (ev_bind (irel hx hr) (ev_bind (by rw [iand hb (row_lt _ _)]; exact isize (and_lt (row_lt _ _))) (ev_bind (iholds ht hs hs2) ?_)))
  have e : wrap64 ((x : Int) + 1) = ((x + 1 : Nat) : Int) := by rw [w64 (by omega) (by omega)]; omega
  rw [e]
  have hw : who1 t b rel x = hd t (sz b) (sz (b &&& rowN rel x)) := rfl
  rw [hw] at H
  cases hc : hd t (sz b) (sz (b &&& rowN rel x)) with
  | true =>
    rw [hc] at H
    refine ev_pos rfl (ev_pos (by omega) ?_)
    rw [ior hx ho]
    simpa [b1] using H
  | false =>
    rw [hc] at H
    refine ev_neg (by simp) ?_
    simpa [b1] using H
theorem iwho_ev {t : List Int} (ht : t.length = 21) {b rel : Nat} (hb : b < 8) (hr : rel < 512) : Ev (fun k => impl_whoDo.f k t (b : Int) (rel : Int)) (whoN t b rel : Int) := by
  have h0 := b1_le (who1 t b rel 0)
  have h1 := b1_le (who1 t b rel 1)
  unfold impl_whoDo.f
  refine iwho_round (x := 0) (o := 0) ht hb hr (by omega) (by omega) ?_
  refine iwho_round (x := 1) ht hb hr (by omega) (by simp; omega) ?_
  refine iwho_round (x := 2) ht hb hr (by omega) (by simp; omega) ?_
  refine Ev.step (fun _ => impl_whoDo.l0.eq_2 _ _ _ _ _ _) (ev_neg (by omega) (ev_now ?_))
  unfold whoN; omega

/-! pack okpairs: which numbers are relations and sets -/
def okPairs (rel a b : Int) : Bool := decide (0 ≤ rel ∧ rel < 512 ∧ 0 ≤ a ∧ a < 8 ∧ 0 ≤ b ∧ b < 8)
theorem le511 (x : Int) : (x ≤ 511) = (x < 512) := propext (by omega)
theorem le7 (x : Int) : (x ≤ 7) = (x < 8) := propext (by omega)
theorem sPairs (rel a b : Int) : spec_PairsOk.f rel a b = some (okPairs rel a b) := by
  unfold spec_PairsOk.f spec_l1In.f okPairs
  simp only [le511, le7, ge_iff_le]
  by_cases h1 : 0 ≤ rel <;> by_cases h2 : rel < 512 <;> by_cases h3 : 0 ≤ a <;> by_cases h4 : a < 8 <;> by_cases h5 : 0 ≤ b <;> by_cases h6 : b < 8 <;> simp [h1, h2, h3, h4, h5, h6]
theorem iPairs (rel a b : Int) : impl_arePairs.f rel a b = some (okPairs rel a b) := by
  unfold impl_arePairs.f okPairs
  simp only [ge_iff_le]
  by_cases h1 : 0 ≤ rel <;> by_cases h2 : rel < 512 <;> by_cases h3 : 0 ≤ a <;> by_cases h4 : a < 8 <;> by_cases h5 : 0 ≤ b <;> by_cases h6 : b < 8 <;> simp [h1, h2, h3, h4, h5, h6]
theorem okPairs_nat {rel a b : Int} (h : okPairs rel a b = true) : ∃ r x y : Nat, r < 512 ∧ x < 8 ∧ y < 8 ∧ rel = r ∧ a = x ∧ b = y := by
  unfold okPairs at h
  have h := of_decide_eq_true h
  exact ⟨rel.toNat, a.toNat, b.toNat, by omega, by omega, by omega, by omega, by omega, by omega⟩
theorem okPairs_of {r x y : Nat} (hr : r < 512) (hx : x < 8) (hy : y < 8) : okPairs (r : Int) (x : Int) (y : Int) = true := by
  unfold okPairs; exact decide_eq_true (by omega)

/-! pack whospec: the same of the reference -/
theorem ssize_all : ∀ n : Fin 8, spec_l2Size.f 20 (n.val : Int) = some (sz n.val : Int) := by decide +kernel
theorem sboth_all : ∀ a b : Fin 8, spec_l2Both.f 20 (a.val : Int) (b.val : Int) = some ((a.val &&& b.val : Nat) : Int) := by decide +kernel
theorem srow_all : ∀ x : Fin 3, ∀ r : Fin 512, spec_l8Row.f (r.val : Int) (x.val : Int) = some (rowN r.val x.val : Int) := by decide +kernel
theorem splace_all : ∀ a s : Fin 4, s.val ≤ a.val → spec_PlaceOf.f (a.val : Int) (s.val : Int) = some (pl a.val s.val : Int) := by decide +kernel
theorem sshl_all : ∀ x : Fin 3, ∀ o : Fin 4, wrap64 ((o.val : Int) + shl .i64 1 (x.val : Int)) = ((o.val + 2 ^ x.val : Nat) : Int) := by decide +kernel
theorem ssize {n : Nat} (h : n < 8) : Ev (fun k => spec_l2Size.f k (n : Int)) (sz n : Int) := Ev.of (spec_l2Size.mono _) (ssize_all ⟨n, h⟩)
theorem sboth {a b : Nat} (ha : a < 8) (hb : b < 8) : Ev (fun k => spec_l2Both.f k (a : Int) (b : Int)) ((a &&& b : Nat) : Int) := Ev.of (spec_l2Both.mono _ _) (sboth_all ⟨a, ha⟩ ⟨b, hb⟩)
theorem srow {x r : Nat} (hx : x < 3) (h : r < 512) : spec_l8Row.f (r : Int) (x : Int) = some (rowN r x : Int) := srow_all ⟨x, hx⟩ ⟨r, h⟩
theorem splace {a s : Nat} (ha : a ≤ 3) (hs : s ≤ a) : spec_PlaceOf.f (a : Int) (s : Int) = some (pl a s : Int) := splace_all ⟨a, by omega⟩ ⟨s, by omega⟩ hs
theorem sshl {x o : Nat} (hx : x < 3) (ho : o < 2 ^ x) : wrap64 ((o : Int) + shl .i64 1 (x : Int)) = ((o + 2 ^ x : Nat) : Int) :=
  sshl_all ⟨x, hx⟩ ⟨o, by rcases (show x = 0 ∨ x = 1 ∨ x = 2 by omega) with rfl | rfl | rfl <;> omega⟩
theorem swho_round {t : List Int} (ht : t.length = 21) {b rel : Nat} (hb : b < 8) (hr : rel < 512) {x o : Nat} (hx : x < 3) (ho : o < 2 ^ x) {r : Int}
    (H : Ev (fun k => spec_WhoDo.l0 k t b rel ((o + 2 ^ x * b1 (who1 t b rel x) : Nat) : Int) ((x + 1 : Nat) : Int)) r) : Ev (fun k => spec_WhoDo.l0 k t b rel (o : Int) (x : Int)) r := by
  have hs := szle hb
  have hs2 := szand hb (row_lt rel x)
  refine Ev.step (fun _ => spec_WhoDo.l0.eq_2 _ _ _ _ _ _) (ev_pos (by omega) ?_)
  refine Ev.bind (ssize hb) (ev_bind (srow hx hr) (Ev.bind (sboth hb (row_lt _ _)) (Ev.bind (ssize (and_lt (row_lt _ _))) (ev_bind (splace hs hs2) ?_))))
  have hp := pl_lt hs hs2
  refine ev_pos (by omega) (ev_pos (by omega) ?_)
  have e : wrap64 ((x : Int) + 1) = ((x + 1 : Nat) : Int) := by rw [w64 (by omega) (by omega)]; omega
  rw [e, rd_getD]
  have hw : who1 t b rel x = (t.getD (pl (sz b) (sz (b &&& rowN rel x))) 0 == 1) := rfl
  by_cases hc : t.getD (pl (sz b) (sz (b &&& rowN rel x))) 0 = 1
  · rw [hw, hc] at H
    refine ev_pos hc (ev_pos (by omega) ?_)
    rw [sshl hx ho]
    simpa [b1] using H
  · rw [hw, beq_false_of_ne hc] at H
    refine ev_neg hc ?_
    simpa [b1] using H
theorem swho_loop {t : List Int} (ht : t.length = 21) {b rel : Nat} (hb : b < 8) (hr : rel < 512) : Ev (fun k => spec_WhoDo.l0 k t (b : Int) (rel : Int) 0 0) (whoN t b rel : Int) := by
  have h0 := b1_le (who1 t b rel 0)
  have h1 := b1_le (who1 t b rel 1)
  refine swho_round (x := 0) (o := 0) ht hb hr (by omega) (by omega) ?_
  refine swho_round (x := 1) ht hb hr (by omega) (by simp; omega) ?_
  refine swho_round (x := 2) ht hb hr (by omega) (by simp; omega) ?_
  refine Ev.step (fun _ => spec_WhoDo.l0.eq_2 _ _ _ _ _ _) (ev_neg (by omega) (ev_now ?_))
  unfold whoN; omega

/-! pack two: two quantities at once, as one Bool each -/
def whoM (t : List Int) (b rel : Int) : Int := if isTri t && okPairs rel 0 b then (whoN t b.toNat rel.toNat : Int) else -1
theorem isTri_len {t : List Int} (h : isTri t = true) : t.length = 21 := by
  unfold isTri at h
  simp only [Bool.and_eq_true, beq_iff_eq] at h
  exact h.2
theorem swhoM (t : List Int) (hl : t.length ≤ 100000000) (b rel : Int) : Ev (fun k => spec_WhoDo.f k t b rel) (whoM t b rel) := by
  unfold spec_WhoDo.f whoM
  refine Ev.bind (sTri_ev t hl) ?_
  cases h : isTri t with
  | false => exact ev_neg (by simp) (Ev.step (fun _ => spec_WhoDo.j0.eq_2 _ _ _ _ _) (ev_pos rfl (ev_now rfl)))
  | true =>
    refine ev_pos rfl (ev_bind (sPairs _ _ _) ?_)
    cases hp : okPairs rel 0 b with
    | false => exact (Ev.step (fun _ => spec_WhoDo.j0.eq_2 _ _ _ _ _) (ev_pos rfl (ev_now rfl)))
    | true =>
      obtain ⟨r, x, y, hr, hx, hy, rfl, hx0, rfl⟩ := okPairs_nat hp
      exact (Ev.step (fun _ => spec_WhoDo.j0.eq_2 _ _ _ _ _) (ev_neg (by simp) (swho_loop (isTri_len h) hy hr)))

/-! pack twodef -/
def firstN (s : List Int) (a : Nat) (t : List Int) (b rel : Nat) : Bool := hd s (sz a) (sz (a &&& whoN t b rel))
def okTwo (s : List Int) (a : Int) (t : List Int) (b rel : Int) : Bool := isTri s && isTri t && okPairs rel a b
def firstM (s : List Int) (a : Int) (t : List Int) (b rel : Int) : Bool := okTwo s a t b rel && firstN s a.toNat t b.toNat rel.toNat

theorem ifirst_ev {s t : List Int} (hs : s.length = 21) (ht : t.length = 21) {a b rel : Nat} (ha : a < 8) (hb : b < 8) (hr : rel < 512) :
    Ev (fun k => impl_firstThen.f k s (a : Int) t (b : Int) (rel : Int)) (firstN s a t b rel) := by
  unfold impl_firstThen.f
  have hw := whoN_lt t b rel
  refine ev_bind (isize ha) (Ev.bind (iwho_ev ht hb hr) (ev_bind (by rw [iand ha hw]; exact isize (and_lt hw)) (ev_bind (iholds hs (szle ha) (szand ha hw)) (ev_now rfl))))

theorem ifirstM (s : List Int) (hs : s.length ≤ 100000000) (t : List Int) (ht : t.length ≤ 100000000) (a b rel : Int) : Ev (fun k => impl_FirstThen.f k s a t b rel) (firstM s a t b rel) := by
  unfold impl_FirstThen.f firstM okTwo
  refine Ev.bind (iTri_ev s hs) ?_
  cases h : isTri s with
  | false => exact ev_neg (by simp) (ev_now rfl)
  | true =>
    refine ev_pos rfl (Ev.bind (iTri_ev t ht) ?_)
    cases h' : isTri t with
    | false => exact ev_neg (by simp) (ev_now rfl)
    | true =>
      refine ev_pos rfl (ev_bind (iPairs _ _ _) ?_)
      cases hp : okPairs rel a b with
      | false => exact ev_neg (by simp) (ev_now rfl)
      | true =>
        obtain ⟨r, x, y, hr, hx, hy, rfl, rfl, rfl⟩ := okPairs_nat hp
        exact ev_pos rfl (Ev.bind (ifirst_ev (isTri_len h) (isTri_len h') hx hy hr) (ev_now (by simp)))

/-! pack turn: a relation the other way round -/
theorem turn_lt : ∀ r : Fin 512, turnN r.val < 512 := by decide +kernel
theorem turnlt {r : Nat} (h : r < 512) : turnN r < 512 := turn_lt ⟨r, h⟩

theorem iturn_all : ∀ r : Fin 512, impl_turnedPairs.f 20 (r.val : Int) = some (turnN r.val : Int) := by decide +kernel
theorem iturn {r : Nat} (h : r < 512) : Ev (fun k => impl_turnedPairs.f k (r : Int)) (turnN r : Int) := Ev.of (impl_turnedPairs.mono _) (iturn_all ⟨r, h⟩)

theorem sturn_all : ∀ r : Fin 512, spec_TurnedPairs.f 20 (r.val : Int) = some (turnN r.val : Int) := by decide +kernel
theorem sturn {r : Nat} (h : r < 512) : Ev (fun k => spec_TurnedPairs.f k (r : Int)) (turnN r : Int) := Ev.of (spec_TurnedPairs.mono _) (sturn_all ⟨r, h⟩)

/-! pack some: the triangle of 'some' -/
def someT : List Int := [0, 0, 1, 0, 1, 1, 0, 1, 1, 1, 0, 1, 1, 1, 1, 0, 1, 1, 1, 1, 1]
theorem some_and : ∀ b r : Fin 8, hd someT (sz b.val) (sz (b.val &&& r.val)) = !(r.val &&& b.val == 0) := by decide +kernel
theorem who1_some {b : Nat} (hb : b < 8) (rel x : Nat) : who1 someT b rel x = !(rowN rel x &&& b == 0) := some_and ⟨b, hb⟩ ⟨_, row_lt rel x⟩
def onceN (s : List Int) (a : Nat) (t : List Int) (b rel : Nat) : Bool := hd s (sz a) (sz (a &&& whoN someT b rel)) && hd t (sz b) (sz (b &&& whoN someT a (turnN rel)))
def onceM (s : List Int) (a : Int) (t : List Int) (b rel : Int) : Bool := okTwo s a t b rel && onceN s a.toNat t b.toNat rel.toNat

theorem once_end {s t : List Int} (hs : s.length = 21) (ht : t.length = 21) {a b : Nat} (ha : a < 8) (hb : b < 8) (rel : Int) {o d : Nat} (ho : o < 8) (hd' : d < 8) :
    Ev (fun k => impl_AtOnce.l0 k s (a : Int) t (b : Int) rel (o : Int) (d : Int) 3) (hd s (sz a) (sz (a &&& o)) && hd t (sz b) (sz (b &&& d))) := by
  refine Ev.step (fun _ => impl_AtOnce.l0.eq_2 _ _ _ _ _ _ _ _ _) (ev_neg (by omega) ?_)
  refine ev_bind (isize ha) (ev_bind (by rw [iand ha ho]; exact isize (and_lt ho)) (ev_bind (iholds hs (szle ha) (szand ha ho)) ?_))
  cases h : hd s (sz a) (sz (a &&& o)) with
  | false => exact ev_neg (by simp) (ev_now rfl)
  | true => exact ev_pos rfl (ev_bind (isize hb) (ev_bind (by rw [iand hb hd']; exact isize (and_lt hd')) (ev_bind (iholds ht (szle hb) (sz_and ⟨b, hb⟩ ⟨_, hd'⟩)) (ev_now (by simp)))))
theorem once_round {s t : List Int} {a b rel : Nat} (ha : a < 8) (hb : b < 8) (hr : rel < 512) {x o d : Nat} (hx : x < 3) (ho : o < 2 ^ x) (hd' : d < 2 ^ x) {r : Bool}
    (H : Ev (fun k => impl_AtOnce.l0 k s (a : Int) t (b : Int) (rel : Int) ((o + 2 ^ x * b1 (who1 someT b rel x) : Nat) : Int) ((d + 2 ^ x * b1 (who1 someT a (turnN rel) x) : Nat) : Int) ((x + 1 : Nat) : Int)) r) :
    Ev (fun k => impl_AtOnce.l0 k s (a : Int) t (b : Int) (rel : Int) (o : Int) (d : Int) (x : Int)) r := by
  have e : wrap64 ((x : Int) + 1) = ((x + 1 : Nat) : Int) := by rw [w64 (by omega) (by omega)]; omega
  have second : ∀ o' : Nat, o' = o + 2 ^ x * b1 (who1 someT b rel x) → Ev (fun k => impl_AtOnce.j2 k s (a : Int) t (b : Int) (rel : Int) (o' : Int) (d : Int) (x : Int) (x : Int)) r := by
    intro o' ho'
    subst ho'
    refine Ev.step (fun _ => impl_AtOnce.j2.eq_2 _ _ _ _ _ _ _ _ _ _) (Ev.bind (iturn hr) (ev_bind (irel hx (turnlt hr)) ?_))
    rw [iand (row_lt _ _) ha, e]
    rw [who1_some ha] at H
    by_cases h0 : rowN (turnN rel) x &&& a = 0
    · refine ev_pos (by omega) ?_
      rw [h0] at H
      simpa [b1] using H
    · refine ev_neg (by omega) (ev_pos (by omega) ?_)
      rw [ior hx hd']
      rw [beq_false_of_ne h0] at H
      simpa [b1] using H
  refine Ev.step (fun _ => impl_AtOnce.l0.eq_2 _ _ _ _ _ _ _ _ _) (ev_pos (by omega) (ev_bind (irel hx hr) ?_))
  rw [iand (row_lt _ _) hb]
  by_cases h0 : rowN rel x &&& b = 0
  · refine ev_pos (by omega) (second o ?_)
    rw [who1_some hb, h0]; simp [b1]
  · refine ev_neg (by omega) (ev_pos (by omega) ?_)
    rw [ior hx ho]
    refine second _ ?_
    rw [who1_some hb, beq_false_of_ne h0]; simp [b1]
theorem ionce_ev {s t : List Int} (hs : s.length = 21) (ht : t.length = 21) {a b rel : Nat} (ha : a < 8) (hb : b < 8) (hr : rel < 512) :
    Ev (fun k => impl_AtOnce.l0 k s (a : Int) t (b : Int) (rel : Int) 0 0 0) (onceN s a t b rel) := by
  have h0 := b1_le (who1 someT b rel 0)
  have h1 := b1_le (who1 someT b rel 1)
  have h2 := b1_le (who1 someT b rel 2)
  have g0 := b1_le (who1 someT a (turnN rel) 0)
  have g1 := b1_le (who1 someT a (turnN rel) 1)
  have g2 := b1_le (who1 someT a (turnN rel) 2)
  refine once_round (x := 0) (o := 0) (d := 0) ha hb hr (by omega) (by omega) (by omega) ?_
  refine once_round (x := 1) ha hb hr (by omega) (by simp; omega) (by simp; omega) ?_
  refine once_round (x := 2) ha hb hr (by omega) (by simp; omega) (by simp; omega) ?_
  refine ev_eq ?_ (once_end hs ht ha hb rel (by simp; omega) (by simp; omega))
  unfold onceN whoN
  simp
theorem ionceM (s : List Int) (hs : s.length ≤ 100000000) (t : List Int) (ht : t.length ≤ 100000000) (a b rel : Int) : Ev (fun k => impl_AtOnce.f k s a t b rel) (onceM s a t b rel) := by
  unfold impl_AtOnce.f onceM okTwo
  refine Ev.bind (iTri_ev s hs) ?_
  cases h : isTri s with
  | false => exact ev_neg (by simp) (Ev.step (fun _ => impl_AtOnce.j0.eq_2 _ _ _ _ _ _ _) (ev_pos rfl (ev_now rfl)))
  | true =>
    refine ev_pos rfl (Ev.bind (iTri_ev t ht) ?_)
    cases h' : isTri t with
    | false => exact ev_neg (by simp) (Ev.step (fun _ => impl_AtOnce.j0.eq_2 _ _ _ _ _ _ _) (ev_pos rfl (ev_now rfl)))
    | true =>
      refine ev_pos rfl (ev_bind (iPairs _ _ _) ?_)
      cases hp : okPairs rel a b with
      | false => exact (Ev.step (fun _ => impl_AtOnce.j0.eq_2 _ _ _ _ _ _ _) (ev_pos rfl (ev_now rfl)))
      | true =>
        obtain ⟨r, x, y, hr, hx, hy, rfl, rfl, rfl⟩ := okPairs_nat hp
        exact (Ev.step (fun _ => impl_AtOnce.j0.eq_2 _ _ _ _ _ _ _) (ev_neg (by simp) (ev_eq (by simp) (ionce_ev (isTri_len h) (isTri_len h') hx hy hr))))

theorem smade_some : spec_l1Made.f 60 1 1 = some someT := by decide +kernel
theorem smade1 : Ev (fun k => spec_l1Made.f k 1 1) someT := Ev.of (spec_l1Made.mono _ _) smade_some
theorem some_tri : isTri someT = true := by decide
theorem sonce_mid {s t : List Int} (hs : s.length = 21) (ht : t.length = 21) {a b rel : Nat} (ha : a < 8) (hb : b < 8) (hr : rel < 512) :
    Ev (fun k => spec_AtOnce.j0 k s (a : Int) t (b : Int) (rel : Int) false) (onceN s a t b rel) := by
  have hw := whoN_lt someT b rel
  have hw2 := whoN_lt someT a (turnN rel)
  have hT := turnlt hr
  have e1 : whoM someT b rel = (whoN someT b rel : Int) := by
    unfold whoM okPairs
    rw [some_tri, decide_eq_true (by omega)]; rfl
  have e2 : whoM someT a (turnN rel : Int) = (whoN someT a (turnN rel) : Int) := by
    unfold whoM okPairs
    rw [some_tri, decide_eq_true (by omega)]; rfl
  have w1 := swhoM someT (by decide) b rel
  have w2 := swhoM someT (by decide) a (turnN rel : Int)
  rw [e1] at w1
  rw [e2] at w2
  have p1 := szle ha
  have p2 := szand ha hw
  have q1 := szle hb
  have q2 := szand hb hw2
  have l1 := pl_lt p1 p2
  have l2 := pl_lt q1 q2
  refine Ev.step (fun _ => spec_AtOnce.j0.eq_2 _ _ _ _ _ _ _) (ev_neg (by simp) ?_)
  refine Ev.bind smade1 (Ev.bind (ssize ha) (Ev.bind w1 (Ev.bind (sboth ha hw) (Ev.bind (ssize (and_lt hw)) (ev_bind (splace p1 p2) (ev_pos (by omega) (ev_pos (by omega) ?_)))))))
  rw [rd_getD]
  unfold onceN
  by_cases h : s.getD (pl (sz a) (sz (a &&& whoN someT b rel))) 0 = 1
  · have e : hd s (sz a) (sz (a &&& whoN someT b rel)) = true := by unfold hd; rw [h]; rfl
    rw [e]
    refine ev_pos h (Ev.bind (ssize hb) (Ev.bind (sturn hr) (Ev.bind w2 (Ev.bind (sboth hb hw2) (Ev.bind (ssize (and_lt hw2)) (ev_bind (splace q1 q2) (ev_pos (by omega) (ev_pos (by omega) (ev_now ?_)))))))))
    rw [rd_getD]; simp [hd]
  · have e : hd s (sz a) (sz (a &&& whoN someT b rel)) = false := by unfold hd; exact beq_false_of_ne h
    rw [e]
    exact ev_neg h (ev_now rfl)
theorem sonceM (s : List Int) (hs : s.length ≤ 100000000) (t : List Int) (ht : t.length ≤ 100000000) (a b rel : Int) : Ev (fun k => spec_AtOnce.f k s a t b rel) (onceM s a t b rel) := by
  unfold spec_AtOnce.f onceM okTwo
  refine Ev.bind (sTri_ev s hs) ?_
  cases h : isTri s with
  | false => exact ev_neg (by simp) (Ev.step (fun _ => spec_AtOnce.j0.eq_2 _ _ _ _ _ _ _) (ev_pos rfl (ev_now rfl)))
  | true =>
    refine ev_pos rfl (Ev.bind (sTri_ev t ht) ?_)
    cases h' : isTri t with
    | false => exact ev_neg (by simp) (Ev.step (fun _ => spec_AtOnce.j0.eq_2 _ _ _ _ _ _ _) (ev_pos rfl (ev_now rfl)))
    | true =>
      refine ev_pos rfl (ev_bind (sPairs _ _ _) ?_)
      cases hp : okPairs rel a b with
      | false => exact (Ev.step (fun _ => spec_AtOnce.j0.eq_2 _ _ _ _ _ _ _) (ev_pos rfl (ev_now rfl)))
      | true =>
        obtain ⟨r, x, y, hr, hx, hy, rfl, rfl, rfl⟩ := okPairs_nat hp
        exact ev_eq (by simp) (sonce_mid (isTri_len h) (isTri_len h') hx hy hr)

/-! pack named_i: every and some -/
def everyT : List Int := [1, 0, 1, 0, 0, 1, 0, 0, 0, 1, 0, 0, 0, 0, 1, 0, 0, 0, 0, 0, 1]
theorem inamed_every : impl_NamedTriangle.f (⟨#[101, 118, 101, 114, 121]⟩ : ByteArray) = some (everyT, true) := by decide +kernel
theorem inamed_some : impl_NamedTriangle.f (⟨#[115, 111, 109, 101]⟩ : ByteArray) = some (someT, true) := by decide +kernel
theorem every_tri : isTri everyT = true := by decide
theorem some_tri' : isTri someT = true := by decide

theorem FnAtOnce : laws_FnAtOnce.Pure := by
  intro l _ _ hw
  refine Ev.rounds (g := fun k => laws_FnAtOnce.f k l) ?_
  unfold laws_FnAtOnce.f
  by_cases h : (l.length : Int) > 1048576
  · exact ev_pos h (ev_now rfl)
  · obtain ⟨b, ho, hb⟩ := open_ok hw
    obtain ⟨s, a, t, c, rel, hs, ht, hE⟩ := two_ok (p := 0) hb (by omega) (by omega)
    have hD : Ev (fun k => spec_DrawAtOnce.f k l) (s, a, t, c, rel) := by
      unfold spec_DrawAtOnce.f
      obtain ⟨p', hE⟩ := hE
      exact ev_bind ho (Ev.bind hE (ev_now rfl))
    have hsl : s.length ≤ 100000000 := by omega
    have htl : t.length ≤ 100000000 := by omega
    have le : everyT.length ≤ 100000000 := by decide
    have lo : someT.length ≤ 100000000 := by decide
    refine ev_neg h (Ev.bind hD (Ev.bind (ionceM s hsl t htl _ _ _) (Ev.bind (sonceM s hsl t htl _ _ _) (ev_neg (by simp) (Ev.bind (sTri_ev s hsl) ?_)))))
    dsimp only
    have bad : okTwo s a t c rel = false → Ev (fun k => laws_FnAtOnce.j0 k s a t c rel (onceM s a t c rel) true) true := by
      intro e
      have : onceM s a t c rel = false := by unfold onceM; rw [e]; rfl
      rw [this]
      exact Ev.step (fun _ => laws_FnAtOnce.j0.eq_2 _ _ _ _ _ _ _ _) (ev_pos rfl (ev_neg (by simp) (ev_bind alive_t (ev_now rfl))))
    cases h1 : isTri s with
    | false => exact ev_neg (by simp) (bad (by unfold okTwo; rw [h1]; rfl))
    | true =>
      refine ev_pos rfl (Ev.bind (sTri_ev t htl) ?_)
      cases h2 : isTri t with
      | false => exact ev_neg (by simp) (bad (by unfold okTwo; rw [h1, h2]; rfl))
      | true =>
        refine ev_pos rfl (ev_bind (sPairs _ _ _) ?_)
        cases h3 : okPairs rel a c with
        | false => exact bad (by unfold okTwo; rw [h1, h2, h3]; rfl)
        | true =>
          obtain ⟨r, x, y, hr, hx, hy, rfl, rfl, rfl⟩ := okPairs_nat h3
          have first : ∀ {s' t' : List Int} {x' y' r' : Nat}, isTri s' = true → isTri t' = true → x' < 8 → y' < 8 → r' < 512 → Ev (fun k => impl_FirstThen.f k s' (x' : Int) t' (y' : Int) (r' : Int)) (firstN s' x' t' y' r') := by
            intro s' t' x' y' r' a1 a2 b1 b2 a3
            have q1 := isTri_len a1
            have q2 := isTri_len a2
            refine ev_eq ?_ (ifirstM s' (by omega) t' (by omega) (x' : Int) (y' : Int) (r' : Int))
            unfold firstM okTwo
            rw [a1, a2, okPairs_of a3 b1 b2]; simp
          have hO : onceM s (x : Int) t (y : Int) (r : Int) = (firstN s x someT y r && firstN t y someT x (turnN r)) := by
            unfold onceM okTwo
            rw [h1, h2, h3]; simp; rfl
          have hEE : onceM everyT (x : Int) everyT (y : Int) (r : Int) = (firstN everyT x someT y r && firstN everyT y someT x (turnN r)) := by
            unfold onceM okTwo
            rw [every_tri, h3]; simp; rfl
          have fin : Ev (fun k => laws_FnAtOnce.j1 k s (x : Int) t (y : Int) (r : Int) (onceM s (x : Int) t (y : Int) (r : Int)) someT false) true := by
            rw [hO]
            refine Ev.step (fun _ => laws_FnAtOnce.j1.eq_2 _ _ _ _ _ _ _ _ _) (ev_neg (by simp) (Ev.bind (first h1 some_tri' hx hy hr) ?_))
            cases hf : firstN s x someT y r with
            | false => exact ev_neg (by simp) (ev_now (by simp))
            | true =>
              have hT : Ev (fun k => impl_TurnedPairs.f k (r : Int)) (turnN r : Int) := by
                unfold impl_TurnedPairs.f
                exact ev_bind (iPairs _ _ _) (ev_pos (okPairs_of hr (x := 0) (y := 0) (by omega) (by omega)) (Ev.bind (iturn hr) (ev_now rfl)))
              exact ev_pos rfl (Ev.bind hT (Ev.bind (first h2 some_tri' hy hx (turnlt hr)) (ev_now (by simp))))
          refine Ev.step (fun _ => laws_FnAtOnce.j0.eq_2 _ _ _ _ _ _ _ _) (ev_neg (by simp) (ev_bind inamed_every (ev_bind inamed_some (Ev.bind (ionceM everyT le everyT le _ _ _) ?_))))
          dsimp only
          rw [hEE]
          cases hf : firstN everyT x someT y r with
          | false => exact ev_neg (by simp) fin
          | true =>
            cases hg : firstN everyT y someT x (turnN r) with
            | false => exact ev_neg (by simp) fin
            | true =>
              refine ev_pos rfl (Ev.bind (first every_tri some_tri' hx hy hr) ?_)
              rw [hf]
              exact fin

end Go.Proofs.Ytmohhjbcdfhopaa.Pure
