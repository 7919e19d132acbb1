/- For every code the law FnDeskNew answers true: the desk made of the drawn list is the reference's, it is valid, it holds the list or nothing; no condition. -/
import Derived.Test.YtnnaiaiddjkjnaaPFnDeskNewx6
namespace Go.Proofs.Ytnnaiaiddjkjnaa.Pure
open Go.RowKit Go.Proofs.Ytnnaiaiddjkjnaa.PFnDeskNew Go.Proofs.YtnnaiaiddjkjnaaW.PrintWords Go.Proofs.YtnnaiaiddjkjnaaW.PrintLast
set_option linter.unusedVariables false
set_option linter.unusedSimpArgs false

/-! pack arith: numbers that do not wrap, and steps of 'from some number of rounds on' -/
theorem w64 {n : Int} (h0 : -9223372036854775808 ≤ n) (h1 : n ≤ 9223372036854775807) : wrap64 n = n := by unfold wrap64; omega
theorem ev_pos {α : Type} {c : Prop} [Decidable c] {a b : Nat → Option α} {r : α} (h : c) (H : Ev a r) : Ev (fun k => if c then a k else b k) r :=
  Ev.congr (fun _ => if_pos h) H
theorem ev_neg {α : Type} {c : Prop} [Decidable c] {a b : Nat → Option α} {r : α} (h : ¬ c) (H : Ev b r) : Ev (fun k => if c then a k else b k) r :=
  Ev.congr (fun _ => if_neg h) H
theorem ev_now {α : Type} {a r : α} (h : a = r) : Ev (fun _ => some a) r := h ▸ Ev.now a
theorem ev_of {α : Type} {o : Option α} {r : α} (h : o = some r) : Ev (fun _ => o) r := ⟨0, fun _ _ => h⟩
theorem ev_bind {α β : Type} {o : Option α} {f : Nat → α → Option β} {a : α} {r : β} (h : o = some a) (k : Ev (fun n => f n a) r) : Ev (fun n => o.bind (f n)) r :=
  Ev.congr (fun n => by rw [h]; rfl) k
theorem ev_eq {α : Type} {g : Nat → Option α} {r r' : α} (h : r = r') (k : Ev g r) : Ev g r' := h ▸ k

/-! pack pick: the reader of draws -/
theorem xor_pos (x y : Int) (hx : 0 ≤ x) (hx1 : x < 4611686018427387904) (hy : 0 ≤ y) (hy1 : y < 4611686018427387904) : 0 ≤ Go.bits .xor .i64 x y := by
  obtain ⟨a, rfl⟩ := Int.eq_ofNat_of_zero_le hx
  obtain ⟨b, rfl⟩ := Int.eq_ofNat_of_zero_le hy
  have ha : a < 2 ^ 62 := by have e : (2 : Nat) ^ 62 = 4611686018427387904 := by decide
                             omega
  have hb : b < 2 ^ 62 := by have e : (2 : Nat) ^ 62 = 4611686018427387904 := by decide
                             omega
  have hx : a ^^^ b < 2 ^ 62 := Nat.xor_lt_two_pow ha hb
  have ha' : a % 2 ^ IntKind.i64.bits = a := Nat.mod_eq_of_lt (Nat.lt_trans ha (by decide))
  have hb' : b % 2 ^ IntKind.i64.bits = b := Nat.mod_eq_of_lt (Nat.lt_trans hb (by decide))
  simp only [Go.bits, BitVec.ofInt_natCast, BitVec.toNat_xor, BitVec.toNat_ofNat, ha', hb']
  rw [IntKind.wrap_i64]
  have e : (2 : Nat) ^ 62 = 4611686018427387904 := by decide
  omega
theorem rd_byte {b : List Int} (hw : ∀ x ∈ b, 0 ≤ x ∧ x ≤ 255) (i : Int) : 0 ≤ rd b i ∧ rd b i ≤ 255 := by
  unfold rd
  rw [List.getD_eq_getElem?_getD]
  by_cases h : i.toNat < b.length
  · rw [List.getElem?_eq_getElem h]; exact hw _ (List.getElem_mem h)
  · rw [List.getElem?_eq_none (by omega)]; simp
/-- what a reader's bytes and place are -/
def Rdr (b : List Int) : Prop := b.length ≤ 2000 ∧ ∀ x ∈ b, 0 ≤ x ∧ x ≤ 255
theorem pick_ok {b : List Int} {p n : Int} (hb : Rdr b) (hp0 : 0 ≤ p) (hp1 : p ≤ 1000000) (hn : 1 ≤ n) :
    ∃ v, 0 ≤ v ∧ v < n ∧ Ev (fun k => spec_l20Rd_pick.f k b p n) (v, p + 1) := by
  obtain ⟨hl, hw⟩ := hb
  have e1 : wrap64 (p + 1) = p + 1 := w64 (by omega) (by omega)
  have e2 : wrap64 (p + 1 - 1) = p := by rw [show p + 1 - 1 = p by omega]; exact w64 (by omega) (by omega)
  by_cases h0 : b.length = 0
  · refine ⟨0, by omega, by omega, ?_⟩
    unfold spec_l20Rd_pick.f
    refine ev_neg (by omega) ?_
    rw [e1]
    refine Ev.step (fun _ => spec_l20Rd_pick.j0.eq_2 _ _ _ _ _) ?_
    refine ev_pos (beq_iff_eq.mpr (by omega)) (ev_now rfl)
  · have hx24 : ¬ (((b.length : Int) == 0) = true) := fun h => h0 (by have := beq_iff_eq.mp h; omega)
    by_cases h1 : p < b.length
    · have hr := rd_byte hw p
      have er : wrap64 (rd b p) = rd b p := w64 (by omega) (by omega)
      refine ⟨Int.tmod (rd b p) n, Int.tmod_nonneg _ hr.1, Int.tmod_lt_of_pos _ (by omega), ?_⟩
      unfold spec_l20Rd_pick.f
      refine ev_neg (by omega) ?_
      rw [e1]
      refine Ev.step (fun _ => spec_l20Rd_pick.j0.eq_2 _ _ _ _ _) ?_
      simp only [e2, er]
      refine ev_neg hx24 (ev_pos h1 (ev_pos hp0 (ev_neg (by omega) (ev_now rfl))))
    · have hL : (0 : Int) < b.length := by omega
      have m0 := Int.tmod_nonneg (b.length : Int) hp0
      have m1 := Int.tmod_lt_of_pos p hL
      have e3 : wrap64 (p * 7) = p * 7 := w64 (by omega) (by omega)
      have e4 : wrap64 (p * 7 + 3) = p * 7 + 3 := w64 (by omega) (by omega)
      have n0 := Int.tmod_nonneg (b.length : Int) (show 0 ≤ p * 7 + 3 by omega)
      have n1 := Int.tmod_lt_of_pos (p * 7 + 3) hL
      have r1 := rd_byte hw (Int.tmod p b.length)
      have r2 := rd_byte hw (Int.tmod (p * 7 + 3) b.length)
      have d0 : 0 ≤ Int.tdiv p b.length := Int.tdiv_nonneg hp0 (by omega)
      have d1 : Int.tdiv p b.length ≤ p := Int.tdiv_le_self _ hp0
      have e5 : wrap64 (rd b (Int.tmod p b.length)) = rd b (Int.tmod p b.length) := w64 (by omega) (by omega)
      have e6 : wrap64 (rd b (Int.tmod (p * 7 + 3) b.length)) = rd b (Int.tmod (p * 7 + 3) b.length) := w64 (by omega) (by omega)
      have e7 : wrap64 (rd b (Int.tmod p b.length) * 131) = rd b (Int.tmod p b.length) * 131 := w64 (by omega) (by omega)
      have e8 : wrap64 (rd b (Int.tmod (p * 7 + 3) b.length) * 1117) = rd b (Int.tmod (p * 7 + 3) b.length) * 1117 := w64 (by omega) (by omega)
      have e9 : wrap64 (p * 29) = p * 29 := w64 (by omega) (by omega)
      have e10 : wrap64 (Int.tdiv p b.length) = Int.tdiv p b.length := w64 (by omega) (by omega)
      have e11 : wrap64 (Int.tdiv p b.length * 53) = Int.tdiv p b.length * 53 := w64 (by omega) (by omega)
      generalize hA : rd b (Int.tmod p b.length) = A at *
      generalize hB : rd b (Int.tmod (p * 7 + 3) b.length) = B at *
      generalize hD : Int.tdiv p b.length = D at *
      have e12 : wrap64 (A * 131 + B * 1117) = A * 131 + B * 1117 := w64 (by omega) (by omega)
      have e13 : wrap64 (A * 131 + B * 1117 + p * 29) = A * 131 + B * 1117 + p * 29 := w64 (by omega) (by omega)
      have e14 : wrap64 (A * 131 + B * 1117 + p * 29 + D * 53) = A * 131 + B * 1117 + p * 29 + D * 53 := w64 (by omega) (by omega)
      have hS : 0 ≤ A * 131 + B * 1117 + p * 29 + D * 53 := by omega
      have hS1 : A * 131 + B * 1117 + p * 29 + D * 53 < 4611686018427387904 := by omega
      have t0 : 0 ≤ Int.tdiv (A * 131 + B * 1117 + p * 29 + D * 53) 64 := Int.tdiv_nonneg hS (by omega)
      have t1 : Int.tdiv (A * 131 + B * 1117 + p * 29 + D * 53) 64 ≤ A * 131 + B * 1117 + p * 29 + D * 53 := Int.tdiv_le_self _ hS
      have e15 : wrap64 (Int.tdiv (A * 131 + B * 1117 + p * 29 + D * 53) 64) = Int.tdiv (A * 131 + B * 1117 + p * 29 + D * 53) 64 := w64 (by omega) (by omega)
      have hX := xor_pos _ _ hS hS1 t0 (by omega)
      refine ⟨_, Int.tmod_nonneg n hX, Int.tmod_lt_of_pos _ (show 0 < n by omega), ?_⟩
      unfold spec_l20Rd_pick.f
      refine ev_neg (by omega) ?_
      rw [e1]
      refine Ev.step (fun _ => spec_l20Rd_pick.j0.eq_2 _ _ _ _ _) ?_
      simp only [e2, e3, e4, hA, hB, e5, e6, e7, e8, e9, hD, e10, e11, e12, e13, e14, e15]
      exact ev_neg hx24 (ev_neg h1 (ev_neg (by omega) (ev_pos m0 (ev_pos m1 (ev_pos n0 (ev_pos n1 (ev_neg (by omega) (ev_now rfl))))))))
theorem open_ok {l : List Int} (hw : ∀ x ∈ l, (Lit.int .u8 x).wf = true) : ∃ b, spec_l20Open.f l = some (b, 0) ∧ Rdr b := by
  have hw' : ∀ x ∈ l, 0 ≤ x ∧ x ≤ 255 := fun x hx => by
    have := hw x hx
    simp [Lit.wf, IntKind.min, IntKind.max, IntKind.signed, IntKind.bits] at this
    omega
  unfold spec_l20Open.f
  by_cases h : (l.length : Int) > 2000
  · refine ⟨l.take 2000, by rw [if_pos h, if_pos (by omega)], by simp; omega, fun x hx => hw' x (List.mem_of_mem_take hx)⟩
  · exact ⟨l, by rw [if_neg h], by omega, hw'⟩

/-! pack odd -/
theorem odd_ok {b : List Int} (hb : Rdr b) {p n : Int} (hp0 : 0 ≤ p) (hp1 : p ≤ 1000000) (hn : 0 ≤ n) (hn1 : n ≤ 1000000) :
    ∃ v p', p ≤ p' ∧ p' ≤ p + 1 ∧ (n = 0 → v = false) ∧ Ev (fun k => spec_l20Rd_odd.f k b p n) (v, p') := by
  unfold spec_l20Rd_odd.f
  by_cases h : n > 0
  · obtain ⟨v, a, c, hE⟩ := pick_ok (n := n) hb hp0 hp1 (by omega)
    exact ⟨_, p + 1, by omega, by omega, fun e => by omega, ev_pos h (Ev.bind hE (Ev.now _))⟩
  · exact ⟨false, p, by omega, by omega, fun _ => rfl, ev_neg h (Ev.now _)⟩

/-! pack wok: which sentences are right -/
def wOk (f o t : Int) : Bool := decide (0 ≤ f ∧ f ≤ 5 ∧ 0 ≤ o ∧ o ≤ 3 ∧ 0 ≤ t ∧ t ≤ 3)
theorem wOk_nat {f o t : Int} (h : wOk f o t = true) : ∃ x y z : Nat, x < 6 ∧ y < 4 ∧ z < 4 ∧ f = x ∧ o = y ∧ t = z := by
  have h := of_decide_eq_true h
  exact ⟨f.toNat, o.toNat, t.toNat, by omega, by omega, by omega, by omega, by omega, by omega⟩
theorem iWeigh (f o t : Int) : impl_isWeigh.f f o t = some (wOk f o t) := by
  unfold impl_isWeigh.f wOk
  simp only [ge_iff_le]
  by_cases h1 : 0 ≤ f <;> by_cases h2 : f ≤ 5 <;> by_cases h3 : 0 ≤ o <;> by_cases h4 : o ≤ 3 <;> by_cases h5 : 0 ≤ t <;> by_cases h6 : t ≤ 3 <;> simp [h1, h2, h3, h4, h5, h6]

/-! pack wokd: which sentences are right by the reference -/
theorem sWeigh (f o t : Int) : spec_WeighOk.f f o t = some (wOk f o t) := by
  unfold spec_WeighOk.f spec_l1In.f wOk
  simp only [ge_iff_le]
  by_cases h1 : 0 ≤ f <;> by_cases h2 : f ≤ 5 <;> by_cases h3 : 0 ≤ o <;> by_cases h4 : o ≤ 3 <;> by_cases h5 : 0 ≤ t <;> by_cases h6 : t ≤ 3 <;> simp [h1, h2, h3, h4, h5, h6]

/-! pack drawweigh: drawn sentences -/
theorem weigh_ok {b : List Int} (hb : Rdr b) {p n : Int} (hp0 : 0 ≤ p) (hp1 : p ≤ 900000) (hn : 0 ≤ n) (hn1 : n ≤ 1000000) :
    ∃ f o t p', 0 ≤ f ∧ f ≤ 6 ∧ 0 ≤ o ∧ o ≤ 4 ∧ -1 ≤ t ∧ t ≤ 3 ∧ (n = 0 → wOk f o t = true) ∧ p ≤ p' ∧ p' ≤ p + 5 ∧ Ev (fun k => spec_l20Weigh.f k b p n) (f, o, t, p') := by
  obtain ⟨f, f0, f1, h1⟩ := pick_ok (p := p) (n := 6) hb (by omega) (by omega) (by omega)
  obtain ⟨o, o0, o1, h2⟩ := pick_ok (p := p + 1) (n := 4) hb (by omega) (by omega) (by omega)
  obtain ⟨t, t0, t1, h3⟩ := pick_ok (p := p + 1 + 1) (n := 4) hb (by omega) (by omega) (by omega)
  obtain ⟨v, p', g0, g1, g2, h4⟩ := odd_ok (p := p + 1 + 1 + 1) (n := n) hb (by omega) (by omega) (by omega) (by omega)
  obtain ⟨u, u0, u1, h5⟩ := pick_ok (p := p') (n := 3) hb (by omega) (by omega) (by omega)
  unfold spec_l20Weigh.f
  cases v with
  | false => exact ⟨f, o, t, p', by omega, by omega, by omega, by omega, by omega, by omega, fun _ => decide_eq_true (by omega), by omega, by omega, Ev.bind h1 (Ev.bind h2 (Ev.bind h3 (Ev.bind h4 (ev_neg (by simp) (Ev.now _)))))⟩
  | true =>
    have hn0 : n = 0 → False := fun e => by have := g2 e; simp at this
    by_cases c0 : u = 0
    · exact ⟨6, o, t, p' + 1, by omega, by omega, by omega, by omega, by omega, by omega, fun e => (hn0 e).elim, by omega, by omega, Ev.bind h1 (Ev.bind h2 (Ev.bind h3 (Ev.bind h4 (ev_pos rfl (Ev.bind h5 (ev_pos c0 (Ev.now _)))))))⟩
    · by_cases c1 : u = 1
      · exact ⟨f, 4, t, p' + 1, by omega, by omega, by omega, by omega, by omega, by omega, fun e => (hn0 e).elim, by omega, by omega, Ev.bind h1 (Ev.bind h2 (Ev.bind h3 (Ev.bind h4 (ev_pos rfl (Ev.bind h5 (ev_neg c0 (ev_pos c1 (Ev.now _))))))))⟩
      · exact ⟨f, o, -1, p' + 1, by omega, by omega, by omega, by omega, by omega, by omega, fun e => (hn0 e).elim, by omega, by omega, Ev.bind h1 (Ev.bind h2 (Ev.bind h3 (Ev.bind h4 (ev_pos rfl (Ev.bind h5 (ev_neg c0 (ev_neg c1 (Ev.now _))))))))⟩

/-! pack rows: lists of sentences, which of them may lie on a desk -/
def eqS (x y : S25) : Bool := x.f0 == y.f0 && (x.f1 == y.f1 && x.f2 == y.f2)
theorem eqS_comm (x y : S25) : eqS x y = eqS y x := by
  have h (a b : Int) : (a == b) = (b == a) := by rw [Bool.eq_iff_iff, beq_iff_eq, beq_iff_eq]; exact eq_comm
  unfold eqS; rw [h x.f0, h x.f1, h x.f2]
theorem eqS_self (x : S25) : eqS x x = true := by simp [eqS]
theorem rdS_drop (l : List S25) (i : Nat) (h : i < l.length) : l.drop i = rd_T25 l (i : Int) :: l.drop (i + 1) := by
  rw [List.drop_eq_getElem_cons h]
  simp [rd_T25, List.getD_eq_getElem?_getD, List.getElem?_eq_getElem h]
theorem rdS_take (l : List S25) (i j : Nat) (h : j < i) (hi : i ≤ l.length) : (l.take i).drop j = rd_T25 l (j : Int) :: (l.take i).drop (j + 1) := by
  rw [List.drop_eq_getElem_cons (by rw [List.length_take]; omega)]
  simp [rd_T25, List.getD_eq_getElem?_getD, List.getElem?_eq_getElem (show j < l.length by omega)]
theorem say88 (l : List S25) (hl : l.length ≤ 1000000000) (x : S25) : ∀ r i : Nat, i + r = l.length → ∃ v, decide (v ≥ (0 : Int)) = (l.drop i).any (eqS x) ∧ Ev (fun k => impl_Say_88.l0 k l (l.length : Int) (i : Int) x.f0 x.f1 x.f2) v
  | 0, i, h => ⟨-1, by rw [List.drop_of_length_le (by omega)]; rfl, Ev.step (fun _ => impl_Say_88.l0.eq_2 _ _ _ _ _ _ _) (ev_neg (by omega) (ev_now rfl))⟩
  | r + 1, i, h => by
    by_cases he : eqS x (rd_T25 l (i : Int)) = true
    · refine ⟨i, by rw [rdS_drop l i (by omega), List.any_cons, he]; simp, Ev.step (fun _ => impl_Say_88.l0.eq_2 _ _ _ _ _ _ _) ?_⟩
      exact ev_pos (by omega) (ev_pos (by omega) (ev_pos (by omega) (ev_pos he (ev_now rfl))))
    · obtain ⟨v, hv, hE⟩ := say88 l hl x r (i + 1) (by omega)
      refine ⟨v, by rw [rdS_drop l i (by omega), List.any_cons, Bool.eq_false_iff.mpr he, hv]; rfl, Ev.step (fun _ => impl_Say_88.l0.eq_2 _ _ _ _ _ _ _) ?_⟩
      refine ev_pos (by omega) (ev_pos (by omega) (ev_pos (by omega) (ev_neg he ?_)))
      rw [w64 (by omega) (by omega)]; exact hE
theorem say83 (l : List S25) (hl : l.length ≤ 1000000000) (x : S25) : Ev (fun k => impl_Say_83.f k l x.f0 x.f1 x.f2) (l.any (eqS x)) := by
  obtain ⟨v, hv, hE⟩ := say88 l hl x l.length 0 (by omega)
  unfold impl_Say_83.f impl_Say_88.f
  exact Ev.bind hE (ev_now (by simpa using hv))
def rowR (L : List S25) : Nat → Nat → Bool
  | 0, _ => decide (L.length < 6)
  | r + 1, i => wOk (rd_T25 L (i : Int)).f0 (rd_T25 L (i : Int)).f1 (rd_T25 L (i : Int)).f2 && (!((L.take i).any (eqS (rd_T25 L (i : Int)))) && rowR L r (i + 1))
def rowB (L : List S25) : Bool := rowR L L.length 0
theorem areNow_l0 (L : List S25) (hl : L.length ≤ 1000000000) : ∀ r i : Nat, i + r = L.length → Ev (fun k => impl_areNow.l0 k L L (L.length : Int) (i : Int)) (rowR L r i)
  | 0, i, h => Ev.step (fun _ => impl_areNow.l0.eq_2 _ _ _ _ _) (ev_neg (by omega) (ev_now (by unfold rowR; exact decide_eq_decide.mpr (by omega))))
  | r + 1, i, h => by
    refine Ev.step (fun _ => impl_areNow.l0.eq_2 _ _ _ _ _) (ev_pos (by omega) (ev_pos (by omega) (ev_pos (by omega) (ev_bind (iWeigh _ _ _) ?_))))
    unfold rowR
    cases wOk (rd_T25 L (i : Int)).f0 (rd_T25 L (i : Int)).f1 (rd_T25 L (i : Int)).f2 with
    | false => exact ev_neg (by simp) (ev_now rfl)
    | true =>
      refine ev_pos rfl (ev_pos (by omega) ?_)
      rw [Int.toNat_natCast]
      refine Ev.bind (say83 (L.take i) (by rw [List.length_take]; omega) (rd_T25 L (i : Int))) ?_
      cases (L.take i).any (eqS (rd_T25 L (i : Int))) with
      | true => exact ev_pos rfl (ev_now rfl)
      | false =>
        refine ev_neg (by simp) ?_
        rw [w64 (by omega) (by omega)]
        exact areNow_l0 L hl r (i + 1) (by omega)
theorem areNow_ok (L : List S25) (hl : L.length ≤ 1000000000) : Ev (fun k => impl_areNow.f k L) (rowB L) := areNow_l0 L hl L.length 0 (by omega)
theorem l9_l1 (L : List S25) (hl : L.length ≤ 1000000000) (i : Nat) (hi : i < L.length) (res : Bool) (hE : Ev (fun k => spec_l9Row.l0 k L ((i + 1 : Nat) : Int)) res) :
    ∀ q j : Nat, j + q = i → Ev (fun k => spec_l9Row.l1 k L (i : Int) (j : Int)) (!(((L.take i).drop j).any (eqS (rd_T25 L (i : Int)))) && res)
  | 0, j, h => by
    refine Ev.step (fun _ => spec_l9Row.l1.eq_2 _ _ _ _) (ev_neg (by omega) ?_)
    rw [w64 (by omega) (by omega), List.drop_of_length_le (by rw [List.length_take]; omega)]
    exact hE
  | q + 1, j, h => by
    refine Ev.step (fun _ => spec_l9Row.l1.eq_2 _ _ _ _) (ev_pos (by omega) (ev_pos (by omega) (ev_pos (by omega) (ev_pos (by omega) (ev_pos (by omega) ?_)))))
    rw [rdS_take L i j (by omega) (by omega), List.any_cons, eqS_comm (rd_T25 L (i : Int)) (rd_T25 L (j : Int))]
    by_cases he : eqS (rd_T25 L (j : Int)) (rd_T25 L (i : Int)) = true
    · rw [he]; exact ev_pos he (ev_now rfl)
    · rw [Bool.eq_false_iff.mpr he]
      refine ev_neg he ?_
      rw [w64 (by omega) (by omega)]
      exact l9_l1 L hl i hi res hE q (j + 1) (by omega)
theorem l9_l0 (L : List S25) (hl : L.length ≤ 1000000000) : ∀ r i : Nat, i + r = L.length → Ev (fun k => spec_l9Row.l0 k L (i : Int)) (rowR L r i)
  | 0, i, h => Ev.step (fun _ => spec_l9Row.l0.eq_2 _ _ _) (ev_neg (by omega) (ev_now (by unfold rowR; exact decide_eq_decide.mpr (by omega))))
  | r + 1, i, h => by
    refine Ev.step (fun _ => spec_l9Row.l0.eq_2 _ _ _) (ev_pos (by omega) (ev_pos (by omega) (ev_bind (sWeigh _ _ _) ?_)))
    unfold rowR
    cases wOk (rd_T25 L (i : Int)).f0 (rd_T25 L (i : Int)).f1 (rd_T25 L (i : Int)).f2 with
    | false => exact ev_neg (by simp) (ev_now rfl)
    | true => exact ev_pos rfl (l9_l1 L hl i (by omega) _ (l9_l0 L hl r (i + 1) (by omega)) i 0 (by omega))
theorem l9_ok (L : List S25) (hl : L.length ≤ 1000000000) : Ev (fun k => spec_l9Row.f k L) (rowB L) := l9_l0 L hl L.length 0 (by omega)

/-! pack said: a list of sentences is the same as itself -/
theorem sameSaid_l0 (L : List S25) (hl : L.length ≤ 1000000000) : ∀ r i : Nat, i + r = L.length → Ev (fun k => laws_sameSaid.l0 k L L (i : Int)) true
  | 0, i, h => Ev.step (fun _ => laws_sameSaid.l0.eq_2 _ _ _ _) (ev_neg (by omega) (ev_now rfl))
  | r + 1, i, h => by
    refine Ev.step (fun _ => laws_sameSaid.l0.eq_2 _ _ _ _) (ev_pos (by omega) (ev_pos (by omega) (ev_pos (by omega) (ev_neg (by simp) ?_))))
    rw [w64 (by omega) (by omega)]
    exact sameSaid_l0 L hl r (i + 1) (by omega)
theorem sameSaid_self (L : List S25) (hl : L.length ≤ 1000000000) : Ev (fun k => laws_sameSaid.f k L L) true := by
  unfold laws_sameSaid.f
  exact ev_pos rfl (sameSaid_l0 L hl L.length 0 (by omega))
theorem sameDesk_l0 (L : List S25) (P : List (List S25)) (hl : L.length ≤ 1000000000) (hp : P.length ≤ 1000000000) (hP : ∀ x ∈ P, x.length ≤ 1000000000) : ∀ r i : Nat, i + r = P.length → Ev (fun k => laws_sameDesk.l0 k (i : Int) L P L P) true
  | 0, i, h => Ev.step (fun _ => laws_sameDesk.l0.eq_2 _ _ _ _ _ _) (ev_neg (by omega) (Ev.bind (sameSaid_self L hl) (ev_now rfl)))
  | r + 1, i, h => by
    have hm : (rd_L3 P (i : Int)).length ≤ 1000000000 := by
      apply hP; unfold rd_L3; rw [Int.toNat_natCast, List.getD_eq_getElem?_getD, List.getElem?_eq_getElem (show i < P.length by omega)]; exact List.getElem_mem _
    refine Ev.step (fun _ => laws_sameDesk.l0.eq_2 _ _ _ _ _ _) (ev_pos (by omega) (ev_pos (by omega) (ev_pos (by omega) (Ev.bind (sameSaid_self _ hm) (ev_pos rfl ?_)))))
    rw [w64 (by omega) (by omega)]
    exact sameDesk_l0 L P hl hp hP r (i + 1) (by omega)
theorem sameDesk_self (L : List S25) (P : List (List S25)) (hl : L.length ≤ 1000000000) (hp : P.length ≤ 1000000000) (hP : ∀ x ∈ P, x.length ≤ 1000000000) : Ev (fun k => laws_sameDesk.f k L P L P) true := by
  unfold laws_sameDesk.f
  exact ev_pos rfl (sameDesk_l0 L P hl hp hP P.length 0 (by omega))

/-! pack weighed: drawn lists of sentences -/
theorem weighed_l0 {b : List Int} (hb : Rdr b) {n : Int} (hn : 0 ≤ n) (hn1 : n ≤ 1000000) : ∀ (r : Nat) (acc : List S25) (p : Int), 0 ≤ p → p + 5 * r ≤ 800000 → acc.length + r ≤ 1000000 →
    ∃ L p', L.length ≤ acc.length + r ∧ p ≤ p' ∧ p' ≤ p + 5 * r ∧ Ev (fun k => spec_l20Weighed.l0 k n acc (r : Int) b p) (L, p')
  | 0, acc, p, h0, h1, h2 => ⟨acc, p, by omega, by omega, by omega, Ev.step (fun _ => spec_l20Weighed.l0.eq_2 _ _ _ _ _ _) (ev_neg (by omega) (ev_now rfl))⟩
  | r + 1, acc, p, h0, h1, h2 => by
    obtain ⟨f, o, t, p', _, _, _, _, _, _, _, g0, g1, hE⟩ := weigh_ok hb (p := p) (n := n) h0 (by omega) hn hn1
    obtain ⟨L, q, c0, c1, c2, hE2⟩ := weighed_l0 hb hn hn1 r (acc ++ [(⟨f, o, t⟩ : S25)]) p' (by omega) (by omega) (by rw [List.length_append, List.length_singleton]; omega)
    rw [List.length_append, List.length_singleton] at c0
    refine ⟨L, q, by omega, by omega, by omega, Ev.step (fun _ => spec_l20Weighed.l0.eq_2 _ _ _ _ _ _) (ev_pos (by omega) (Ev.bind hE (ev_pos (by omega) ?_)))⟩
    rw [show wrap64 (((r + 1 : Nat) : Int) - 1) = (r : Int) by rw [w64 (by omega) (by omega)]; omega]
    exact hE2
theorem weighed_ok {b : List Int} (hb : Rdr b) {p m n : Int} (hp : 0 ≤ p) (hp1 : p ≤ 100000) (hm : 0 ≤ m) (hm1 : m ≤ 10000) (hn : 0 ≤ n) (hn1 : n ≤ 1000000) :
    ∃ L p', (L.length : Int) ≤ m ∧ p ≤ p' ∧ p' ≤ p + 1 + 5 * m ∧ Ev (fun k => spec_l20Weighed.f k b p m n) (L, p') := by
  have e : wrap64 (m + 1) = m + 1 := w64 (by omega) (by omega)
  obtain ⟨v, v0, v1, hE⟩ := pick_ok (p := p) (n := m + 1) hb hp (by omega) (by omega)
  obtain ⟨r, rfl⟩ := Int.eq_ofNat_of_zero_le v0
  obtain ⟨L, p', c0, c1, c2, hE2⟩ := weighed_l0 hb hn hn1 r [] (p + 1) (by omega) (by omega) (by simp; omega)
  simp only [List.length_nil] at c0
  refine ⟨L, p', by omega, by omega, by omega, ?_⟩
  unfold spec_l20Weighed.f
  rw [e]
  exact Ev.bind hE hE2

theorem alive_t : laws_alive.f = some true := by decide +kernel

theorem iNew (L : List S25) (hl : L.length ≤ 1000000000) : Ev (fun k => impl_DeskNew.f k L) (if rowB L = true then L else [], []) := by
  unfold impl_DeskNew.f
  refine Ev.bind (areNow_ok L hl) ?_
  cases rowB L with
  | true => exact ev_pos rfl (ev_bind rfl (ev_pos (by simp; omega) (ev_now rfl)))
  | false => exact ev_neg (by simp) (ev_now rfl)
theorem sNew (L : List S25) (hl : L.length ≤ 1000000000) : Ev (fun k => spec_DeskNew.f k L) (if rowB L = true then L else [], []) := by
  unfold spec_DeskNew.f
  refine Ev.bind (l9_ok L hl) ?_
  cases rowB L with
  | true => exact ev_pos rfl (ev_bind rfl (ev_pos (by simp; omega) (ev_now rfl)))
  | false => exact ev_neg (by simp) (ev_now rfl)
theorem row_or (L : List S25) : rowB (if rowB L = true then L else []) = true := by
  by_cases h : rowB L = true
  · rw [if_pos h]; exact h
  · rw [if_neg h]; rfl
theorem FnDeskNew : laws_FnDeskNew.Pure := by
  intro l _ _ hw
  refine Ev.rounds (g := fun k => laws_FnDeskNew.f k l) ?_
  unfold laws_FnDeskNew.f
  by_cases h : (l.length : Int) > 1048576
  · exact ev_pos h (ev_now rfl)
  · obtain ⟨b, ho, hb⟩ := open_ok hw
    obtain ⟨L, p', hL, _, _, hE⟩ := weighed_ok (p := 0) (m := 6) (n := 9) hb (by omega) (by omega) (by omega) (by omega) (by omega) (by omega)
    have hD : Ev (fun k => spec_DrawDeskNew.f k l) L := by
      unfold spec_DrawDeskNew.f
      exact ev_bind ho (Ev.bind hE (ev_now rfl))
    have hl : L.length ≤ 1000000000 := by omega
    refine ev_neg h (Ev.bind hD (Ev.bind (iNew L hl) (Ev.bind (sNew L hl) ?_)))
    have hX : (if rowB L = true then L else []).length ≤ 1000000000 := by by_cases hr : rowB L = true; (rw [if_pos hr]; exact hl); (rw [if_neg hr]; simp)
    refine Ev.bind (sameDesk_self _ _ hX (by simp) (by simp)) (ev_pos rfl ?_)
    have hV : Ev (fun k => impl_DeskValid.f k (if rowB L = true then L else []) []) true := by
      unfold impl_DeskValid.f impl_isDesk.f
      refine Ev.bind (Ev.bind (areNow_ok _ hX) ?_) (ev_now rfl)
      exact ev_pos (row_or L) (ev_pos (by simp) (ev_now rfl))
    refine Ev.bind hV (ev_pos rfl ?_)
    by_cases hr : rowB L = true
    · simp only [if_pos hr]
      exact Ev.bind (sameSaid_self L hl) (ev_pos rfl (ev_pos (by simp) (ev_bind alive_t (ev_now rfl))))
    · simp only [if_neg hr]
      have hN : L.length ≠ 0 := fun e => hr (by rw [List.eq_nil_of_length_eq_zero e]; rfl)
      refine Ev.bind (a := false) ?_ (ev_neg (by simp) ?_)
      · unfold laws_sameSaid.f
        exact ev_neg (by simp; omega) (ev_now rfl)
      · refine Ev.bind (a := true) ?_ (ev_pos rfl (ev_pos (by simp) (ev_bind alive_t (ev_now rfl))))
        unfold laws_noDesk.f
        exact Ev.bind (sameDesk_self [] [] (by simp) (by simp) (by simp)) (ev_now rfl)

end Go.Proofs.Ytnnaiaiddjkjnaa.Pure
