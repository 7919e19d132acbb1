/- For every code the law FnTrueOf answers true: the program and the reference judge the drawn text alike, a tilde turns the judgement round, and every, no and some are told by one another; no condition. -/
import Derived.Test.YtfjfdnododnepaaPFnTrueOfx14
namespace Go.Proofs.Ytfjfdnododnepaa.Pure
open Go.RowKit Go.Proofs.Ytfjfdnododnepaa.PFnTrueOf Go.Proofs.YtfjfdnododnepaaW.PrintWords Go.Proofs.YtfjfdnododnepaaW.PrintLast
set_option linter.unusedVariables false
set_option linter.unusedSimpArgs false

/-! pack arith: numbers that do not wrap, and steps of 'from some number of rounds on' -/
theorem w64 {n : Int} (h0 : -9223372036854775808 ≤ n) (h1 : n ≤ 9223372036854775807) : wrap64 n = n := by unfold wrap64; omega
theorem ev_pos {α : Type} {c : Prop} [Decidable c] {a b : Nat → Option α} {r : α} (h : c) (H : Ev a r) : Ev (fun k => if c then a k else b k) r :=
  Ev.congr (fun _ => if_pos h) H
theorem ev_neg {α : Type} {c : Prop} [Decidable c] {a b : Nat → Option α} {r : α} (h : ¬ c) (H : Ev b r) : Ev (fun k => if c then a k else b k) r :=
  Ev.congr (fun _ => if_neg h) H
theorem ev_now {α : Type} {a r : α} (h : a = r) : Ev (fun _ => some a) r := h ▸ Ev.now a
theorem ev_of {α : Type} {o : Option α} {r : α} (h : o = some r) : Ev (fun _ => o) r := ⟨0, fun _ _ => h⟩
theorem ev_bind {α β : Type} {o : Option α} {f : Nat → α → Option β} {a : α} {r : β} (h : o = some a) (k : Ev (fun n => f n a) r) : Ev (fun n => o.bind (f n)) r :=
  Ev.congr (fun n => by rw [h]; rfl) k
theorem ev_eq {α : Type} {g : Nat → Option α} {r r' : α} (h : r = r') (k : Ev g r) : Ev g r' := h ▸ k

/-! pack pick: the reader of draws -/
theorem xor_pos (x y : Int) (hx : 0 ≤ x) (hx1 : x < 4611686018427387904) (hy : 0 ≤ y) (hy1 : y < 4611686018427387904) : 0 ≤ Go.bits .xor .i64 x y := by
  obtain ⟨a, rfl⟩ := Int.eq_ofNat_of_zero_le hx
  obtain ⟨b, rfl⟩ := Int.eq_ofNat_of_zero_le hy
  have ha : a < 2 ^ 62 := by have e : (2 : Nat) ^ 62 = 4611686018427387904 := by decide
                             omega
  have hb : b < 2 ^ 62 := by have e : (2 : Nat) ^ 62 = 4611686018427387904 := by decide
                             omega
  have hx : a ^^^ b < 2 ^ 62 := Nat.xor_lt_two_pow ha hb
  have ha' : a % 2 ^ IntKind.i64.bits = a := Nat.mod_eq_of_lt (Nat.lt_trans ha (by decide))
  have hb' : b % 2 ^ IntKind.i64.bits = b := Nat.mod_eq_of_lt (Nat.lt_trans hb (by decide))
  simp only [Go.bits, BitVec.ofInt_natCast, BitVec.toNat_xor, BitVec.toNat_ofNat, ha', hb']
  rw [IntKind.wrap_i64]
  have e : (2 : Nat) ^ 62 = 4611686018427387904 := by decide
  omega
theorem rd_byte {b : List Int} (hw : ∀ x ∈ b, 0 ≤ x ∧ x ≤ 255) (i : Int) : 0 ≤ rd b i ∧ rd b i ≤ 255 := by
  unfold rd
  rw [List.getD_eq_getElem?_getD]
  by_cases h : i.toNat < b.length
  · rw [List.getElem?_eq_getElem h]; exact hw _ (List.getElem_mem h)
  · rw [List.getElem?_eq_none (by omega)]; simp
/-- what a reader's bytes and place are -/
def Rdr (b : List Int) : Prop := b.length ≤ 2000 ∧ ∀ x ∈ b, 0 ≤ x ∧ x ≤ 255
theorem pick_ok {b : List Int} {p n : Int} (hb : Rdr b) (hp0 : 0 ≤ p) (hp1 : p ≤ 1000000) (hn : 1 ≤ n) :
    ∃ v, 0 ≤ v ∧ v < n ∧ Ev (fun k => spec_l20Rd_pick.f k b p n) (v, p + 1) := by
  obtain ⟨hl, hw⟩ := hb
  have e1 : wrap64 (p + 1) = p + 1 := w64 (by omega) (by omega)
  have e2 : wrap64 (p + 1 - 1) = p := by rw [show p + 1 - 1 = p by omega]; exact w64 (by omega) (by omega)
  by_cases h0 : b.length = 0
  · refine ⟨0, by omega, by omega, ?_⟩
    unfold spec_l20Rd_pick.f
    refine ev_neg (by omega) ?_
    rw [e1]
    refine Ev.step (fun _ => spec_l20Rd_pick.j0.eq_2 _ _ _ _ _) ?_
    refine ev_pos (beq_iff_eq.mpr (by omega)) (ev_now rfl)
  · have hx24 : ¬ (((b.length : Int) == 0) = true) := fun h => h0 (by have := beq_iff_eq.mp h; omega)
    by_cases h1 : p < b.length
    · have hr := rd_byte hw p
      have er : wrap64 (rd b p) = rd b p := w64 (by omega) (by omega)
      refine ⟨Int.tmod (rd b p) n, Int.tmod_nonneg _ hr.1, Int.tmod_lt_of_pos _ (by omega), ?_⟩
      unfold spec_l20Rd_pick.f
      refine ev_neg (by omega) ?_
      rw [e1]
      refine Ev.step (fun _ => spec_l20Rd_pick.j0.eq_2 _ _ _ _ _) ?_
      simp only [e2, er]
      refine ev_neg hx24 (ev_pos h1 (ev_pos hp0 (ev_neg (by omega) (ev_now rfl))))
    · have hL : (0 : Int) < b.length := by omega
      have m0 := Int.tmod_nonneg (b.length : Int) hp0
      have m1 := Int.tmod_lt_of_pos p hL
      have e3 : wrap64 (p * 7) = p * 7 := w64 (by omega) (by omega)
      have e4 : wrap64 (p * 7 + 3) = p * 7 + 3 := w64 (by omega) (by omega)
      have n0 := Int.tmod_nonneg (b.length : Int) (show 0 ≤ p * 7 + 3 by omega)
      have n1 := Int.tmod_lt_of_pos (p * 7 + 3) hL
      have r1 := rd_byte hw (Int.tmod p b.length)
      have r2 := rd_byte hw (Int.tmod (p * 7 + 3) b.length)
      have d0 : 0 ≤ Int.tdiv p b.length := Int.tdiv_nonneg hp0 (by omega)
      have d1 : Int.tdiv p b.length ≤ p := Int.tdiv_le_self _ hp0
      have e5 : wrap64 (rd b (Int.tmod p b.length)) = rd b (Int.tmod p b.length) := w64 (by omega) (by omega)
      have e6 : wrap64 (rd b (Int.tmod (p * 7 + 3) b.length)) = rd b (Int.tmod (p * 7 + 3) b.length) := w64 (by omega) (by omega)
      have e7 : wrap64 (rd b (Int.tmod p b.length) * 131) = rd b (Int.tmod p b.length) * 131 := w64 (by omega) (by omega)
      have e8 : wrap64 (rd b (Int.tmod (p * 7 + 3) b.length) * 1117) = rd b (Int.tmod (p * 7 + 3) b.length) * 1117 := w64 (by omega) (by omega)
      have e9 : wrap64 (p * 29) = p * 29 := w64 (by omega) (by omega)
      have e10 : wrap64 (Int.tdiv p b.length) = Int.tdiv p b.length := w64 (by omega) (by omega)
      have e11 : wrap64 (Int.tdiv p b.length * 53) = Int.tdiv p b.length * 53 := w64 (by omega) (by omega)
      generalize hA : rd b (Int.tmod p b.length) = A at *
      generalize hB : rd b (Int.tmod (p * 7 + 3) b.length) = B at *
      generalize hD : Int.tdiv p b.length = D at *
      have e12 : wrap64 (A * 131 + B * 1117) = A * 131 + B * 1117 := w64 (by omega) (by omega)
      have e13 : wrap64 (A * 131 + B * 1117 + p * 29) = A * 131 + B * 1117 + p * 29 := w64 (by omega) (by omega)
      have e14 : wrap64 (A * 131 + B * 1117 + p * 29 + D * 53) = A * 131 + B * 1117 + p * 29 + D * 53 := w64 (by omega) (by omega)
      have hS : 0 ≤ A * 131 + B * 1117 + p * 29 + D * 53 := by omega
      have hS1 : A * 131 + B * 1117 + p * 29 + D * 53 < 4611686018427387904 := by omega
      have t0 : 0 ≤ Int.tdiv (A * 131 + B * 1117 + p * 29 + D * 53) 64 := Int.tdiv_nonneg hS (by omega)
      have t1 : Int.tdiv (A * 131 + B * 1117 + p * 29 + D * 53) 64 ≤ A * 131 + B * 1117 + p * 29 + D * 53 := Int.tdiv_le_self _ hS
      have e15 : wrap64 (Int.tdiv (A * 131 + B * 1117 + p * 29 + D * 53) 64) = Int.tdiv (A * 131 + B * 1117 + p * 29 + D * 53) 64 := w64 (by omega) (by omega)
      have hX := xor_pos _ _ hS hS1 t0 (by omega)
      refine ⟨_, Int.tmod_nonneg n hX, Int.tmod_lt_of_pos _ (show 0 < n by omega), ?_⟩
      unfold spec_l20Rd_pick.f
      refine ev_neg (by omega) ?_
      rw [e1]
      refine Ev.step (fun _ => spec_l20Rd_pick.j0.eq_2 _ _ _ _ _) ?_
      simp only [e2, e3, e4, hA, hB, e5, e6, e7, e8, e9, hD, e10, e11, e12, e13, e14, e15]
      exact ev_neg hx24 (ev_neg h1 (ev_neg (by omega) (ev_pos m0 (ev_pos m1 (ev_pos n0 (ev_pos n1 (ev_neg (by omega) (ev_now rfl))))))))
theorem open_ok {l : List Int} (hw : ∀ x ∈ l, (Lit.int .u8 x).wf = true) : ∃ b, spec_l20Open.f l = some (b, 0) ∧ Rdr b := by
  have hw' : ∀ x ∈ l, 0 ≤ x ∧ x ≤ 255 := fun x hx => by
    have := hw x hx
    simp [Lit.wf, IntKind.min, IntKind.max, IntKind.signed, IntKind.bits] at this
    omega
  unfold spec_l20Open.f
  by_cases h : (l.length : Int) > 2000
  · refine ⟨l.take 2000, by rw [if_pos h, if_pos (by omega)], by simp; omega, fun x hx => hw' x (List.mem_of_mem_take hx)⟩
  · exact ⟨l, by rw [if_neg h], by omega, hw'⟩

/-! pack odd -/
theorem odd_ok {b : List Int} (hb : Rdr b) {p n : Int} (hp0 : 0 ≤ p) (hp1 : p ≤ 1000000) (hn : 0 ≤ n) (hn1 : n ≤ 1000000) :
    ∃ v p', p ≤ p' ∧ p' ≤ p + 1 ∧ (n = 0 → v = false) ∧ Ev (fun k => spec_l20Rd_odd.f k b p n) (v, p') := by
  unfold spec_l20Rd_odd.f
  by_cases h : n > 0
  · obtain ⟨v, a, c, hE⟩ := pick_ok (n := n) hb hp0 hp1 (by omega)
    exact ⟨_, p + 1, by omega, by omega, fun e => by omega, ev_pos h (Ev.bind hE (Ev.now _))⟩
  · exact ⟨false, p, by omega, by omega, fun _ => rfl, ev_neg h (Ev.now _)⟩

/-! pack drawsent: drawn texts that are mostly sentences -/
def zS : Nat → Nat
  | 0 => 1
  | d + 1 => 2 * zS d + 3
def cS : Nat → Nat
  | 0 => 1
  | d + 1 => 2 * cS d + 2
def zT : Nat → Nat
  | 0 => 40
  | d + 1 => 2 * zT d + 3
def cT : Nat → Nat
  | 0 => 30
  | d + 1 => 2 * cT d + 3
theorem zS_ge : ∀ d, d ≤ zS d
  | 0 => by omega
  | d + 1 => by have := zS_ge d; simp only [zS]; omega
theorem zT_ge : ∀ d, d + 40 ≤ zT d
  | 0 => by simp [zT]
  | d + 1 => by have := zT_ge d; simp only [zT]; omega
theorem cT_ge : ∀ d, 30 ≤ cT d
  | 0 => by simp [cT]
  | d + 1 => by have := cT_ge d; simp only [cT]; omega
theorem letters_size : ∀ v : Fin 4, (rdOf ByteArray.empty ([(⟨#[97]⟩ : ByteArray), (⟨#[98]⟩ : ByteArray), (⟨#[99]⟩ : ByteArray), (⟨#[100]⟩ : ByteArray)] : List ByteArray) (v.val : Int)).size = 1 := by decide +kernel
theorem signs_size : ∀ v : Fin 2, (rdOf ByteArray.empty ([(⟨#[38]⟩ : ByteArray), (⟨#[124]⟩ : ByteArray)] : List ByteArray) (v.val : Int)).size = 1 := by decide +kernel
theorem spoils_size : ∀ v : Fin 5, (rdOf ByteArray.empty ([(⟨#[]⟩ : ByteArray), (⟨#[97]⟩ : ByteArray), (⟨#[40]⟩ : ByteArray), (⟨#[101]⟩ : ByteArray), (⟨#[126]⟩ : ByteArray)] : List ByteArray) (v.val : Int)).size ≤ 1 := by decide +kernel
theorem names_len10 : ((spec_l20Names.f).getD []).length = 10 := by decide +kernel
theorem names_ok : spec_l20Names.f = some ((spec_l20Names.f).getD []) := by decide +kernel
theorem names_size : ∀ v : Fin 10, (rdOf ByteArray.empty ((spec_l20Names.f).getD []) (v.val : Int)).size ≤ 8 := by decide +kernel
theorem letter_draw {b : List Int} (hb : Rdr b) (x p : Int) (hp0 : 0 ≤ p) (hp1 : p ≤ 1000000) : ∃ s : ByteArray, s.size = 1 ∧ Ev (fun k => spec_l20Set.j0 k x true b p) (s, p + 1) := by
  obtain ⟨v, v0, v1, hv⟩ := pick_ok (p := p) (n := 4) hb hp0 hp1 (by omega)
  obtain ⟨n, rfl⟩ := Int.eq_ofNat_of_zero_le v0
  exact ⟨_, letters_size ⟨n, by omega⟩, Ev.step (fun _ => spec_l20Set.j0.eq_2 _ _ _ _ _) (ev_pos rfl (ev_bind rfl (Ev.bind hv (ev_pos v0 (ev_pos (by simp; omega) (Ev.now _))))))⟩
theorem wnx {x : Nat} (h : x ≤ 17000000000000) : wrap64 ((x : Int) + 1) = ((x + 1 : Nat) : Int) := by unfold wrap64; omega
theorem wdn {d : Nat} (h : d ≤ 17000000000000) : wrap64 (((d + 1 : Nat) : Int) - 1) = (d : Int) := by unfold wrap64; omega
theorem app_size (a b : ByteArray) : (a ++ b).size = a.size + b.size := ByteArray.size_append
theorem set_draw {b : List Int} (hb : Rdr b) : ∀ (d : Nat) (p : Int), 0 ≤ p → p + (cS d : Int) ≤ 1000000 → zS d ≤ 1000 → ∃ (s : ByteArray) (p' : Int), 1 ≤ s.size ∧ s.size ≤ zS d ∧ p ≤ p' ∧ p' ≤ p + (cS d : Int) ∧ Ev (fun k => spec_l20Set.f k b p (d : Int)) (s, p')
  | 0, p, h0, h1, _ => by
    simp only [cS] at h1
    obtain ⟨s, hs, hE⟩ := letter_draw hb 0 p h0 (by omega)
    exact ⟨s, p + 1, by omega, by simp only [zS]; omega, by omega, by simp only [cS]; omega, Ev.step (fun _ => spec_l20Set.f.eq_2 _ _ _ _) (ev_pos rfl hE)⟩
  | d + 1, p, h0, h1, hz => by
    simp only [cS] at h1
    simp only [zS] at hz
    have hdz := zS_ge d
    obtain ⟨v, v0, v1, hv⟩ := pick_ok (p := p) (n := 2) hb h0 (by omega) (by omega)
    obtain ⟨s, hs, hE⟩ := letter_draw hb ((d + 1 : Nat) : Int) (p + 1) (by omega) (by omega)
    by_cases c : v = 0
    · subst c
      exact ⟨s, p + 1 + 1, by omega, by simp only [zS]; omega, by omega, by simp only [cS]; omega, Ev.step (fun _ => spec_l20Set.f.eq_2 _ _ _ _) (ev_neg (by omega) (Ev.bind hv hE))⟩
    · obtain ⟨u, u0, u1, hu⟩ := pick_ok (p := p + 1) (n := 3) hb (by omega) (by omega) (by omega)
      obtain ⟨s1, p1, a0, a1, a2, a3, hE1⟩ := set_draw hb d (p + 1 + 1) (by omega) (by omega) (by omega)
      obtain ⟨s2, p2, b0, b1, b2, b3, hE2⟩ := set_draw hb d p1 (by omega) (by omega) (by omega)
      have EW : Aside0 (wrap64 (((d + 1 : Nat) : Int) - 1) = (d : Int)) := ⟨wdn (by omega)⟩
      have hv' : (v == 0) = false := by rw [beq_eq_false_iff_ne]; exact c
      have base : ∀ {r : ByteArray × Int}, Ev (fun k => spec_l20Set.j0 k ((d + 1 : Nat) : Int) false b (p + 1)) r → Ev (fun k => spec_l20Set.f k b p ((d + 1 : Nat) : Int)) r := fun h => Ev.step (fun _ => spec_l20Set.f.eq_2 _ _ _ _) (ev_neg (by omega) (Ev.bind hv (by simp only [hv']; exact h)))
      by_cases c0 : u = 0
      · refine ⟨(⟨#[33]⟩ : ByteArray) ++ s1, p1, by rw [app_size]; omega, by rw [app_size]; show 1 + s1.size ≤ _; simp only [zS]; omega, by omega, by simp only [cS]; omega, base (Ev.step (fun _ => spec_l20Set.j0.eq_2 _ _ _ _ _) (ev_neg (by simp) (Ev.bind hu (ev_pos c0 ?_))))⟩
        rw [EW.out]
        exact Ev.bind hE1 (ev_pos (by dsimp only; omega) (Ev.now _))
      · by_cases c1 : u = 1
        · refine ⟨((((⟨#[40]⟩ : ByteArray) ++ s1) ++ (⟨#[38]⟩ : ByteArray)) ++ s2) ++ (⟨#[41]⟩ : ByteArray), p2, by simp only [app_size]; omega, by simp only [app_size]; show 1 + s1.size + 1 + s2.size + 1 ≤ _; simp only [zS]; omega, by omega, by simp only [cS]; omega, base (Ev.step (fun _ => spec_l20Set.j0.eq_2 _ _ _ _ _) (ev_neg (by simp) (Ev.bind hu (ev_neg c0 (ev_pos c1 ?_)))))⟩
          rw [EW.out]
          exact Ev.bind hE1 (ev_pos (by dsimp only; omega) (ev_pos (by dsimp only; omega) (Ev.bind hE2 (ev_pos (by dsimp only; omega) (ev_pos (by dsimp only; omega) (Ev.now _))))))
        · refine ⟨((((⟨#[40]⟩ : ByteArray) ++ s1) ++ (⟨#[124]⟩ : ByteArray)) ++ s2) ++ (⟨#[41]⟩ : ByteArray), p2, by simp only [app_size]; omega, by simp only [app_size]; show 1 + s1.size + 1 + s2.size + 1 ≤ _; simp only [zS]; omega, by omega, by simp only [cS]; omega, base (Ev.step (fun _ => spec_l20Set.j0.eq_2 _ _ _ _ _) (ev_neg (by simp) (Ev.bind hu (ev_neg c0 (ev_neg c1 ?_)))))⟩
          rw [EW.out]
          exact Ev.bind hE1 (ev_pos (by dsimp only; omega) (ev_pos (by dsimp only; omega) (Ev.bind hE2 (ev_pos (by dsimp only; omega) (ev_pos (by dsimp only; omega) (Ev.now _))))))
theorem plain_draw {b : List Int} (hb : Rdr b) (x p : Int) (hp0 : 0 ≤ p) (hp1 : p ≤ 900000) : ∃ (s : ByteArray) (p' : Int), 1 ≤ s.size ∧ s.size ≤ 40 ∧ p ≤ p' ∧ p' ≤ p + 30 ∧ Ev (fun k => spec_l20Sentence.j0 k x false b p) (s, p') := by
  obtain ⟨v, v0, v1, hv⟩ := pick_ok (p := p) (n := 10) hb hp0 (by omega) (by omega)
  obtain ⟨n, rfl⟩ := Int.eq_ofNat_of_zero_le v0
  have hn := names_size ⟨n, by omega⟩
  simp only at hn
  obtain ⟨s1, p1, a0, a1, a2, a3, hE1⟩ := set_draw hb 2 (p + 1) (by omega) (by simp only [cS]; omega) (by decide)
  obtain ⟨s2, p2, b0, b1, b2, b3, hE2⟩ := set_draw hb 2 p1 (by omega) (by simp only [cS] at a3 ⊢; omega) (by decide)
  simp only [cS, zS] at a1 a3 b1 b3
  have hl := names_len10
  obtain ⟨N, hN⟩ : ∃ N, (spec_l20Names.f).getD [] = N := ⟨_, rfl⟩
  have hok := names_ok
  rw [hN] at hok hl hn
  refine ⟨((((rdOf ByteArray.empty N (n : Int) ++ (⟨#[40]⟩ : ByteArray)) ++ s1) ++ (⟨#[44]⟩ : ByteArray)) ++ s2) ++ (⟨#[41]⟩ : ByteArray), p2, by simp only [app_size]; omega, by simp only [app_size]; show (rdOf ByteArray.empty N (n : Int)).size + 1 + s1.size + 1 + s2.size + 1 ≤ _; omega, by omega, by omega, ?_⟩
  refine Ev.step (fun _ => spec_l20Sentence.j0.eq_2 _ _ _ _ _) (ev_neg (by simp) (ev_bind hok (Ev.bind hv (ev_pos v0 (ev_pos (by dsimp only; omega) (ev_pos (by dsimp only; omega) (Ev.bind hE1 ?_)))))))
  exact ev_pos (by dsimp only; omega) (ev_pos (by dsimp only; omega) (Ev.bind hE2 (ev_pos (by dsimp only; omega) (ev_pos (by dsimp only; omega) (Ev.now _)))))
theorem sent_draw {b : List Int} (hb : Rdr b) : ∀ (d : Nat) (p : Int), 0 ≤ p → p + (cT d : Int) ≤ 900000 → zT d ≤ 1000 → ∃ (s : ByteArray) (p' : Int), 1 ≤ s.size ∧ s.size ≤ zT d ∧ p ≤ p' ∧ p' ≤ p + (cT d : Int) ∧ Ev (fun k => spec_l20Sentence.f k b p (d : Int)) (s, p')
  | 0, p, h0, h1, _ => by
    simp only [cT] at h1
    obtain ⟨s, p', a0, a1, a2, a3, hE⟩ := plain_draw hb 0 p h0 (by omega)
    exact ⟨s, p', a0, by simp only [zT]; omega, a2, by simp only [cT]; omega, Ev.step (fun _ => spec_l20Sentence.f.eq_2 _ _ _ _) (ev_neg (by simp) hE)⟩
  | d + 1, p, h0, h1, hz => by
    simp only [cT] at h1
    simp only [zT] at hz
    have hc := cT_ge d
    have hzz := zT_ge d
    obtain ⟨v, v0, v1, hv⟩ := pick_ok (p := p) (n := 3) hb h0 (by omega) (by omega)
    by_cases c : v = 0
    · subst c
      obtain ⟨u, u0, u1, hu⟩ := pick_ok (p := p + 1) (n := 2) hb (by omega) (by omega) (by omega)
      obtain ⟨s1, p1, a0, a1, a2, a3, hE1⟩ := sent_draw hb d (p + 1 + 1) (by omega) (by omega) (by omega)
      obtain ⟨t, t0, t1, ht⟩ := pick_ok (p := p1) (n := 2) hb (by omega) (by omega) (by omega)
      obtain ⟨s2, p2, b0, b1, b2, b3, hE2⟩ := sent_draw hb d (p1 + 1) (by omega) (by omega) (by omega)
      have EW : Aside0 (wrap64 (((d + 1 : Nat) : Int) - 1) = (d : Int)) := ⟨wdn (by omega)⟩
      by_cases c0 : u = 0
      · refine ⟨(⟨#[126]⟩ : ByteArray) ++ s1, p1, by rw [app_size]; omega, by rw [app_size]; show 1 + s1.size ≤ _; simp only [zT]; omega, by omega, by simp only [cT]; omega, Ev.step (fun _ => spec_l20Sentence.f.eq_2 _ _ _ _) (ev_pos (by omega) (Ev.bind hv (Ev.step (fun _ => spec_l20Sentence.j0.eq_2 _ _ _ _ _) (ev_pos rfl (Ev.bind hu (ev_pos c0 ?_))))))⟩
        rw [EW.out]
        exact Ev.bind hE1 (ev_pos (by dsimp only; omega) (Ev.now _))
      · obtain ⟨n, rfl⟩ := Int.eq_ofNat_of_zero_le t0
        have hn := signs_size ⟨n, by omega⟩
        simp only at hn
        refine ⟨((((⟨#[91]⟩ : ByteArray) ++ s1) ++ rdOf ByteArray.empty ([(⟨#[38]⟩ : ByteArray), (⟨#[124]⟩ : ByteArray)] : List ByteArray) (n : Int)) ++ s2) ++ (⟨#[93]⟩ : ByteArray), p2, by simp only [app_size]; omega, by simp only [app_size, hn]; show 1 + s1.size + 1 + s2.size + 1 ≤ _; simp only [zT]; omega, by omega, by simp only [cT]; omega, Ev.step (fun _ => spec_l20Sentence.f.eq_2 _ _ _ _) (ev_pos (by omega) (Ev.bind hv (Ev.step (fun _ => spec_l20Sentence.j0.eq_2 _ _ _ _ _) (ev_pos rfl (Ev.bind hu (ev_neg c0 ?_))))))⟩
        rw [EW.out]
        refine Ev.bind hE1 (ev_pos (by dsimp only; omega) (ev_bind rfl (Ev.bind ht (ev_pos t0 (ev_pos (by simp; omega) (ev_pos (by dsimp only; rw [hn]; omega) (Ev.bind hE2 ?_)))))))
        exact ev_pos (by dsimp only; rw [hn]; omega) (ev_pos (by dsimp only; rw [hn]; omega) (Ev.now _))
    · obtain ⟨s, p', a0, a1, a2, a3, hE⟩ := plain_draw hb ((d + 1 : Nat) : Int) (p + 1) (by omega) (by omega)
      have hv' : (v == 0) = false := by rw [beq_eq_false_iff_ne]; exact c
      exact ⟨s, p', a0, by simp only [zT]; omega, by omega, by simp only [cT]; omega, Ev.step (fun _ => spec_l20Sentence.f.eq_2 _ _ _ _) (ev_pos (by omega) (Ev.bind hv (by simp only [hv']; exact hE)))⟩
theorem text_draw {b : List Int} (hb : Rdr b) (p n : Int) (hp0 : 0 ≤ p) (hp1 : p ≤ 500000) (hn : 0 ≤ n) (hn1 : n ≤ 1000) : ∃ (s : ByteArray) (p' : Int), s.size ≤ 81 ∧ p ≤ p' ∧ p' ≤ p + 200 ∧ Ev (fun k => spec_l20Text.f k b p n) (s, p') := by
  obtain ⟨s, p1, a0, a1, a2, a3, hE⟩ := sent_draw hb 2 p hp0 (by simp only [cT]; omega) (by decide)
  simp only [cT] at a3
  have tail : ∀ t : ByteArray, 1 ≤ t.size → t.size ≤ 80 → ∃ (s : ByteArray) (p' : Int), s.size ≤ 81 ∧ p ≤ p' ∧ p' ≤ p + 200 ∧ Ev (fun k => spec_l20Text.j0 k n t b p1) (s, p') := by
    intro t t0 t1
    obtain ⟨v, p2, b0, b1, _, hv⟩ := odd_ok (p := p1) (n := n) hb (by omega) (by omega) hn (by omega)
    cases v with
    | false => exact ⟨t, p2, by omega, by omega, by omega, Ev.step (fun _ => spec_l20Text.j0.eq_2 _ _ _ _ _) (Ev.bind hv (ev_neg (by simp) (Ev.now _)))⟩
    | true =>
      obtain ⟨i, i0, i1, hi⟩ := pick_ok (p := p2) (n := (t.size : Int)) hb (by omega) (by omega) (by omega)
      obtain ⟨j, j0, j1, hj⟩ := pick_ok (p := p2 + 1) (n := 5) hb (by omega) (by omega) (by omega)
      obtain ⟨x, rfl⟩ := Int.eq_ofNat_of_zero_le i0
      obtain ⟨y, rfl⟩ := Int.eq_ofNat_of_zero_le j0
      have hy := spoils_size ⟨y, by omega⟩
      simp only at hy
      have e1 : (t.extract 0 ((x : Int)).toNat).size = x := by rw [ByteArray.size_extract, Int.toNat_natCast]; omega
      have e2 : (t.extract (((x + 1 : Nat) : Int)).toNat t.size).size = t.size - (x + 1) := by rw [ByteArray.size_extract, Int.toNat_natCast]; omega
      refine ⟨(t.extract 0 ((x : Int)).toNat ++ rdOf ByteArray.empty ([(⟨#[]⟩ : ByteArray), (⟨#[97]⟩ : ByteArray), (⟨#[40]⟩ : ByteArray), (⟨#[101]⟩ : ByteArray), (⟨#[126]⟩ : ByteArray)] : List ByteArray) (y : Int)) ++ t.extract (wrap64 ((x : Int) + 1)).toNat t.size, p2 + 1 + 1, ?_, by omega, by omega, Ev.step (fun _ => spec_l20Text.j0.eq_2 _ _ _ _ _) (Ev.bind hv (ev_pos rfl (Ev.bind hi (ev_pos i0 (ev_pos (by dsimp only; omega) (ev_bind rfl (Ev.bind hj (ev_pos j0 (ev_pos (by simp; omega) ?_)))))))))⟩
      rotate_left
      · refine ev_pos (by dsimp only; rw [e1]; omega) (ev_pos (by dsimp only; rw [wnx (by omega)]; omega) (ev_pos (by dsimp only; rw [wnx (by omega)]; omega) (ev_pos (by dsimp only; rw [wnx (by omega), e1, e2]; omega) (Ev.now _))))
      · skip
        rw [app_size, app_size, wnx (by omega), e1, e2]
        omega
  unfold spec_l20Text.f
  by_cases c : (s.size : Int) > 80
  · obtain ⟨s', p', h1, h2, h3, h4⟩ := tail (⟨#[101, 118, 101, 114, 121, 40, 97, 44, 40, 98, 124, 99, 41, 41]⟩ : ByteArray) (by decide) (by decide)
    exact ⟨s', p', h1, h2, h3, Ev.bind hE (ev_pos c h4)⟩
  · obtain ⟨s', p', h1, h2, h3, h4⟩ := tail s a0 (by omega)
    exact ⟨s', p', h1, h2, h3, Ev.bind hE (ev_neg c h4)⟩

theorem alive_t : laws_alive.f = some true := by decide +kernel

/-! pack ints: the laws' copies and comparisons of rows of numbers -/
theorem rd_getD (l : List Int) (i : Nat) : rd l (i : Int) = l.getD i 0 := by simp [rd]
theorem getD_drop (l : List Int) (i : Nat) (h : i < l.length) : l.drop i = l.getD i 0 :: l.drop (i + 1) := by
  rw [List.drop_eq_getElem_cons h, List.getD_eq_getElem?_getD, List.getElem?_eq_getElem h]; rfl

/-! pack sread: what the reference's reader says of a sentence -/
theorem sread {L : List Int} {s : ByteArray} {p : PT} (sg : Int) (h0 : -1 ≤ sg) (h1 : sg ≤ 1) (h : pread s = some p) (hL : setsOk L = true) : spec_l7Read.f L s 0 sg [] = some (truv L p, sgns sg p, (s.size : Int)) := by
  obtain ⟨_, _, h80, hp⟩ := psent_top h
  unfold spec_l7Read.f
  rw [if_pos ⟨hL, rfl, h0, h1, by omega, by simp⟩, hp]
  rfl

/-! pack senttrue: what the reference says of sets and of a sentence -/
theorem l1in (n lo hi : Int) : spec_l1In.f n lo hi = some (decide (lo ≤ n ∧ n ≤ hi)) := by
  unfold spec_l1In.f
  by_cases h : n ≥ lo
  · rw [if_pos h]; congr 1; rw [Bool.eq_iff_iff]; simp; omega
  · rw [if_neg h]; congr 1; rw [Bool.eq_iff_iff]; simp; omega
def okv (x : Int) : Bool := decide (0 ≤ x ∧ x ≤ 7)
theorem sets_loop (l : List Int) (hl : l.length ≤ 100000000) (d : Nat) : ∀ i : Nat, i + d = l.length → Ev (fun k => spec_l7Sets.l0 k l i) ((l.drop i).all okv && l.length == 4) := by
  induction d with
  | zero =>
    intro i hi
    refine Ev.step (fun _ => spec_l7Sets.l0.eq_2 _ _ _) (ev_neg (by omega) (ev_now ?_))
    rw [List.drop_of_length_le (by omega), Bool.eq_iff_iff]
    simp
    omega
  | succ d ih =>
    intro i hi
    refine Ev.step (fun _ => spec_l7Sets.l0.eq_2 _ _ _) (ev_pos (by omega) (ev_pos (by omega) (ev_bind (l1in _ _ _) ?_)))
    rw [getD_drop l i (by omega), List.all_cons, ← rd_getD]
    by_cases h : 0 ≤ rd l (i : Int) ∧ rd l (i : Int) ≤ 7
    · refine ev_pos (by simpa using h) ?_
      rw [w64 (by omega) (by omega)]
      refine ev_eq ?_ (ih (i + 1) (by omega))
      rw [show okv (rd l (i : Int)) = true from decide_eq_true h, Bool.true_and]
    · refine ev_neg (by simpa using h) (ev_now ?_)
      rw [show okv (rd l (i : Int)) = false from decide_eq_false h]
      rfl
theorem sets_same (l : List Int) : (l.all okv && l.length == 4) = setsOk l := by
  unfold setsOk
  by_cases h : l.length = 4
  · match l, h with
    | [a, b, c, d], _ =>
      rw [show List.range 4 = [0, 1, 2, 3] from rfl]
      simp [okv, rd, Bool.decide_and]
  · rw [show (l.length == 4) = false by simpa using h, Bool.and_false, Bool.false_and]
theorem sets_ev (l : List Int) (hl : l.length ≤ 100000000) : Ev (fun k => spec_l7Sets.f k l) (setsOk l) := by
  unfold spec_l7Sets.f
  have := sets_loop l hl l.length 0 (by omega)
  rw [List.drop_zero, sets_same] at this
  exact this
/-- whether a text is a sentence that is so for sets -/
def trueM (L : List Int) (s : ByteArray) : Bool := match pread s with | none => false | some p => setsOk L && truv L p
theorem itrue (L : List Int) (s : ByteArray) : impl_TrueOf.f L s = some (trueM L s) := rfl
theorem strue (L : List Int) (hl : L.length ≤ 100000000) (s : ByteArray) (hs : s.size ≤ 17000000000000) : Ev (fun k => spec_TrueOf.f k L s) (trueM L s) := by
  unfold spec_TrueOf.f
  have hk : spec_SentenceOk.f s = some (pread s).isSome := by unfold spec_SentenceOk.f; rw [if_pos hs]
  refine ev_bind hk ?_
  unfold trueM
  cases hp : pread s with
  | none => exact ev_neg (by simp) (ev_now rfl)
  | some p =>
    refine ev_pos rfl (Ev.bind (sets_ev L hl) ?_)
    simp only
    cases ho : setsOk L with
    | false => exact ev_neg (by simp) (ev_now rfl)
    | true => exact ev_pos rfl (ev_bind (sread 1 (by decide) (by decide) hp ho) (ev_now (by simp)))

/-! pack tilde: a text with bytes ahead of it is read as it is itself -/
def shift (k : Nat) : PT → PT
  | .leaf c i => .leaf c (i + k)
  | .one c p => .one c (shift k p)
  | .two c p q => .two c (shift k p) (shift k q)
  | .tri t p q => .tri t (shift k p) (shift k q)
def shr1 (k : Nat) (r : PT × Nat) : PT × Nat := (shift k r.1, r.2 + k)
theorem setv_shift (L : List Int) (k : Nat) : ∀ p : PT, setv L (shift k p) = setv L p
  | .leaf _ _ => rfl
  | .one _ p => by simp only [shift, setv, setv_shift L k p]
  | .two _ p q => by simp only [shift, setv, setv_shift L k p, setv_shift L k q]
  | .tri _ p q => rfl
theorem truv_shift (L : List Int) (k : Nat) : ∀ p : PT, truv L (shift k p) = truv L p
  | .leaf _ _ => rfl
  | .one _ p => by simp only [shift, truv, truv_shift L k p]
  | .two _ p q => by simp only [shift, truv, truv_shift L k p, truv_shift L k q]
  | .tri _ p q => by simp only [shift, truv, setv_shift L k p, setv_shift L k q]
theorem sgn_shift (k : Nat) : ∀ (w : Int) (p : PT), sgn w (shift k p) = sgn w p
  | _, .leaf _ _ => rfl
  | w, .one _ p => by simp only [shift, sgn, sgn_shift k (-w) p]
  | w, .two _ p q => by simp only [shift, sgn, sgn_shift k w p, sgn_shift k w q]
  | _, .tri _ p q => rfl
theorem sgns_shift (k : Nat) : ∀ (w : Int) (p : PT), sgns w (shift k p) = sgns w p
  | _, .leaf _ _ => rfl
  | w, .one _ p => by simp only [shift, sgns, sgns_shift k (-w) p]
  | w, .two _ p q => by simp only [shift, sgns, sgns_shift k w p, sgns_shift k w q]
  | w, .tri _ p q => by simp only [shift, sgns, sgn_shift]
theorem sz_app (c s : ByteArray) : (c ++ s).size = c.size + s.size := ByteArray.size_append
theorem len_toList (c : ByteArray) : c.data.toList.length = c.size := by rw [Array.length_toList]; rfl
theorem bt_app (c s : ByteArray) (a : Nat) : bt (c ++ s) ((a + c.size : Nat) : Int) = bt s (a : Int) := by
  rw [bt_getD, bt_getD, ba_append, List.getD_eq_getElem?_getD, List.getD_eq_getElem?_getD, List.getElem?_append_right (by rw [len_toList]; omega), len_toList]
  rw [show a + c.size - c.size = a by omega]
theorem nxt_app (c s : ByteArray) (a : Nat) : nxt (c ++ s) (a + c.size) = ((nxt s a).1, (nxt s a).2 + c.size) := by
  by_cases h : a < s.size
  · rw [nxt_lt h, nxt_lt (by rw [sz_app]; omega), bt_app]
    simp only
    rw [show a + c.size + 1 = a + 1 + c.size by omega]
  · rw [nxt_end h, nxt_end (by rw [sz_app]; omega)]
theorem ptwo_app {par par' : Nat → Option (PT × Nat)} (c s : ByteArray) (sg : List UInt8) (en : Int) (a : Nat) (h : ∀ x, par' (x + c.size) = (par x).map (shr1 c.size)) : ptwo par' sg en (c ++ s) (a + c.size) = (ptwo par sg en s a).map (shr1 c.size) := by
  unfold ptwo
  rw [h]
  cases h1 : par a with
  | none => rfl
  | some r =>
    obtain ⟨x, a1⟩ := r
    simp only [Option.map_some, shr1]
    rw [nxt_app]
    simp only
    split
    · rfl
    · rw [h]
      cases h2 : par (nxt s a1).2 with
      | none => rfl
      | some r =>
        obtain ⟨y, a3⟩ := r
        simp only [Option.map_some, shr1]
        rw [nxt_app]
        simp only
        split <;> rfl
theorem pset_app (c s : ByteArray) : ∀ n a, pset n (c ++ s) (a + c.size) = (pset n s a).map (shr1 c.size)
  | 0, a => rfl
  | n + 1, a => by
    unfold pset
    rw [nxt_app]
    simp only
    split
    · simp only [Option.map_some, shr1, shift]
      rw [show a + c.size + 1 = a + 1 + c.size by omega]
    · split
      · rw [show a + c.size + 1 = a + 1 + c.size by omega, pset_app c s n (a + 1)]
        cases pset n s (a + 1) with
        | none => rfl
        | some r => rfl
      · split
        · rw [show a + c.size + 1 = a + 1 + c.size by omega]
          exact ptwo_app c s _ _ (a + 1) (fun x => pset_app c s n x)
        · rfl
theorem ptwo_congr {par par' : Nat → Option (PT × Nat)} {s : ByteArray} (hpar : ∀ a p a', a ≤ s.size → par a = some (p, a') → a < a' ∧ a' ≤ s.size) {sg : List UInt8} {en : Int} {a : Nat} (ha : a ≤ s.size) (h : ∀ x, a ≤ x → x ≤ s.size → par' x = par x) : ptwo par' sg en s a = ptwo par sg en s a := by
  unfold ptwo
  rw [h a (Nat.le_refl _) ha]
  cases h1 : par a with
  | none => rfl
  | some r =>
    obtain ⟨x, a1⟩ := r
    obtain ⟨k1, k2⟩ := hpar a x a1 ha h1
    have k3 := nxt_le s a1 k2
    simp only
    rw [h (nxt s a1).2 (by omega) k3.2]
theorem pset_fuel (s : ByteArray) : ∀ n m a, a ≤ s.size → s.size < a + n → s.size < a + m → pset n s a = pset m s a
  | 0, m, a, ha, h, _ => absurd h (by omega)
  | n + 1, 0, a, ha, _, h => absurd h (by omega)
  | n + 1, m + 1, a, ha, h1, h2 => by
    unfold pset
    split
    · rfl
    · split
      · rename_i c
        obtain ⟨k1, k2⟩ := nxt_pos ha (show (nxt s a).1 ≠ 0 by omega)
        rw [pset_fuel s n m (a + 1) k1 (by omega) (by omega)]
      · split
        · rename_i c
          obtain ⟨k1, k2⟩ := nxt_pos ha (show (nxt s a).1 ≠ 0 by omega)
          exact ptwo_congr (pset_place s m) k1 (fun x hx hx2 => pset_fuel s n m x hx2 (by omega) (by omega))
        · rfl
theorem ext_app (c s : ByteArray) (i j : Nat) : (c ++ s).extract (i + c.size) (j + c.size) = s.extract i j := by
  have h : ((c ++ s).extract (i + c.size) (j + c.size)).data.toList = (s.extract i j).data.toList := by
    rw [ext_toList, ext_toList, ba_append, List.take_append, List.drop_append, len_toList]
    rw [show j + c.size - c.size = j by omega, List.take_of_length_le (by rw [len_toList]; omega), len_toList, List.drop_of_length_le (by rw [len_toList]; omega)]
    rw [List.nil_append, show i + c.size - c.size = i by omega]
  rw [bytes_of h, ← bytes_of (x := s.extract i j) rfl]
theorem openAt_app (c s : ByteArray) (a : Nat) : openAt (c ++ s) (a + c.size) = openAt s a := by
  unfold openAt
  rw [show (c ++ s).size = s.size + c.size by rw [sz_app]; omega, ext_app]
theorem psent_app (c s : ByteArray) : ∀ n a, a ≤ s.size → psent n (c ++ s) (a + c.size) = (psent n s a).map (shr1 c.size)
  | 0, a, _ => rfl
  | n + 1, a, ha => by
    by_cases c1 : (nxt s a).1 = 126
    · unfold psent
      rw [nxt_app]
      simp only
      rw [if_pos c1, if_pos c1]
      obtain ⟨k1, k2⟩ := nxt_pos ha (show (nxt s a).1 ≠ 0 by omega)
      rw [show a + c.size + 1 = a + 1 + c.size by omega, psent_app c s n (a + 1) k1]
      cases psent n s (a + 1) with
      | none => rfl
      | some r => rfl
    · by_cases c2 : (nxt s a).1 = 91
      · unfold psent
        rw [nxt_app]
        simp only
        rw [if_neg c1, if_neg c1, if_pos c2, if_pos c2]
        obtain ⟨k1, k2⟩ := nxt_pos ha (show (nxt s a).1 ≠ 0 by omega)
        rw [show a + c.size + 1 = a + 1 + c.size by omega]
        have hcon : ptwo (psent n (c ++ s)) [38, 124] 93 (c ++ s) (a + 1 + c.size) = ptwo (fun x => if c.size ≤ x ∧ x ≤ s.size + c.size then psent n (c ++ s) x else if c.size ≤ x then (psent n s (x - c.size)).map (shr1 c.size) else none) [38, 124] 93 (c ++ s) (a + 1 + c.size) :=
          (ptwo_congr (psent_place (c ++ s) n) (by rw [sz_app]; omega) (fun x hx hx2 => by rw [sz_app] at hx2; rw [if_pos ⟨by omega, by omega⟩])).symm
        rw [hcon]
        refine ptwo_app c s _ _ (a + 1) (fun x => ?_)
        by_cases hx : x ≤ s.size
        · rw [if_pos ⟨by omega, by omega⟩, psent_app c s n x hx]
        · rw [if_neg (by omega), if_pos (by omega), show x + c.size - c.size = x by omega]
      · rw [psent_tri (by rw [nxt_app]; exact c1) (by rw [nxt_app]; exact c2), psent_tri c1 c2]
        unfold ptri
        rw [openAt_app]
        split
        · rfl
        · rename_i hn
          have hl := openAt_lt s a ha
          rw [show a + c.size + (openAt s a).toNat = a + (openAt s a).toNat + c.size by omega, ext_app]
          cases ntri (s.extract a (a + (openAt s a).toNat)) with
          | none => rfl
          | some t =>
            simp only
            have hk : a + (openAt s a).toNat + 1 ≤ s.size := by omega
            rw [show a + (openAt s a).toNat + c.size + 1 = a + (openAt s a).toNat + 1 + c.size by omega]
            rw [ptwo_app c s _ _ (a + (openAt s a).toNat + 1) (fun x => pset_app c s ((c ++ s).size + 1) x)]
            rw [ptwo_congr (par := pset (s.size + 1) s) (pset_place s (s.size + 1)) hk (fun x hx hx2 => pset_fuel s _ _ x hx2 (by rw [sz_app]; omega) (by omega))]
            cases hq : ptwo (pset (s.size + 1) s) [44] 41 s (a + (openAt s a).toNat + 1) with
            | none => rfl
            | some r =>
              obtain ⟨r1, r2⟩ := r
              obtain ⟨x, y, rfl⟩ := ptwo_comma hq
              rfl
/-- a tilde ahead -/
theorem tilde_pread (s : ByteArray) (h : s.size < 80) : pread ((⟨#[126]⟩ : ByteArray) ++ s) = (pread s).map (fun p => .one 126 (shift 1 p)) := by
  have hsz : ((⟨#[126]⟩ : ByteArray) ++ s).size = s.size + 1 := by rw [sz_app]; show 1 + s.size = _; omega
  have h0 : nxt ((⟨#[126]⟩ : ByteArray) ++ s) 0 = (126, 1) := by
    rw [nxt_lt (by omega)]
    have : bt ((⟨#[126]⟩ : ByteArray) ++ s) ((0 : Nat) : Int) = 126 := by
      rw [bt_getD, ba_append]; rfl
    rw [this]
  unfold pread
  rw [if_neg (by rw [hsz]; omega), if_neg (by omega), hsz]
  have h1 : psent (s.size + 1 + 1) ((⟨#[126]⟩ : ByteArray) ++ s) 0 = (match psent (s.size + 1) ((⟨#[126]⟩ : ByteArray) ++ s) 1 with | none => none | some (p, e) => some (.one 126 p, e)) := by
    conv => lhs; unfold psent
    rw [h0]
    rfl
  have h2 := psent_app ⟨#[126]⟩ s (s.size + 1) 0 (by omega)
  rw [show (0 : Nat) + (⟨#[126]⟩ : ByteArray).size = 1 from rfl, show (⟨#[126]⟩ : ByteArray).size = 1 from rfl] at h2
  rw [h1, h2]
  cases psent (s.size + 1) s 0 with
  | none => rfl
  | some r =>
    obtain ⟨p, e⟩ := r
    simp only [Option.map_some, shr1]
    by_cases c : e = s.size
    · rw [if_pos c, if_pos (by omega)]; rfl
    · rw [if_neg c, if_neg (by omega)]; rfl
theorem tilde_some (s : ByteArray) (h : s.size < 80) : (pread ((⟨#[126]⟩ : ByteArray) ++ s)).isSome = (pread s).isSome := by
  rw [tilde_pread s h]; cases pread s <;> rfl

/-! pack foursets: the four drawn sets -/
def bothOk (a b : Nat) : Bool := match spec_l2Both.f 20 (a : Int) (b : Int) with
  | none => false
  | some v => decide (0 ≤ wrap64 (wrap64 ((a : Int) + b) - v) ∧ wrap64 (wrap64 ((a : Int) + b) - v) ≤ 7)
theorem both_all : ∀ a b : Fin 8, bothOk a.val b.val = true := by decide +kernel
theorem both_draw {a b : Int} (ha : 0 ≤ a) (ha1 : a < 8) (hb : 0 ≤ b) (hb1 : b < 8) : ∃ v, 0 ≤ wrap64 (wrap64 (a + b) - v) ∧ wrap64 (wrap64 (a + b) - v) < 8 ∧ Ev (fun k => spec_l2Both.f k a b) v := by
  obtain ⟨m, rfl⟩ := Int.eq_ofNat_of_zero_le ha
  obtain ⟨n, rfl⟩ := Int.eq_ofNat_of_zero_le hb
  have h := both_all ⟨m, by omega⟩ ⟨n, by omega⟩
  unfold bothOk at h
  simp only at h
  split at h
  · exact absurd h (by simp)
  · rename_i v hv
    have h2 := of_decide_eq_true h
    exact ⟨v, h2.1, by omega, Ev.of (spec_l2Both.mono _ _) hv⟩
def four (L : List Int) : Prop := L.length = 3 ∨ ∃ a b c d : Fin 8, L = [(a.val : Int), (b.val : Int), (c.val : Int), (d.val : Int)]
theorem four_mk {a b c d : Int} (a0 : 0 ≤ a) (a1 : a < 8) (b0 : 0 ≤ b) (b1 : b < 8) (c0 : 0 ≤ c) (c1 : c < 8) (d0 : 0 ≤ d) (d1 : d < 8) : four [a, b, c, d] := by
  obtain ⟨m, rfl⟩ := Int.eq_ofNat_of_zero_le a0
  obtain ⟨n, rfl⟩ := Int.eq_ofNat_of_zero_le b0
  obtain ⟨x, rfl⟩ := Int.eq_ofNat_of_zero_le c0
  obtain ⟨y, rfl⟩ := Int.eq_ofNat_of_zero_le d0
  exact .inr ⟨⟨m, by omega⟩, ⟨n, by omega⟩, ⟨x, by omega⟩, ⟨y, by omega⟩, rfl⟩
theorem sets_draw {b : List Int} (hb : Rdr b) (p : Int) (h0 : 0 ≤ p) (h1 : p ≤ 900000) : ∃ L p', four L ∧ p ≤ p' ∧ p' ≤ p + 10 ∧ Ev (fun k => spec_l20FourSets.f k b p 14) (L, p') := by
  obtain ⟨x, x0, x1, hx⟩ := pick_ok (p := p) (n := 8) hb (by omega) (by omega) (by omega)
  obtain ⟨y, y0, y1, hy⟩ := pick_ok (p := p + 1) (n := 8) hb (by omega) (by omega) (by omega)
  obtain ⟨z, z0, z1, hz⟩ := pick_ok (p := p + 1 + 1) (n := 8) hb (by omega) (by omega) (by omega)
  obtain ⟨u, u0, u1, hu⟩ := pick_ok (p := p + 1 + 1 + 1) (n := 8) hb (by omega) (by omega) (by omega)
  obtain ⟨v, v0, v1, hv⟩ := pick_ok (p := p + 1 + 1 + 1 + 1) (n := 2) hb (by omega) (by omega) (by omega)
  obtain ⟨o, p', o0, o1, _, ho⟩ := odd_ok hb (p := p + 1 + 1 + 1 + 1 + 1) (n := 14) (by omega) (by omega) (by omega) (by omega)
  obtain ⟨t, t0, t1, ht⟩ := both_draw x0 x1 y0 y1
  have base : ∀ {r : List Int × Int}, four r.1 → p ≤ r.2 → r.2 ≤ p + 10 → Ev (fun k => spec_l20FourSets.f k b p 14) r → ∃ L p', four L ∧ p ≤ p' ∧ p' ≤ p + 10 ∧ Ev (fun k => spec_l20FourSets.f k b p 14) (L, p') := fun {r} a b c d => ⟨r.1, r.2, a, b, c, d⟩
  by_cases c : v = 0
  · cases o with
    | true => exact base (r := ([x, wrap64 (wrap64 (x + y) - t), z], p')) (.inl rfl) (by omega) (by omega) (by
        unfold spec_l20FourSets.f
        exact Ev.bind hx (Ev.bind hy (Ev.bind hz (Ev.bind hu (ev_bind rfl (Ev.bind hv (ev_pos c (ev_pos (by simp) (ev_pos (by simp) (Ev.bind ht (ev_bind rfl (Ev.bind ho (ev_pos rfl (ev_pos (by simp) (ev_now rfl)))))))))))))))
    | false => exact base (r := ([x, wrap64 (wrap64 (x + y) - t), z, u], p')) (four_mk x0 x1 t0 t1 z0 z1 u0 u1) (by omega) (by omega) (by
        unfold spec_l20FourSets.f
        exact Ev.bind hx (Ev.bind hy (Ev.bind hz (Ev.bind hu (ev_bind rfl (Ev.bind hv (ev_pos c (ev_pos (by simp) (ev_pos (by simp) (Ev.bind ht (ev_bind rfl (Ev.bind ho (ev_neg (by simp) (ev_now rfl))))))))))))))
  · cases o with
    | true => exact base (r := ([x, y, z], p')) (.inl rfl) (by omega) (by omega) (by
        unfold spec_l20FourSets.f
        exact Ev.bind hx (Ev.bind hy (Ev.bind hz (Ev.bind hu (ev_bind rfl (Ev.bind hv (ev_neg c (Ev.bind ho (ev_pos rfl (ev_pos (by simp) (ev_now rfl)))))))))))
    | false => exact base (r := ([x, y, z, u], p')) (four_mk x0 x1 y0 y1 z0 z1 u0 u1) (by omega) (by omega) (by
        unfold spec_l20FourSets.f
        exact Ev.bind hx (Ev.bind hy (Ev.bind hz (Ev.bind hu (ev_bind rfl (Ev.bind hv (ev_neg c (Ev.bind ho (ev_neg (by simp) (ev_now rfl))))))))))

def tEv : ByteArray := ⟨#[101, 118, 101, 114, 121, 40, 97, 44, 98, 41]⟩
def tNs : ByteArray := ⟨#[126, 115, 111, 109, 101, 40, 97, 44, 33, 98, 41]⟩
def tNo : ByteArray := ⟨#[110, 111, 40, 97, 44, 98, 41]⟩
def tEn : ByteArray := ⟨#[101, 118, 101, 114, 121, 40, 97, 44, 33, 98, 41]⟩
def lawOk (a b : Nat) : Bool := (trueM [(a : Int), (b : Int), 0, 0] tEv == trueM [(a : Int), (b : Int), 0, 0] tNs) && (trueM [(a : Int), (b : Int), 0, 0] tNo == trueM [(a : Int), (b : Int), 0, 0] tEn)
theorem law_all : ∀ a b : Fin 8, lawOk a.val b.val = true := by decide +kernel
/-- a part whose letters are a and b alone -/
def abs2 : PT → Bool
  | .leaf c _ => c == 97 || c == 98
  | .one _ p => abs2 p
  | .two _ p q => abs2 p && abs2 q
  | .tri _ p q => abs2 p && abs2 q
theorem setv_ab {L M : List Int} (h0 : rd L 0 = rd M 0) (h1 : rd L 1 = rd M 1) : ∀ p, abs2 p = true → setv L p = setv M p
  | .leaf c _, h => by
    simp only [abs2, Bool.or_eq_true, beq_iff_eq] at h
    simp only [setv]
    rcases h with rfl | rfl
    · exact h0
    · exact h1
  | .one _ p, h => by simp only [setv]; rw [setv_ab h0 h1 p h]
  | .two _ p q, h => by
    simp only [abs2, Bool.and_eq_true] at h
    simp only [setv]; rw [setv_ab h0 h1 p h.1, setv_ab h0 h1 q h.2]
  | .tri _ _ _, _ => rfl
theorem truv_ab {L M : List Int} (h0 : rd L 0 = rd M 0) (h1 : rd L 1 = rd M 1) : ∀ p, abs2 p = true → truv L p = truv M p
  | .leaf _ _, _ => rfl
  | .one _ p, h => by simp only [truv]; rw [truv_ab h0 h1 p h]
  | .two _ p q, h => by
    simp only [abs2, Bool.and_eq_true] at h
    simp only [truv]; rw [truv_ab h0 h1 p h.1, truv_ab h0 h1 q h.2]
  | .tri _ p q, h => by
    simp only [abs2, Bool.and_eq_true] at h
    simp only [truv]; rw [setv_ab h0 h1 p h.1, setv_ab h0 h1 q h.2]
def abOk (s : ByteArray) : Bool := match pread s with | none => true | some p => abs2 p
theorem trueM_ab {L M : List Int} (h0 : rd L 0 = rd M 0) (h1 : rd L 1 = rd M 1) (hL : setsOk L = setsOk M) {s : ByteArray} (h : abOk s = true) : trueM L s = trueM M s := by
  unfold trueM
  unfold abOk at h
  cases hp : pread s with
  | none => rfl
  | some p =>
    rw [hp] at h
    simp only at h ⊢
    rw [hL, truv_ab h0 h1 p h]
theorem sets_fin (a b c d : Fin 8) : setsOk [(a.val : Int), (b.val : Int), (c.val : Int), (d.val : Int)] = true := by
  refine setsOk_of rfl (fun i hi => ?_)
  obtain rfl | rfl | rfl | rfl : i = 0 ∨ i = 1 ∨ i = 2 ∨ i = 3 := by omega
  · exact ⟨by show (0 : Int) ≤ (a.val : Int); omega, by show (a.val : Int) ≤ 7; omega⟩
  · exact ⟨by show (0 : Int) ≤ (b.val : Int); omega, by show (b.val : Int) ≤ 7; omega⟩
  · exact ⟨by show (0 : Int) ≤ (c.val : Int); omega, by show (c.val : Int) ≤ 7; omega⟩
  · exact ⟨by show (0 : Int) ≤ (d.val : Int); omega, by show (d.val : Int) ≤ 7; omega⟩
theorem ab_all : (abOk tEv && abOk tNs && abOk tNo && abOk tEn) = true := by decide +kernel
theorem j0_true (a b c d : Fin 8) : Ev (fun k => laws_FnTrueOf.j0 k [(a.val : Int), (b.val : Int), (c.val : Int), (d.val : Int)] false) true := by
  have h := law_all a b
  have k := ab_all
  unfold lawOk at h
  simp only [Bool.and_eq_true] at h k
  have e : ∀ s, abOk s = true → trueM [(a.val : Int), (b.val : Int), 0, 0] s = trueM [(a.val : Int), (b.val : Int), (c.val : Int), (d.val : Int)] s := fun s hs =>
    trueM_ab (L := [(a.val : Int), (b.val : Int), 0, 0]) (M := [(a.val : Int), (b.val : Int), (c.val : Int), (d.val : Int)]) rfl rfl ((show setsOk [(a.val : Int), (b.val : Int), 0, 0] = true from sets_fin a b 0 0).trans (sets_fin a b c d).symm) hs
  rw [e _ k.1.1.1, e _ k.1.1.2, e _ k.1.2, e _ k.2] at h
  exact Ev.step (fun _ => laws_FnTrueOf.j0.eq_2 _ _ _) (ev_neg (by simp) (ev_bind (itrue _ _) (ev_bind (itrue _ _) (ev_pos h.1 (ev_bind (itrue _ _) (ev_bind (itrue _ _) (ev_now h.2)))))))
theorem FnTrueOf : laws_FnTrueOf.Pure := by
  intro l _ _ hw
  refine Ev.rounds (g := fun k => laws_FnTrueOf.f k l) ?_
  unfold laws_FnTrueOf.f
  by_cases h : (l.length : Int) > 1048576
  · exact ev_pos h (ev_now rfl)
  · obtain ⟨b, ho, hb⟩ := open_ok hw
    obtain ⟨L, p, hL, q1, q2, hF⟩ := sets_draw hb 0 (by omega) (by omega)
    obtain ⟨s, p', h1, h2, h3, hE⟩ := text_draw hb p 14 (by omega) (by omega) (by omega) (by omega)
    have hD : Ev (fun k => spec_DrawTrueOf.f k l) (L, s) := by
      unfold spec_DrawTrueOf.f
      exact ev_bind ho (Ev.bind hF (Ev.bind hE (ev_now rfl)))
    have hlen : L.length ≤ 4 := by
      rcases hL with h3 | ⟨a, b, c, d, rfl⟩
      · omega
      · exact Nat.le_refl 4
    have hi : ∀ t, impl_SentenceOk.f t = some (pread t).isSome := fun t => rfl
    refine ev_neg h (Ev.bind hD (ev_bind (itrue L s) (Ev.bind (strue L (by omega) s (by omega)) (ev_neg (by simp) ?_))))
    rcases hL with h3 | ⟨a, b, c, d, rfl⟩
    · have hno : trueM L s = false := by
        unfold trueM
        rw [setsOk_len (by omega)]
        cases pread s <;> rfl
      rw [hno]
      exact ev_neg (by dsimp only; omega) (ev_neg (by simp) (ev_bind alive_t (ev_now rfl)))
    · have J := j0_true a b c d
      refine ev_pos (by simp) (ev_bind (hi s) ?_)
      by_cases c1 : (pread s).isSome = true
      · refine ev_pos c1 ?_
        by_cases c2 : (s.size : Int) < 80
        · refine ev_pos c2 (ev_pos (by dsimp only; omega) (ev_bind (itrue _ _) ?_))
          obtain ⟨q, hq⟩ := Option.isSome_iff_exists.mp c1
          have hx : (trueM [(a.val : Int), (b.val : Int), (c.val : Int), (d.val : Int)] ((⟨#[126]⟩ : ByteArray) ++ s) == trueM [(a.val : Int), (b.val : Int), (c.val : Int), (d.val : Int)] s) = false := by
            unfold trueM
            rw [tilde_pread s (by omega), hq, sets_fin]
            simp only [Option.map_some, truv, truv_shift, Bool.true_and]
            cases truv _ q <;> rfl
          rw [hx]
          exact J
        · exact ev_neg c2 J
      · exact ev_neg c1 J

end Go.Proofs.Ytfjfdnododnepaa.Pure
