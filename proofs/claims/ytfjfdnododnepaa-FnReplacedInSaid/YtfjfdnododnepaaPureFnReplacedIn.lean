/- For every code and every other code the law FnReplacedIn answers true: the program and the reference replace the letter alike, the signs stay, and what may grow grows; no condition. -/
import Derived.Test.YtfjfdnododnepaaPFnReplacedInx18
namespace Go.Proofs.Ytfjfdnododnepaa.Pure
open Go.RowKit Go.Proofs.Ytfjfdnododnepaa.PFnReplacedIn Go.Proofs.YtfjfdnododnepaaW.PrintWords Go.Proofs.YtfjfdnododnepaaW.PrintLast
set_option linter.unusedVariables false
set_option linter.unusedSimpArgs false

/-! pack arith: numbers that do not wrap, and steps of 'from some number of rounds on' -/
theorem w64 {n : Int} (h0 : -9223372036854775808 ≤ n) (h1 : n ≤ 9223372036854775807) : wrap64 n = n := by unfold wrap64; omega
theorem ev_pos {α : Type} {c : Prop} [Decidable c] {a b : Nat → Option α} {r : α} (h : c) (H : Ev a r) : Ev (fun k => if c then a k else b k) r :=
  Ev.congr (fun _ => if_pos h) H
theorem ev_neg {α : Type} {c : Prop} [Decidable c] {a b : Nat → Option α} {r : α} (h : ¬ c) (H : Ev b r) : Ev (fun k => if c then a k else b k) r :=
  Ev.congr (fun _ => if_neg h) H
theorem ev_now {α : Type} {a r : α} (h : a = r) : Ev (fun _ => some a) r := h ▸ Ev.now a
theorem ev_bind {α β : Type} {o : Option α} {f : Nat → α → Option β} {a : α} {r : β} (h : o = some a) (k : Ev (fun n => f n a) r) : Ev (fun n => o.bind (f n)) r :=
  Ev.congr (fun n => by rw [h]; rfl) k

/-! pack pick: the reader of draws -/
theorem xor_pos (x y : Int) (hx : 0 ≤ x) (hx1 : x < 4611686018427387904) (hy : 0 ≤ y) (hy1 : y < 4611686018427387904) : 0 ≤ Go.bits .xor .i64 x y := by
  obtain ⟨a, rfl⟩ := Int.eq_ofNat_of_zero_le hx
  obtain ⟨b, rfl⟩ := Int.eq_ofNat_of_zero_le hy
  have ha : a < 2 ^ 62 := by have e : (2 : Nat) ^ 62 = 4611686018427387904 := by decide
                             omega
  have hb : b < 2 ^ 62 := by have e : (2 : Nat) ^ 62 = 4611686018427387904 := by decide
                             omega
  have hx : a ^^^ b < 2 ^ 62 := Nat.xor_lt_two_pow ha hb
  have ha' : a % 2 ^ IntKind.i64.bits = a := Nat.mod_eq_of_lt (Nat.lt_trans ha (by decide))
  have hb' : b % 2 ^ IntKind.i64.bits = b := Nat.mod_eq_of_lt (Nat.lt_trans hb (by decide))
  simp only [Go.bits, BitVec.ofInt_natCast, BitVec.toNat_xor, BitVec.toNat_ofNat, ha', hb']
  rw [IntKind.wrap_i64]
  have e : (2 : Nat) ^ 62 = 4611686018427387904 := by decide
  omega
theorem rd_byte {b : List Int} (hw : ∀ x ∈ b, 0 ≤ x ∧ x ≤ 255) (i : Int) : 0 ≤ rd b i ∧ rd b i ≤ 255 := by
  unfold rd
  rw [List.getD_eq_getElem?_getD]
  by_cases h : i.toNat < b.length
  · rw [List.getElem?_eq_getElem h]; exact hw _ (List.getElem_mem h)
  · rw [List.getElem?_eq_none (by omega)]; simp
def Rdr (b : List Int) : Prop := b.length ≤ 2000 ∧ ∀ x ∈ b, 0 ≤ x ∧ x ≤ 255
theorem pick_ok {b : List Int} {p n : Int} (hb : Rdr b) (hp0 : 0 ≤ p) (hp1 : p ≤ 1000000) (hn : 1 ≤ n) :
    ∃ v, 0 ≤ v ∧ v < n ∧ Ev (fun k => spec_l20Rd_pick.f k b p n) (v, p + 1) := by
  obtain ⟨hl, hw⟩ := hb
  have e1 : wrap64 (p + 1) = p + 1 := w64 (by omega) (by omega)
  have e2 : wrap64 (p + 1 - 1) = p := by rw [show p + 1 - 1 = p by omega]; exact w64 (by omega) (by omega)
  by_cases h0 : b.length = 0
  · refine ⟨0, by omega, by omega, ?_⟩
    unfold spec_l20Rd_pick.f
    refine ev_neg (by omega) ?_
    rw [e1]
    refine Ev.step (fun _ => spec_l20Rd_pick.j0.eq_2 _ _ _ _ _) ?_
    refine ev_pos (beq_iff_eq.mpr (by omega)) (ev_now rfl)
  · have hx24 : ¬ (((b.length : Int) == 0) = true) := fun h => h0 (by have := beq_iff_eq.mp h; omega)
    by_cases h1 : p < b.length
    · have hr := rd_byte hw p
      have er : wrap64 (rd b p) = rd b p := w64 (by omega) (by omega)
      refine ⟨Int.tmod (rd b p) n, Int.tmod_nonneg _ hr.1, Int.tmod_lt_of_pos _ (by omega), ?_⟩
      unfold spec_l20Rd_pick.f
      refine ev_neg (by omega) ?_
      rw [e1]
      refine Ev.step (fun _ => spec_l20Rd_pick.j0.eq_2 _ _ _ _ _) ?_
      simp only [e2, er]
      refine ev_neg hx24 (ev_pos h1 (ev_pos hp0 (ev_neg (by omega) (ev_now rfl))))
    · have hL : (0 : Int) < b.length := by omega
      have m0 := Int.tmod_nonneg (b.length : Int) hp0
      have m1 := Int.tmod_lt_of_pos p hL
      have e3 : wrap64 (p * 7) = p * 7 := w64 (by omega) (by omega)
      have e4 : wrap64 (p * 7 + 3) = p * 7 + 3 := w64 (by omega) (by omega)
      have n0 := Int.tmod_nonneg (b.length : Int) (show 0 ≤ p * 7 + 3 by omega)
      have n1 := Int.tmod_lt_of_pos (p * 7 + 3) hL
      have r1 := rd_byte hw (Int.tmod p b.length)
      have r2 := rd_byte hw (Int.tmod (p * 7 + 3) b.length)
      have d0 : 0 ≤ Int.tdiv p b.length := Int.tdiv_nonneg hp0 (by omega)
      have d1 : Int.tdiv p b.length ≤ p := Int.tdiv_le_self _ hp0
      have e5 : wrap64 (rd b (Int.tmod p b.length)) = rd b (Int.tmod p b.length) := w64 (by omega) (by omega)
      have e6 : wrap64 (rd b (Int.tmod (p * 7 + 3) b.length)) = rd b (Int.tmod (p * 7 + 3) b.length) := w64 (by omega) (by omega)
      have e7 : wrap64 (rd b (Int.tmod p b.length) * 131) = rd b (Int.tmod p b.length) * 131 := w64 (by omega) (by omega)
      have e8 : wrap64 (rd b (Int.tmod (p * 7 + 3) b.length) * 1117) = rd b (Int.tmod (p * 7 + 3) b.length) * 1117 := w64 (by omega) (by omega)
      have e9 : wrap64 (p * 29) = p * 29 := w64 (by omega) (by omega)
      have e10 : wrap64 (Int.tdiv p b.length) = Int.tdiv p b.length := w64 (by omega) (by omega)
      have e11 : wrap64 (Int.tdiv p b.length * 53) = Int.tdiv p b.length * 53 := w64 (by omega) (by omega)
      generalize hA : rd b (Int.tmod p b.length) = A at *
      generalize hB : rd b (Int.tmod (p * 7 + 3) b.length) = B at *
      generalize hD : Int.tdiv p b.length = D at *
      have e12 : wrap64 (A * 131 + B * 1117) = A * 131 + B * 1117 := w64 (by omega) (by omega)
      have e13 : wrap64 (A * 131 + B * 1117 + p * 29) = A * 131 + B * 1117 + p * 29 := w64 (by omega) (by omega)
      have e14 : wrap64 (A * 131 + B * 1117 + p * 29 + D * 53) = A * 131 + B * 1117 + p * 29 + D * 53 := w64 (by omega) (by omega)
      have hS : 0 ≤ A * 131 + B * 1117 + p * 29 + D * 53 := by omega
      have hS1 : A * 131 + B * 1117 + p * 29 + D * 53 < 4611686018427387904 := by omega
      have t0 : 0 ≤ Int.tdiv (A * 131 + B * 1117 + p * 29 + D * 53) 64 := Int.tdiv_nonneg hS (by omega)
      have t1 : Int.tdiv (A * 131 + B * 1117 + p * 29 + D * 53) 64 ≤ A * 131 + B * 1117 + p * 29 + D * 53 := Int.tdiv_le_self _ hS
      have e15 : wrap64 (Int.tdiv (A * 131 + B * 1117 + p * 29 + D * 53) 64) = Int.tdiv (A * 131 + B * 1117 + p * 29 + D * 53) 64 := w64 (by omega) (by omega)
      have hX := xor_pos _ _ hS hS1 t0 (by omega)
      refine ⟨_, Int.tmod_nonneg n hX, Int.tmod_lt_of_pos _ (show 0 < n by omega), ?_⟩
      unfold spec_l20Rd_pick.f
      refine ev_neg (by omega) ?_
      rw [e1]
      refine Ev.step (fun _ => spec_l20Rd_pick.j0.eq_2 _ _ _ _ _) ?_
      simp only [e2, e3, e4, hA, hB, e5, e6, e7, e8, e9, hD, e10, e11, e12, e13, e14, e15]
      exact ev_neg hx24 (ev_neg h1 (ev_neg (by omega) (ev_pos m0 (ev_pos m1 (ev_pos n0 (ev_pos n1 (ev_neg (by omega) (ev_now rfl))))))))
theorem open_ok {l : List Int} (hw : ∀ x ∈ l, (Lit.int .u8 x).wf = true) : ∃ b, spec_l20Open.f l = some (b, 0) ∧ Rdr b := by
  have hw' : ∀ x ∈ l, 0 ≤ x ∧ x ≤ 255 := fun x hx => by
    have := hw x hx
    simp [Lit.wf, IntKind.min, IntKind.max, IntKind.signed, IntKind.bits] at this
    omega
  unfold spec_l20Open.f
  by_cases h : (l.length : Int) > 2000
  · refine ⟨l.take 2000, by rw [if_pos h, if_pos (by omega)], by simp; omega, fun x hx => hw' x (List.mem_of_mem_take hx)⟩
  · exact ⟨l, by rw [if_neg h], by omega, hw'⟩

/-! pack odd -/
theorem odd_ok {b : List Int} (hb : Rdr b) {p n : Int} (hp0 : 0 ≤ p) (hp1 : p ≤ 1000000) (hn : 0 ≤ n) (hn1 : n ≤ 1000000) :
    ∃ v p', p ≤ p' ∧ p' ≤ p + 1 ∧ (n = 0 → v = false) ∧ Ev (fun k => spec_l20Rd_odd.f k b p n) (v, p') := by
  unfold spec_l20Rd_odd.f
  by_cases h : n > 0
  · obtain ⟨v, a, c, hE⟩ := pick_ok (n := n) hb hp0 hp1 (by omega)
    exact ⟨_, p + 1, by omega, by omega, fun e => by omega, ev_pos h (Ev.bind hE (Ev.now _))⟩
  · exact ⟨false, p, by omega, by omega, fun _ => rfl, ev_neg h (Ev.now _)⟩

/-! pack drawsent: drawn texts that are mostly sentences -/
def zS : Nat → Nat
  | 0 => 1
  | d + 1 => 2 * zS d + 3
def cS : Nat → Nat
  | 0 => 1
  | d + 1 => 2 * cS d + 2
def zT : Nat → Nat
  | 0 => 40
  | d + 1 => 2 * zT d + 3
def cT : Nat → Nat
  | 0 => 30
  | d + 1 => 2 * cT d + 3
theorem zS_ge : ∀ d, d ≤ zS d
  | 0 => by omega
  | d + 1 => by have := zS_ge d; simp only [zS]; omega
theorem zT_ge : ∀ d, d + 40 ≤ zT d
  | 0 => by simp [zT]
  | d + 1 => by have := zT_ge d; simp only [zT]; omega
theorem cT_ge : ∀ d, 30 ≤ cT d
  | 0 => by simp [cT]
  | d + 1 => by have := cT_ge d; simp only [cT]; omega
theorem letters_size : ∀ v : Fin 4, (rdOf ByteArray.empty ([(⟨#[97]⟩ : ByteArray), (⟨#[98]⟩ : ByteArray), (⟨#[99]⟩ : ByteArray), (⟨#[100]⟩ : ByteArray)] : List ByteArray) (v.val : Int)).size = 1 := by decide +kernel
theorem signs_size : ∀ v : Fin 2, (rdOf ByteArray.empty ([(⟨#[38]⟩ : ByteArray), (⟨#[124]⟩ : ByteArray)] : List ByteArray) (v.val : Int)).size = 1 := by decide +kernel
theorem spoils_size : ∀ v : Fin 5, (rdOf ByteArray.empty ([(⟨#[]⟩ : ByteArray), (⟨#[97]⟩ : ByteArray), (⟨#[40]⟩ : ByteArray), (⟨#[101]⟩ : ByteArray), (⟨#[126]⟩ : ByteArray)] : List ByteArray) (v.val : Int)).size ≤ 1 := by decide +kernel
theorem names_len10 : ((spec_l20Names.f).getD []).length = 10 := by decide +kernel
theorem names_ok : spec_l20Names.f = some ((spec_l20Names.f).getD []) := by decide +kernel
theorem names_size : ∀ v : Fin 10, (rdOf ByteArray.empty ((spec_l20Names.f).getD []) (v.val : Int)).size ≤ 8 := by decide +kernel
theorem letter_draw {b : List Int} (hb : Rdr b) (x p : Int) (hp0 : 0 ≤ p) (hp1 : p ≤ 1000000) : ∃ s : ByteArray, s.size = 1 ∧ Ev (fun k => spec_l20Set.j0 k x true b p) (s, p + 1) := by
  obtain ⟨v, v0, v1, hv⟩ := pick_ok (p := p) (n := 4) hb hp0 hp1 (by omega)
  obtain ⟨n, rfl⟩ := Int.eq_ofNat_of_zero_le v0
  exact ⟨_, letters_size ⟨n, by omega⟩, Ev.step (fun _ => spec_l20Set.j0.eq_2 _ _ _ _ _) (ev_pos rfl (ev_bind rfl (Ev.bind hv (ev_pos v0 (ev_pos (by simp; omega) (Ev.now _))))))⟩
theorem wnx {x : Nat} (h : x ≤ 17000000000000) : wrap64 ((x : Int) + 1) = ((x + 1 : Nat) : Int) := by unfold wrap64; omega
theorem wdn {d : Nat} (h : d ≤ 17000000000000) : wrap64 (((d + 1 : Nat) : Int) - 1) = (d : Int) := by unfold wrap64; omega
theorem app_size (a b : ByteArray) : (a ++ b).size = a.size + b.size := ByteArray.size_append
theorem set_draw {b : List Int} (hb : Rdr b) : ∀ (d : Nat) (p : Int), 0 ≤ p → p + (cS d : Int) ≤ 1000000 → zS d ≤ 1000 → ∃ (s : ByteArray) (p' : Int), 1 ≤ s.size ∧ s.size ≤ zS d ∧ p ≤ p' ∧ p' ≤ p + (cS d : Int) ∧ Ev (fun k => spec_l20Set.f k b p (d : Int)) (s, p')
  | 0, p, h0, h1, _ => by
    simp only [cS] at h1
    obtain ⟨s, hs, hE⟩ := letter_draw hb 0 p h0 (by omega)
    exact ⟨s, p + 1, by omega, by simp only [zS]; omega, by omega, by simp only [cS]; omega, Ev.step (fun _ => spec_l20Set.f.eq_2 _ _ _ _) (ev_pos rfl hE)⟩
  | d + 1, p, h0, h1, hz => by
    simp only [cS] at h1
    simp only [zS] at hz
    have hdz := zS_ge d
    obtain ⟨v, v0, v1, hv⟩ := pick_ok (p := p) (n := 2) hb h0 (by omega) (by omega)
    obtain ⟨s, hs, hE⟩ := letter_draw hb ((d + 1 : Nat) : Int) (p + 1) (by omega) (by omega)
    by_cases c : v = 0
    · subst c
      exact ⟨s, p + 1 + 1, by omega, by simp only [zS]; omega, by omega, by simp only [cS]; omega, Ev.step (fun _ => spec_l20Set.f.eq_2 _ _ _ _) (ev_neg (by omega) (Ev.bind hv hE))⟩
    · obtain ⟨u, u0, u1, hu⟩ := pick_ok (p := p + 1) (n := 3) hb (by omega) (by omega) (by omega)
      obtain ⟨s1, p1, a0, a1, a2, a3, hE1⟩ := set_draw hb d (p + 1 + 1) (by omega) (by omega) (by omega)
      obtain ⟨s2, p2, b0, b1, b2, b3, hE2⟩ := set_draw hb d p1 (by omega) (by omega) (by omega)
      have EW : Aside0 (wrap64 (((d + 1 : Nat) : Int) - 1) = (d : Int)) := ⟨wdn (by omega)⟩
      have hv' : (v == 0) = false := by rw [beq_eq_false_iff_ne]; exact c
      have base : ∀ {r : ByteArray × Int}, Ev (fun k => spec_l20Set.j0 k ((d + 1 : Nat) : Int) false b (p + 1)) r → Ev (fun k => spec_l20Set.f k b p ((d + 1 : Nat) : Int)) r := fun h => Ev.step (fun _ => spec_l20Set.f.eq_2 _ _ _ _) (ev_neg (by omega) (Ev.bind hv (by simp only [hv']; exact h)))
      by_cases c0 : u = 0
      · refine ⟨(⟨#[33]⟩ : ByteArray) ++ s1, p1, by rw [app_size]; omega, by rw [app_size]; show 1 + s1.size ≤ _; simp only [zS]; omega, by omega, by simp only [cS]; omega, base (Ev.step (fun _ => spec_l20Set.j0.eq_2 _ _ _ _ _) (ev_neg (by simp) (Ev.bind hu (ev_pos c0 ?_))))⟩
        rw [EW.out]
        exact Ev.bind hE1 (ev_pos (by dsimp only; omega) (Ev.now _))
      · by_cases c1 : u = 1
        · refine ⟨((((⟨#[40]⟩ : ByteArray) ++ s1) ++ (⟨#[38]⟩ : ByteArray)) ++ s2) ++ (⟨#[41]⟩ : ByteArray), p2, by simp only [app_size]; omega, by simp only [app_size]; show 1 + s1.size + 1 + s2.size + 1 ≤ _; simp only [zS]; omega, by omega, by simp only [cS]; omega, base (Ev.step (fun _ => spec_l20Set.j0.eq_2 _ _ _ _ _) (ev_neg (by simp) (Ev.bind hu (ev_neg c0 (ev_pos c1 ?_)))))⟩
          rw [EW.out]
          exact Ev.bind hE1 (ev_pos (by dsimp only; omega) (ev_pos (by dsimp only; omega) (Ev.bind hE2 (ev_pos (by dsimp only; omega) (ev_pos (by dsimp only; omega) (Ev.now _))))))
        · refine ⟨((((⟨#[40]⟩ : ByteArray) ++ s1) ++ (⟨#[124]⟩ : ByteArray)) ++ s2) ++ (⟨#[41]⟩ : ByteArray), p2, by simp only [app_size]; omega, by simp only [app_size]; show 1 + s1.size + 1 + s2.size + 1 ≤ _; simp only [zS]; omega, by omega, by simp only [cS]; omega, base (Ev.step (fun _ => spec_l20Set.j0.eq_2 _ _ _ _ _) (ev_neg (by simp) (Ev.bind hu (ev_neg c0 (ev_neg c1 ?_)))))⟩
          rw [EW.out]
          exact Ev.bind hE1 (ev_pos (by dsimp only; omega) (ev_pos (by dsimp only; omega) (Ev.bind hE2 (ev_pos (by dsimp only; omega) (ev_pos (by dsimp only; omega) (Ev.now _))))))
theorem plain_draw {b : List Int} (hb : Rdr b) (x p : Int) (hp0 : 0 ≤ p) (hp1 : p ≤ 900000) : ∃ (s : ByteArray) (p' : Int), 1 ≤ s.size ∧ s.size ≤ 40 ∧ p ≤ p' ∧ p' ≤ p + 30 ∧ Ev (fun k => spec_l20Sentence.j0 k x false b p) (s, p') := by
  obtain ⟨v, v0, v1, hv⟩ := pick_ok (p := p) (n := 10) hb hp0 (by omega) (by omega)
  obtain ⟨n, rfl⟩ := Int.eq_ofNat_of_zero_le v0
  have hn := names_size ⟨n, by omega⟩
  simp only at hn
  obtain ⟨s1, p1, a0, a1, a2, a3, hE1⟩ := set_draw hb 2 (p + 1) (by omega) (by simp only [cS]; omega) (by decide)
  obtain ⟨s2, p2, b0, b1, b2, b3, hE2⟩ := set_draw hb 2 p1 (by omega) (by simp only [cS] at a3 ⊢; omega) (by decide)
  simp only [cS, zS] at a1 a3 b1 b3
  have hl := names_len10
  obtain ⟨N, hN⟩ : ∃ N, (spec_l20Names.f).getD [] = N := ⟨_, rfl⟩
  have hok := names_ok
  rw [hN] at hok hl hn
  refine ⟨((((rdOf ByteArray.empty N (n : Int) ++ (⟨#[40]⟩ : ByteArray)) ++ s1) ++ (⟨#[44]⟩ : ByteArray)) ++ s2) ++ (⟨#[41]⟩ : ByteArray), p2, by simp only [app_size]; omega, by simp only [app_size]; show (rdOf ByteArray.empty N (n : Int)).size + 1 + s1.size + 1 + s2.size + 1 ≤ _; omega, by omega, by omega, ?_⟩
  refine Ev.step (fun _ => spec_l20Sentence.j0.eq_2 _ _ _ _ _) (ev_neg (by simp) (ev_bind hok (Ev.bind hv (ev_pos v0 (ev_pos (by dsimp only; omega) (ev_pos (by dsimp only; omega) (Ev.bind hE1 ?_)))))))
  exact ev_pos (by dsimp only; omega) (ev_pos (by dsimp only; omega) (Ev.bind hE2 (ev_pos (by dsimp only; omega) (ev_pos (by dsimp only; omega) (Ev.now _)))))
theorem sent_draw {b : List Int} (hb : Rdr b) : ∀ (d : Nat) (p : Int), 0 ≤ p → p + (cT d : Int) ≤ 900000 → zT d ≤ 1000 → ∃ (s : ByteArray) (p' : Int), 1 ≤ s.size ∧ s.size ≤ zT d ∧ p ≤ p' ∧ p' ≤ p + (cT d : Int) ∧ Ev (fun k => spec_l20Sentence.f k b p (d : Int)) (s, p')
  | 0, p, h0, h1, _ => by
    simp only [cT] at h1
    obtain ⟨s, p', a0, a1, a2, a3, hE⟩ := plain_draw hb 0 p h0 (by omega)
    exact ⟨s, p', a0, by simp only [zT]; omega, a2, by simp only [cT]; omega, Ev.step (fun _ => spec_l20Sentence.f.eq_2 _ _ _ _) (ev_neg (by simp) hE)⟩
  | d + 1, p, h0, h1, hz => by
    simp only [cT] at h1
    simp only [zT] at hz
    have hc := cT_ge d
    have hzz := zT_ge d
    obtain ⟨v, v0, v1, hv⟩ := pick_ok (p := p) (n := 3) hb h0 (by omega) (by omega)
    by_cases c : v = 0
    · subst c
      obtain ⟨u, u0, u1, hu⟩ := pick_ok (p := p + 1) (n := 2) hb (by omega) (by omega) (by omega)
      obtain ⟨s1, p1, a0, a1, a2, a3, hE1⟩ := sent_draw hb d (p + 1 + 1) (by omega) (by omega) (by omega)
      obtain ⟨t, t0, t1, ht⟩ := pick_ok (p := p1) (n := 2) hb (by omega) (by omega) (by omega)
      obtain ⟨s2, p2, b0, b1, b2, b3, hE2⟩ := sent_draw hb d (p1 + 1) (by omega) (by omega) (by omega)
      have EW : Aside0 (wrap64 (((d + 1 : Nat) : Int) - 1) = (d : Int)) := ⟨wdn (by omega)⟩
      by_cases c0 : u = 0
      · refine ⟨(⟨#[126]⟩ : ByteArray) ++ s1, p1, by rw [app_size]; omega, by rw [app_size]; show 1 + s1.size ≤ _; simp only [zT]; omega, by omega, by simp only [cT]; omega, Ev.step (fun _ => spec_l20Sentence.f.eq_2 _ _ _ _) (ev_pos (by omega) (Ev.bind hv (Ev.step (fun _ => spec_l20Sentence.j0.eq_2 _ _ _ _ _) (ev_pos rfl (Ev.bind hu (ev_pos c0 ?_))))))⟩
        rw [EW.out]
        exact Ev.bind hE1 (ev_pos (by dsimp only; omega) (Ev.now _))
      · obtain ⟨n, rfl⟩ := Int.eq_ofNat_of_zero_le t0
        have hn := signs_size ⟨n, by omega⟩
        simp only at hn
        refine ⟨((((⟨#[91]⟩ : ByteArray) ++ s1) ++ rdOf ByteArray.empty ([(⟨#[38]⟩ : ByteArray), (⟨#[124]⟩ : ByteArray)] : List ByteArray) (n : Int)) ++ s2) ++ (⟨#[93]⟩ : ByteArray), p2, by simp only [app_size]; omega, by simp only [app_size, hn]; show 1 + s1.size + 1 + s2.size + 1 ≤ _; simp only [zT]; omega, by omega, by simp only [cT]; omega, Ev.step (fun _ => spec_l20Sentence.f.eq_2 _ _ _ _) (ev_pos (by omega) (Ev.bind hv (Ev.step (fun _ => spec_l20Sentence.j0.eq_2 _ _ _ _ _) (ev_pos rfl (Ev.bind hu (ev_neg c0 ?_))))))⟩
        rw [EW.out]
        refine Ev.bind hE1 (ev_pos (by dsimp only; omega) (ev_bind rfl (Ev.bind ht (ev_pos t0 (ev_pos (by simp; omega) (ev_pos (by dsimp only; rw [hn]; omega) (Ev.bind hE2 ?_)))))))
        exact ev_pos (by dsimp only; rw [hn]; omega) (ev_pos (by dsimp only; rw [hn]; omega) (Ev.now _))
    · obtain ⟨s, p', a0, a1, a2, a3, hE⟩ := plain_draw hb ((d + 1 : Nat) : Int) (p + 1) (by omega) (by omega)
      have hv' : (v == 0) = false := by rw [beq_eq_false_iff_ne]; exact c
      exact ⟨s, p', a0, by simp only [zT]; omega, by omega, by simp only [cT]; omega, Ev.step (fun _ => spec_l20Sentence.f.eq_2 _ _ _ _) (ev_pos (by omega) (Ev.bind hv (by simp only [hv']; exact hE)))⟩
theorem text_draw {b : List Int} (hb : Rdr b) (p n : Int) (hp0 : 0 ≤ p) (hp1 : p ≤ 500000) (hn : 0 ≤ n) (hn1 : n ≤ 1000) : ∃ (s : ByteArray) (p' : Int), s.size ≤ 81 ∧ p ≤ p' ∧ p' ≤ p + 200 ∧ Ev (fun k => spec_l20Text.f k b p n) (s, p') := by
  obtain ⟨s, p1, a0, a1, a2, a3, hE⟩ := sent_draw hb 2 p hp0 (by simp only [cT]; omega) (by decide)
  simp only [cT] at a3
  have tail : ∀ t : ByteArray, 1 ≤ t.size → t.size ≤ 80 → ∃ (s : ByteArray) (p' : Int), s.size ≤ 81 ∧ p ≤ p' ∧ p' ≤ p + 200 ∧ Ev (fun k => spec_l20Text.j0 k n t b p1) (s, p') := by
    intro t t0 t1
    obtain ⟨v, p2, b0, b1, _, hv⟩ := odd_ok (p := p1) (n := n) hb (by omega) (by omega) hn (by omega)
    cases v with
    | false => exact ⟨t, p2, by omega, by omega, by omega, Ev.step (fun _ => spec_l20Text.j0.eq_2 _ _ _ _ _) (Ev.bind hv (ev_neg (by simp) (Ev.now _)))⟩
    | true =>
      obtain ⟨i, i0, i1, hi⟩ := pick_ok (p := p2) (n := (t.size : Int)) hb (by omega) (by omega) (by omega)
      obtain ⟨j, j0, j1, hj⟩ := pick_ok (p := p2 + 1) (n := 5) hb (by omega) (by omega) (by omega)
      obtain ⟨x, rfl⟩ := Int.eq_ofNat_of_zero_le i0
      obtain ⟨y, rfl⟩ := Int.eq_ofNat_of_zero_le j0
      have hy := spoils_size ⟨y, by omega⟩
      simp only at hy
      have e1 : (t.extract 0 ((x : Int)).toNat).size = x := by rw [ByteArray.size_extract, Int.toNat_natCast]; omega
      have e2 : (t.extract (((x + 1 : Nat) : Int)).toNat t.size).size = t.size - (x + 1) := by rw [ByteArray.size_extract, Int.toNat_natCast]; omega
      refine ⟨(t.extract 0 ((x : Int)).toNat ++ rdOf ByteArray.empty ([(⟨#[]⟩ : ByteArray), (⟨#[97]⟩ : ByteArray), (⟨#[40]⟩ : ByteArray), (⟨#[101]⟩ : ByteArray), (⟨#[126]⟩ : ByteArray)] : List ByteArray) (y : Int)) ++ t.extract (wrap64 ((x : Int) + 1)).toNat t.size, p2 + 1 + 1, ?_, by omega, by omega, Ev.step (fun _ => spec_l20Text.j0.eq_2 _ _ _ _ _) (Ev.bind hv (ev_pos rfl (Ev.bind hi (ev_pos i0 (ev_pos (by dsimp only; omega) (ev_bind rfl (Ev.bind hj (ev_pos j0 (ev_pos (by simp; omega) ?_)))))))))⟩
      rotate_left
      · refine ev_pos (by dsimp only; rw [e1]; omega) (ev_pos (by dsimp only; rw [wnx (by omega)]; omega) (ev_pos (by dsimp only; rw [wnx (by omega)]; omega) (ev_pos (by dsimp only; rw [wnx (by omega), e1, e2]; omega) (Ev.now _))))
      · skip
        rw [app_size, app_size, wnx (by omega), e1, e2]
        omega
  unfold spec_l20Text.f
  by_cases c : (s.size : Int) > 80
  · obtain ⟨s', p', h1, h2, h3, h4⟩ := tail (⟨#[101, 118, 101, 114, 121, 40, 97, 44, 40, 98, 124, 99, 41, 41]⟩ : ByteArray) (by decide) (by decide)
    exact ⟨s', p', h1, h2, h3, Ev.bind hE (ev_pos c h4)⟩
  · obtain ⟨s', p', h1, h2, h3, h4⟩ := tail s a0 (by omega)
    exact ⟨s', p', h1, h2, h3, Ev.bind hE (ev_neg c h4)⟩

theorem alive_t : laws_alive.f = some true := by decide +kernel

/-! pack sread: what the reference's reader says of a sentence -/
theorem sread {L : List Int} {s : ByteArray} {p : PT} (sg : Int) (h0 : -1 ≤ sg) (h1 : sg ≤ 1) (h : pread s = some p) (hL : setsOk L = true) : spec_l7Read.f L s 0 sg [] = some (truv L p, sgns sg p, (s.size : Int)) := by
  obtain ⟨_, _, h80, hp⟩ := psent_top h
  unfold spec_l7Read.f
  rw [if_pos ⟨hL, rfl, h0, h1, by omega, by simp⟩, hp]
  rfl

/-! pack sentmarks: the reference's text of the signs of a sentence -/
def way3 (x : Int) : Prop := x = -1 ∨ x = 0 ∨ x = 1
theorem way3_neg {w : Int} (h : way3 w) : way3 (-w) := by unfold way3 at h ⊢; omega
theorem way3_sig {w f : Int} (h : way3 w) (hf : f = -1 ∨ f = 0 ∨ f = 1) : way3 (w * f) := by
  rcases h with rfl | rfl | rfl <;> rcases hf with rfl | rfl | rfl <;> unfold way3 <;> decide
theorem sgn_way {p : PT} (h : SetT p) : ∀ w : Int, way3 w → ∀ x ∈ sgn w p, way3 x := by
  induction h with
  | leaf => intro w hw x hx; simp only [sgn, List.mem_singleton] at hx; rw [hx]; exact hw
  | one _ ih => intro w hw; exact ih (-w) (way3_neg hw)
  | two _ _ _ ih1 ih2 =>
    intro w hw x hx
    simp only [sgn, List.mem_append] at hx
    exact hx.elim (ih1 w hw x) (ih2 w hw x)
theorem sgns_way {p : PT} (h : SentT p) : ∀ w : Int, way3 w → ∀ x ∈ sgns w p, way3 x := by
  induction h with
  | one _ ih => intro w hw; exact ih (-w) (way3_neg hw)
  | two _ _ _ ih1 ih2 =>
    intro w hw x hx
    simp only [sgns, List.mem_append] at hx
    exact hx.elim (ih1 w hw x) (ih2 w hw x)
  | tri _ _ h1 h2 =>
    intro w hw x hx
    simp only [sgns, List.mem_append] at hx
    exact hx.elim (sgn_way h1 _ (way3_sig hw (sig_range _ _)) x) (sgn_way h2 _ (way3_sig hw (sig_range _ _)) x)
theorem rdmem {l : List Int} {i : Int} (h0 : 0 ≤ i) (h1 : i < (l.length : Int)) : rd l i ∈ l := by
  unfold rd
  rw [List.getD_eq_getElem?_getD, List.getElem?_eq_getElem (by omega)]
  exact List.getElem_mem _
theorem mtx_one (l : List Int) (x : Int) : mtx (l ++ [x]) = mtx l ++ ⟨#[mch x]⟩ := by rw [← mtx_append]; rfl
theorem marks_loop (l : List Int) (hw : ∀ x ∈ l, way3 x) (hl : l.length ≤ 1000000) (d : Nat) : ∀ i : Nat, i + d = l.length → Ev (fun k => spec_MarksOf.l0 k l (mtx (l.take i)) i) (mtx l) := by
  induction d with
  | zero =>
    intro i hi
    refine Ev.step (fun _ => spec_MarksOf.l0.eq_2 _ _ _ _) (ev_neg (by omega) (ev_now ?_))
    rw [List.take_of_length_le (by omega)]
  | succ d ih =>
    intro i hi
    refine Ev.step (fun _ => spec_MarksOf.l0.eq_2 _ _ _ _) (ev_pos (by omega) (ev_bind rfl (ev_pos (by omega) ?_)))
    have hx := hw _ (rdmem (l := l) (i := (i : Int)) (by omega) (by omega))
    have ht : l.take (i + 1) = l.take i ++ [rd l (i : Int)] := by
      rw [List.take_succ_eq_append_getElem (by omega)]
      unfold rd
      rw [Int.toNat_natCast, List.getD_eq_getElem?_getD, List.getElem?_eq_getElem (by omega)]
      rfl
    have hn := ih (i + 1) (by omega)
    rw [ht, mtx_one] at hn
    have hsz : (mtx (l.take i)).size ≤ 1000000 := by rw [mtx_size, List.length_take]; omega
    obtain ⟨X, hX⟩ : ∃ X, rd l (i : Int) = X := ⟨_, rfl⟩
    rw [hX] at hx hn ⊢
    rcases hx with rfl | rfl | rfl
    · rw [show wrap64 (-1 + 1) = 0 by unfold wrap64; omega]
      refine ev_pos (by decide) (ev_pos (by decide) (ev_pos ?_ ?_))
      · show (mtx (l.take i)).size + 1 ≤ _; omega
      · rw [w64 (by omega) (by omega)]; exact hn
    · rw [show wrap64 (0 + 1) = 1 by unfold wrap64; omega]
      refine ev_pos (by decide) (ev_pos (by decide) (ev_pos ?_ ?_))
      · show (mtx (l.take i)).size + 1 ≤ _; omega
      · rw [w64 (by omega) (by omega)]; exact hn
    · rw [show wrap64 (1 + 1) = 2 by unfold wrap64; omega]
      refine ev_pos (by decide) (ev_pos (by decide) (ev_pos ?_ ?_))
      · show (mtx (l.take i)).size + 1 ≤ _; omega
      · rw [w64 (by omega) (by omega)]; exact hn
def markM (s : ByteArray) : ByteArray := match pread s with | none => ⟨#[]⟩ | some p => mtx (sgns 1 p)
theorem smarks (s : ByteArray) (hs : s.size ≤ 17000000000000) : Ev (fun k => spec_MarksOf.f k s) (markM s) := by
  unfold spec_MarksOf.f
  have hk : spec_SentenceOk.f s = some (pread s).isSome := by unfold spec_SentenceOk.f; rw [if_pos hs]
  refine ev_bind hk ?_
  unfold markM
  cases hp : pread s with
  | none => exact ev_neg (by simp) (ev_now rfl)
  | some p =>
    obtain ⟨ht, hl, _, _⟩ := psent_top hp
    refine ev_pos rfl (ev_bind (sread 1 (by decide) (by decide) hp (by decide)) ?_)
    have hlen : (sgns 1 p).length ≤ 1000000 := by rw [sgns_len _ ht]; omega
    exact marks_loop (sgns 1 p) (sgns_way ht 1 (by unfold way3; omega)) hlen (sgns 1 p).length 0 (by omega)

/-! pack imarks -/
theorem imarks (s : ByteArray) : impl_MarksOf.f s = some (markM s) := rfl

/-! pack place: where the reference finds a letter -/
def dp (b deep : Int) : Int := if b = 40 then deep + 1 else if b = 41 then deep - 1 else deep
def hit (b deep : Int) : Prop := 0 < deep ∧ 97 ≤ b ∧ b ≤ 100
section
variable {s : ByteArray} {num cnt deep r : Int} {i : Nat}
theorem pl_j2 (hi : i < s.size) (x8 : Bool) : Ev (fun k => spec_l7Place.j3 k s num cnt deep i (x8 && decide (97 ≤ bt s i ∧ bt s i ≤ 100))) r → Ev (fun k => spec_l7Place.j2 k s num cnt deep i x8) r := by
  intro h
  refine Ev.step (fun _ => spec_l7Place.j2.eq_2 _ _ _ _ _ _ _) ?_
  cases x8 with
  | false => exact ev_neg (by simp) h
  | true =>
    refine ev_pos rfl (ev_pos (by omega) (ev_pos (by omega) ?_))
    by_cases c : bt s i ≥ 97
    · refine ev_pos c ?_
      rw [show decide (bt s (i : Int) < 101) = (true && decide (97 ≤ bt s i ∧ bt s i ≤ 100)) by rw [Bool.true_and, Bool.eq_iff_iff]; simp; omega]
      exact h
    · refine ev_neg c ?_
      rw [show false = (true && decide (97 ≤ bt s i ∧ bt s i ≤ 100)) by rw [Bool.true_and, Bool.eq_iff_iff]; simp; omega]
      exact h
theorem pl_l0 (hi : i < s.size) (hs : s.size ≤ 100000) (h0 : 0 ≤ deep) (h1 : deep ≤ 100000) : Ev (fun k => spec_l7Place.j3 k s num cnt (dp (bt s i) deep) i (decide (0 < deep) && decide (97 ≤ bt s i ∧ bt s i ≤ 100))) r → Ev (fun k => spec_l7Place.l0 k s num cnt deep i) r := by
  intro h
  refine Ev.step (fun _ => spec_l7Place.l0.eq_2 _ _ _ _ _ _) (ev_pos (by omega) (ev_pos (by omega) ?_))
  by_cases c : bt s i = 40
  · refine ev_pos c (Ev.step (fun _ => spec_l7Place.j1.eq_2 _ _ _ _ _ _ _) (ev_pos (by omega) (ev_pos (by omega) (ev_neg (by omega) ?_))))
    rw [w64 (by omega) (by omega)]
    unfold dp at h
    rw [if_pos c] at h
    exact pl_j2 hi _ h
  · refine ev_neg c (Ev.step (fun _ => spec_l7Place.j1.eq_2 _ _ _ _ _ _ _) (ev_pos (by omega) (ev_pos (by omega) ?_)))
    unfold dp at h
    rw [if_neg c] at h
    by_cases c2 : bt s i = 41
    · rw [if_pos c2] at h
      refine ev_pos c2 ?_
      rw [w64 (by omega) (by omega)]
      exact pl_j2 hi _ h
    · rw [if_neg c2] at h
      exact ev_neg c2 (pl_j2 hi _ h)
theorem pl_hit (hi : i < s.size) (hs : s.size ≤ 100000) (h0 : 0 ≤ deep) (h1 : deep ≤ 100000) (hh : hit (bt s i) deep) (hn : cnt = num) : Ev (fun k => spec_l7Place.l0 k s num cnt deep i) (i : Int) := by
  refine pl_l0 hi hs h0 h1 (Ev.step (fun _ => spec_l7Place.j3.eq_2 _ _ _ _ _ _ _) (ev_pos ?_ (ev_pos hn (ev_now rfl))))
  simp only [Bool.and_eq_true, decide_eq_true_eq]
  exact ⟨hh.1, hh.2⟩
theorem pl_next (hi : i < s.size) (hs : s.size ≤ 100000) (h0 : 0 ≤ deep) (h1 : deep ≤ 100000) (hc0 : 0 ≤ cnt) (hc1 : cnt ≤ 100000) (hh : hit (bt s i) deep) (hn : cnt ≠ num) (h : Ev (fun k => spec_l7Place.l0 k s num (cnt + 1) deep ((i + 1 : Nat) : Int)) r) : Ev (fun k => spec_l7Place.l0 k s num cnt deep i) r := by
  refine pl_l0 hi hs h0 h1 (Ev.step (fun _ => spec_l7Place.j3.eq_2 _ _ _ _ _ _ _) (ev_pos ?_ (ev_neg hn ?_)))
  · simp only [Bool.and_eq_true, decide_eq_true_eq]
    exact ⟨hh.1, hh.2⟩
  · rw [w64 (by omega) (by omega), w64 (by omega) (by omega)]
    have hd : dp (bt s i) deep = deep := by unfold dp; rw [if_neg (by have := hh.2; omega), if_neg (by have := hh.2; omega)]
    rw [hd]
    exact h
theorem pl_pass (hi : i < s.size) (hs : s.size ≤ 100000) (h0 : 0 ≤ deep) (h1 : deep ≤ 100000) (hh : ¬ hit (bt s i) deep) (h : Ev (fun k => spec_l7Place.l0 k s num cnt (dp (bt s i) deep) ((i + 1 : Nat) : Int)) r) : Ev (fun k => spec_l7Place.l0 k s num cnt deep i) r := by
  refine pl_l0 hi hs h0 h1 (Ev.step (fun _ => spec_l7Place.j3.eq_2 _ _ _ _ _ _ _) (ev_neg ?_ ?_))
  · simp only [Bool.and_eq_true, decide_eq_true_eq]
    exact hh
  · rw [w64 (by omega) (by omega)]
    exact h
end
def Scan (s : ByteArray) (p : PT) (a e : Nat) (deep : Int) : Prop := ∀ (num cnt : Int), 0 ≤ cnt → cnt ≤ a → cnt ≤ num →
  (num < cnt + lvs p → Ev (fun k => spec_l7Place.l0 k s num cnt deep (a : Int)) (rd (plcs p) (num - cnt))) ∧
  (cnt + lvs p ≤ num → ∀ r, Ev (fun k => spec_l7Place.l0 k s num (cnt + lvs p) deep (e : Int)) r → Ev (fun k => spec_l7Place.l0 k s num cnt deep (a : Int)) r)
theorem rd_app1 {l m : List Int} {i : Int} (h0 : 0 ≤ i) (h : i < (l.length : Int)) : rd (l ++ m) i = rd l i := by
  unfold rd
  rw [List.getD_eq_getElem?_getD, List.getD_eq_getElem?_getD, List.getElem?_append_left (by omega)]
theorem rd_app2 {l m : List Int} {i : Int} (h0 : 0 ≤ i) (h : (l.length : Int) ≤ i) : rd (l ++ m) i = rd m (i - l.length) := by
  unfold rd
  rw [List.getD_eq_getElem?_getD, List.getD_eq_getElem?_getD, List.getElem?_append_right (by omega)]
  congr 2
  omega
theorem scan_pass {s : ByteArray} {p : PT} {a e : Nat} {deep : Int} (hs : s.size ≤ 100000) (ha : a < s.size) (h0 : 0 ≤ deep) (h1 : deep ≤ 100000) (hh : ¬ hit (bt s a) deep) (hd : dp (bt s a) deep = deep) (h : Scan s p (a + 1) e deep) : Scan s p a e deep := by
  intro num cnt c0 c1 c2
  obtain ⟨h2, h3⟩ := h num cnt c0 (by omega) c2
  refine ⟨fun k => pl_pass ha hs h0 h1 hh (by rw [hd]; exact h2 k), fun k r hr => pl_pass ha hs h0 h1 hh (by rw [hd]; exact h3 k r hr)⟩
theorem scan_two {s : ByteArray} {x y : PT} {a a1 e : Nat} {deep : Int} (hs : s.size ≤ 100000) (h0 : 0 ≤ deep) (h1 : deep ≤ 100000) (ha1 : a1 < s.size) (hl : lvs x + a ≤ a1) (hh : ¬ hit (bt s a1) deep) (hd : dp (bt s a1) deep = deep) (hx : Scan s x a a1 deep) (hy : Scan s y (a1 + 1) e deep) :
    ∀ (num cnt : Int), 0 ≤ cnt → cnt ≤ a → cnt ≤ num →
      (num < cnt + (lvs x + lvs y : Nat) → Ev (fun k => spec_l7Place.l0 k s num cnt deep (a : Int)) (rd (plcs x ++ plcs y) (num - cnt))) ∧
      (cnt + (lvs x + lvs y : Nat) ≤ num → ∀ r, Ev (fun k => spec_l7Place.l0 k s num (cnt + (lvs x + lvs y : Nat)) deep (e : Int)) r → Ev (fun k => spec_l7Place.l0 k s num cnt deep (a : Int)) r) := by
  intro num cnt c0 c1 c2
  obtain ⟨k1, k2⟩ := hx num cnt c0 c1 c2
  have hlx := plcs_len x
  by_cases c : num < cnt + lvs x
  · refine ⟨fun _ => ?_, fun h => absurd h (by omega)⟩
    rw [rd_app1 (by omega) (by omega)]
    exact k1 c
  · have k3 := k2 (by omega)
    obtain ⟨k4, k5⟩ := hy num (cnt + lvs x) (by omega) (by omega) (by omega)
    refine ⟨fun h => ?_, fun h r hr => ?_⟩
    · rw [rd_app2 (by omega) (by omega)]
      refine k3 _ (pl_pass ha1 hs h0 h1 hh ?_)
      rw [hd, show num - cnt - ((plcs x).length : Int) = num - (cnt + lvs x) by omega]
      exact k4 (by omega)
    · refine k3 _ (pl_pass ha1 hs h0 h1 hh ?_)
      rw [hd]
      refine k5 (by omega) r ?_
      rw [show cnt + (lvs x : Int) + (lvs y : Int) = cnt + ((lvs x + lvs y : Nat) : Int) by omega]
      exact hr
theorem nohit {b deep : Int} (h : b < 97 ∨ 100 < b ∨ deep ≤ 0) : ¬ hit b deep := fun hh => by have := hh.1; have := hh.2; omega
theorem dp_same {b deep : Int} (h : b ≠ 40) (h2 : b ≠ 41) : dp b deep = deep := by unfold dp; rw [if_neg h, if_neg h2]
theorem scan_set (s : ByteArray) (hs : s.size ≤ 100000) : ∀ (n a : Nat) (p : PT) (e : Nat) (deep : Int), a ≤ s.size → pset n s a = some (p, e) → 1 ≤ deep → deep ≤ a → Scan s p a e deep
  | 0, a, p, e, deep, _, h, _, _ => by cases h
  | n + 1, a, p, e, deep, ha, h, h1, h2 => by
    unfold pset at h
    split at h
    · rename_i c
      obtain ⟨k1, k2⟩ := nxt_pos ha (show (nxt s a).1 ≠ 0 by omega)
      rw [nxt_lt k1] at h c
      simp only at h c
      injection h with h
      injection h with h h'
      subst h; subst h'
      have hh : hit (bt s a) deep := ⟨by omega, c⟩
      intro num cnt c0 c1 c2
      refine ⟨fun hk => ?_, fun hk r hr => ?_⟩
      · have hc : cnt = num := by simp only [lvs] at hk; omega
        subst hc
        rw [show cnt - cnt = 0 by omega]
        exact pl_hit k1 hs (by omega) (by omega) hh rfl
      · exact pl_next k1 hs (by omega) (by omega) c0 (by omega) hh (by simp only [lvs] at hk; omega) hr
    · split at h
      · rename_i c
        obtain ⟨k1, k2⟩ := nxt_pos ha (show (nxt s a).1 ≠ 0 by omega)
        rw [nxt_lt k1] at c
        simp only at c
        cases h3 : pset n s (a + 1) with
        | none => rw [h3] at h; cases h
        | some r =>
          obtain ⟨x, e'⟩ := r
          rw [h3] at h
          injection h with h
          injection h with h h'
          subst h; subst h'
          exact scan_pass (p := x) hs k1 (by omega) (by omega) (nohit (by omega)) (dp_same (by omega) (by omega)) (scan_set s hs n (a + 1) x _ deep k1 h3 h1 (by omega))
      · split at h
        · rename_i c
          obtain ⟨k1, k2⟩ := nxt_pos ha (show (nxt s a).1 ≠ 0 by omega)
          rw [nxt_lt k1] at c
          simp only at c
          obtain ⟨x, y, a1, a3, q1, q2, q3, q4, q5, q6⟩ := ptwo_two h
          have p1 := pset_place s n _ _ _ k1 q1
          obtain ⟨p2, p3⟩ := nxt_pos p1.2 (show (nxt s a1).1 ≠ 0 by omega)
          rw [p3] at q2
          rw [nxt_lt p2] at q3
          simp only at q3
          have p4 := pset_place s n _ _ _ p2 q2
          obtain ⟨p5, p6⟩ := nxt_pos p4.2 (show (nxt s a3).1 ≠ 0 by omega)
          rw [p6] at q6
          rw [nxt_lt p5] at q4
          simp only at q4
          have pl := (pset_ok s n _ _ _ k1 q1).2
          have pm := (pset_ok s n _ _ _ p2 q2).2
          subst q5; subst q6
          have hx := scan_set s hs n (a + 1) x a1 (deep + 1) k1 q1 (by omega) (by omega)
          have hy := scan_set s hs n (a1 + 1) y a3 (deep + 1) p2 q2 (by omega) (by omega)
          have hxy := scan_two (e := a3) hs (by omega) (by omega) p2 pl (nohit (by omega)) (dp_same (by omega) (by omega)) hx hy
          intro num cnt c0 c1 c2
          obtain ⟨m1, m2⟩ := hxy num cnt c0 (by omega) c2
          have hd0 : dp (bt s a) deep = deep + 1 := by unfold dp; rw [if_pos c]
          have hd3 : dp (bt s a3) (deep + 1) = deep := by unfold dp; rw [if_neg (by omega), if_pos q4]; omega
          refine ⟨fun hk => pl_pass k1 hs (by omega) (by omega) (nohit (by omega)) (by rw [hd0]; exact m1 hk), fun hk r hr => pl_pass k1 hs (by omega) (by omega) (nohit (by omega)) (by rw [hd0]; exact m2 hk r (pl_pass p5 hs (by omega) (by omega) (nohit (by omega)) (by rw [hd3]; exact hr)))⟩
        · cases h
theorem nms_bytes : ∀ e ∈ nms, ∀ b ∈ e.1, b ≠ 41 ∧ b ≠ 40 := by decide +kernel
theorem name_bytes {s : ByteArray} {a o : Nat} {t : List Int} (ha : a ≤ o) (ho : o ≤ s.size) (h : ntri (s.extract a o) = some t) (i : Nat) (h1 : a ≤ i) (h2 : i < o) : bt s (i : Int) ≠ 41 ∧ bt s (i : Int) ≠ 40 := by
  have hm := ntri_some h
  have hx : (s.extract a o).data.toList = (s.data.toList.take o).drop a := ext_toList s a o
  rw [hx] at hm
  have hl : s.data.toList.length = s.size := by rw [Array.length_toList]; rfl
  have hb : s.data.toList.getD i 0 ∈ (s.data.toList.take o).drop a := by
    rw [List.getD_eq_getElem?_getD, List.getElem?_eq_getElem (by omega)]
    rw [List.mem_iff_getElem?]
    refine ⟨i - a, ?_⟩
    rw [List.getElem?_drop, List.getElem?_take, if_pos (by omega), show a + (i - a) = i by omega, List.getElem?_eq_getElem (by omega)]
    rfl
  have hq := nms_bytes _ hm _ hb
  rw [bt_getD]
  constructor
  · intro he; exact hq.1 (UInt8.toNat.inj (by show _ = 41; omega))
  · intro he; exact hq.2 (UInt8.toNat.inj (by show _ = 40; omega))
theorem scan_name {s : ByteArray} (hs : s.size ≤ 100000) {num cnt r : Int} (o : Nat) (ho : o ≤ s.size) (d : Nat) : ∀ i : Nat, i + d = o → (∀ j : Nat, i ≤ j → j < o → bt s (j : Int) ≠ 41 ∧ bt s (j : Int) ≠ 40) → Ev (fun k => spec_l7Place.l0 k s num cnt 0 (o : Int)) r → Ev (fun k => spec_l7Place.l0 k s num cnt 0 (i : Int)) r := by
  induction d with
  | zero => intro i hi _ h; rw [show i = o by omega]; exact h
  | succ d ih =>
    intro i hi hb h
    have hbi := hb i (Nat.le_refl _) (by omega)
    refine pl_pass (by omega) hs (by omega) (by omega) (nohit (by omega)) ?_
    rw [dp_same hbi.2 hbi.1]
    exact ih (i + 1) (by omega) (fun j h1 h2 => hb j (by omega) h2) h
theorem scan_sent (s : ByteArray) (hs : s.size ≤ 100000) : ∀ (n a : Nat) (p : PT) (e : Nat), a ≤ s.size → psent n s a = some (p, e) → Scan s p a e 0
  | 0, a, p, e, _, h => by cases h
  | n + 1, a, p, e, ha, h => by
    by_cases c1 : (nxt s a).1 = 126
    · unfold psent at h
      rw [if_pos c1] at h
      obtain ⟨k1, k2⟩ := nxt_pos ha (show (nxt s a).1 ≠ 0 by omega)
      rw [nxt_lt k1] at c1
      simp only at c1
      cases h3 : psent n s (a + 1) with
      | none => rw [h3] at h; cases h
      | some r =>
        obtain ⟨x, e'⟩ := r
        rw [h3] at h
        injection h with h
        injection h with h h'
        subst h; subst h'
        exact scan_pass (p := x) hs k1 (by omega) (by omega) (nohit (by omega)) (dp_same (by omega) (by omega)) (scan_sent s hs n (a + 1) x _ k1 h3)
    · by_cases c : (nxt s a).1 = 91
      · unfold psent at h
        rw [if_neg c1, if_pos c] at h
        obtain ⟨k1, k2⟩ := nxt_pos ha (show (nxt s a).1 ≠ 0 by omega)
        rw [nxt_lt k1] at c
        simp only at c
        obtain ⟨x, y, a1, a3, q1, q2, q3, q4, q5, q6⟩ := ptwo_two h
        have p1 := psent_place s n _ _ _ k1 q1
        obtain ⟨p2, p3⟩ := nxt_pos p1.2 (show (nxt s a1).1 ≠ 0 by omega)
        rw [p3] at q2
        rw [nxt_lt p2] at q3
        simp only at q3
        have p4 := psent_place s n _ _ _ p2 q2
        obtain ⟨p5, p6⟩ := nxt_pos p4.2 (show (nxt s a3).1 ≠ 0 by omega)
        rw [p6] at q6
        rw [nxt_lt p5] at q4
        simp only at q4
        have pl := (psent_ok s n _ _ _ k1 q1).2
        subst q5; subst q6
        have hx := scan_sent s hs n (a + 1) x a1 k1 q1
        have hy := scan_sent s hs n (a1 + 1) y a3 p2 q2
        have hxy := scan_two (e := a3) hs (by omega) (by omega) p2 pl (nohit (by omega)) (dp_same (by omega) (by omega)) hx hy
        intro num cnt c0 c1 c2
        obtain ⟨m1, m2⟩ := hxy num cnt c0 (by omega) c2
        refine ⟨fun hk => pl_pass k1 hs (by omega) (by omega) (nohit (by omega)) (by rw [dp_same (by omega) (by omega)]; exact m1 hk), fun hk r hr => pl_pass k1 hs (by omega) (by omega) (nohit (by omega)) (by rw [dp_same (by omega) (by omega)]; exact m2 hk r (pl_pass p5 hs (by omega) (by omega) (nohit (by omega)) (by rw [dp_same (by omega) (by omega)]; exact hr)))⟩
      · rw [psent_tri c1 c] at h
        unfold ptri at h
        split at h
        · cases h
        · rename_i hn
          obtain ⟨o, o1, o2, o3, o4⟩ := open_spec s a ha
          rcases o4 with ⟨o4, _⟩ | ⟨_, o5, o6, o7⟩
          · exact absurd o4 hn
          · rw [← o5] at h
            cases h0 : ntri (s.extract a o) with
            | none => rw [h0] at h; cases h
            | some t =>
              rw [h0] at h
              simp only at h
              cases hq : ptwo (pset (s.size + 1) s) [44] 41 s (o + 1) with
              | none => rw [hq] at h; cases h
              | some r =>
                obtain ⟨r1, r2⟩ := r
                obtain ⟨x, y, a1, a3, q1, q2, q3, q4, q5, q6⟩ := ptwo_44 hq
                have p1 := pset_place s _ _ _ _ (show o + 1 ≤ s.size by omega) q1
                obtain ⟨p2, p3⟩ := nxt_pos p1.2 (show (nxt s a1).1 ≠ 0 by omega)
                rw [p3] at q2
                rw [nxt_lt p2] at q3
                simp only at q3
                have p4 := pset_place s _ _ _ _ p2 q2
                obtain ⟨p5, p6⟩ := nxt_pos p4.2 (show (nxt s a3).1 ≠ 0 by omega)
                rw [p6] at q6
                rw [nxt_lt p5] at q4
                simp only at q4
                have pl := (pset_ok s _ _ _ _ (show o + 1 ≤ s.size by omega) q1).2
                subst q5; subst q6
                rw [hq] at h
                simp only at h
                injection h with h
                injection h with h h'
                subst h; subst h'
                have hx := scan_set s hs _ (o + 1) x a1 1 (by omega) q1 (by omega) (by omega)
                have hy := scan_set s hs _ (a1 + 1) y a3 1 p2 q2 (by omega) (by omega)
                have hxy := scan_two (e := a3) hs (by omega) (by omega) p2 pl (nohit (by omega)) (dp_same (by omega) (by omega)) hx hy
                have hd0 : dp (bt s o) 0 = 1 := by unfold dp; rw [if_pos o7]; rfl
                have hd3 : dp (bt s a3) 1 = 0 := by unfold dp; rw [if_neg (by omega), if_pos q4]; rfl
                intro num cnt c0 c1 c2
                obtain ⟨m1, m2⟩ := hxy num cnt c0 (by omega) c2
                have hnb := fun (j : Nat) h1 h2 => name_bytes o1 o2 h0 j h1 h2
                refine ⟨fun hk => scan_name hs o o2 (o - a) a (by omega) hnb (pl_pass o6 hs (by omega) (by omega) (nohit (by omega)) (by rw [hd0]; exact m1 hk)), fun hk r hr => scan_name hs o o2 (o - a) a (by omega) hnb (pl_pass o6 hs (by omega) (by omega) (nohit (by omega)) (by rw [hd0]; exact m2 hk r (pl_pass p5 hs (by omega) (by omega) (nohit (by omega)) (by rw [hd3]; exact hr))))⟩
theorem splace {s : ByteArray} {p : PT} (h : pread s = some p) {num : Int} (h0 : 0 ≤ num) (h1 : num < (lvs p : Int)) : Ev (fun k => spec_l7Place.f k s num) (rd (plcs p) num) := by
  obtain ⟨_, _, h80, hp⟩ := psent_top h
  unfold spec_l7Place.f
  have := (scan_sent s (by omega) _ 0 p s.size (by omega) hp num 0 (by omega) (by omega) h0).1 (by omega)
  rw [show num - 0 = num by omega] at this
  exact this

/-! pack l1marks: bounds, and how many signs there are -/
theorem l1in (n lo hi : Int) : spec_l1In.f n lo hi = some (decide (lo ≤ n ∧ n ≤ hi)) := by
  unfold spec_l1In.f
  by_cases h : n ≥ lo
  · rw [if_pos h]; congr 1; rw [Bool.eq_iff_iff]; simp; omega
  · rw [if_neg h]; congr 1; rw [Bool.eq_iff_iff]; simp; omega
theorem markM_size {s : ByteArray} {p : PT} (h : pread s = some p) : (markM s).size = lvs p := by
  unfold markM
  rw [h]
  simp only
  rw [mtx_size, sgns_len _ (psent_top h).1]

/-! pack letters: which letter stands at a place -/
def letM (s : ByteArray) (n : Int) : Int := match pread s with | none => -1 | some p => if 0 ≤ n ∧ n < (lvs p : Int) then bt s (rd (plcs p) n) - 97 else -1
theorem ilet (s : ByteArray) (n : Int) : impl_LetterAt.f s n = some (letM s n) := rfl

/-! pack replaced: the reference's replacing -/
theorem lch_all : ∀ v : Fin 4, rdOf ByteArray.empty ([(⟨#[97]⟩ : ByteArray), (⟨#[98]⟩ : ByteArray), (⟨#[99]⟩ : ByteArray), (⟨#[100]⟩ : ByteArray)] : List ByteArray) (v.val : Int) = lch v.val ∧ (lch (v.val : Int)).size = 1 := by decide +kernel
theorem lch_eq {n : Int} (h0 : 0 ≤ n) (h1 : n < 4) : rdOf ByteArray.empty ([(⟨#[97]⟩ : ByteArray), (⟨#[98]⟩ : ByteArray), (⟨#[99]⟩ : ByteArray), (⟨#[100]⟩ : ByteArray)] : List ByteArray) n = lch n ∧ (lch n).size = 1 := by
  obtain ⟨v, rfl⟩ := Int.eq_ofNat_of_zero_le h0
  exact lch_all ⟨v, by omega⟩
theorem wnext {x : Nat} (h : x ≤ 17000000000000) : wrap64 ((x : Int) + 1) = ((x + 1 : Nat) : Int) := by unfold wrap64; omega
theorem irepl (s : ByteArray) (n l : Int) : impl_ReplacedIn.f s n l = some (impl_ReplacedIn.g s n l) := rfl
theorem srepl (s : ByteArray) (n l : Int) (hs : s.size ≤ 17000000000000) : Ev (fun k => spec_ReplacedIn.f k s n l) (impl_ReplacedIn.g s n l) := by
  unfold spec_ReplacedIn.f impl_ReplacedIn.g
  have hk : spec_SentenceOk.f s = some (pread s).isSome := by unfold spec_SentenceOk.f; rw [if_pos hs]
  refine ev_bind hk ?_
  cases hp : pread s with
  | none => exact ev_neg (by simp) (ev_now rfl)
  | some p =>
    have hl := (psent_top hp).2.1
    have hm := markM_size hp
    simp only
    refine ev_pos rfl (Ev.bind (smarks s hs) (ev_bind (l1in _ _ _) ?_))
    rw [hm, w64 (by omega) (by omega)]
    by_cases c : 0 ≤ n ∧ n < (lvs p : Int)
    · refine ev_pos (by simp; omega) (ev_bind (l1in _ _ _) ?_)
      by_cases d : 0 ≤ l ∧ l < 4
      · have hx := leafs_at (top_leafs hp) (rd (plcs p) n) (rd_mem c.1 (by rw [plcs_len]; exact c.2))
        rw [if_pos d, if_pos c]
        refine ev_pos (by simp; omega) (Ev.bind (splace hp c.1 c.2) ?_)
        obtain ⟨X, hX⟩ : ∃ X, rd (plcs p) n = X := ⟨_, rfl⟩
        rw [hX] at hx ⊢
        obtain ⟨x, rfl⟩ := Int.eq_ofNat_of_zero_le hx.1
        obtain ⟨e1, e2⟩ := lch_eq d.1 d.2
        have e3 : (s.extract 0 ((x : Int)).toNat).size = x := by rw [ByteArray.size_extract, Int.toNat_natCast]; omega
        have hx17 : x ≤ 17000000000000 := by omega
        have e5 : (s.extract (((x + 1 : Nat) : Int)).toNat s.size).size = s.size - (x + 1) := by rw [ByteArray.size_extract, Int.toNat_natCast]; omega
        refine ev_pos hx.1 (ev_pos (by omega) (ev_bind rfl (ev_pos d.1 (ev_pos (by simp; omega) ?_))))
        rw [e1, wnext hx17]
        refine ev_pos (by rw [e2, e3]; omega) (ev_pos (by omega) (ev_pos (by omega) (ev_pos (by rw [e2, e3, e5]; omega) (ev_now ?_))))
        unfold repl
        rw [Int.toNat_natCast, Int.toNat_natCast]
      · rw [if_neg d]
        exact ev_neg (by simp; omega) (ev_now rfl)
    · have hn : (if 0 ≤ l ∧ l < 4 then (if 0 ≤ n ∧ n < (lvs p : Int) then (repl s (rd (plcs p) n) l, true) else ((⟨#[]⟩ : ByteArray), false)) else ((⟨#[]⟩ : ByteArray), false)) = ((⟨#[]⟩ : ByteArray), false) := by
        rw [if_neg c]; split <;> rfl
      rw [hn]
      exact ev_neg (by simp; omega) (ev_now rfl)

/-! pack replaced2: a letter replaced by itself -/
theorem wone {n : Nat} (h : n ≤ 1000000) : wrap64 ((n : Int) + 1) = (n : Int) + 1 := by unfold wrap64; omega
theorem lch_byte : ∀ v : Fin 4, (lch (v.val : Int)).data.toList = [(97 + v.val).toUInt8] := by decide +kernel

/-! pack ints: the laws' copies and comparisons of rows of numbers -/

/-! pack senttrue: what the reference says of sets and of a sentence -/
def okv (x : Int) : Bool := decide (0 ≤ x ∧ x ≤ 7)
def trueM (L : List Int) (s : ByteArray) : Bool := match pread s with | none => false | some p => setsOk L && truv L p
theorem itrue (L : List Int) (s : ByteArray) : impl_TrueOf.f L s = some (trueM L s) := rfl

/-! pack foursets: the four drawn sets -/
def bothOk (a b : Nat) : Bool := match spec_l2Both.f 20 (a : Int) (b : Int) with
  | none => false
  | some v => decide (0 ≤ wrap64 (wrap64 ((a : Int) + b) - v) ∧ wrap64 (wrap64 ((a : Int) + b) - v) ≤ 7)
theorem both_all : ∀ a b : Fin 8, bothOk a.val b.val = true := by decide +kernel
theorem both_draw {a b : Int} (ha : 0 ≤ a) (ha1 : a < 8) (hb : 0 ≤ b) (hb1 : b < 8) : ∃ v, 0 ≤ wrap64 (wrap64 (a + b) - v) ∧ wrap64 (wrap64 (a + b) - v) < 8 ∧ Ev (fun k => spec_l2Both.f k a b) v := by
  obtain ⟨m, rfl⟩ := Int.eq_ofNat_of_zero_le ha
  obtain ⟨n, rfl⟩ := Int.eq_ofNat_of_zero_le hb
  have h := both_all ⟨m, by omega⟩ ⟨n, by omega⟩
  unfold bothOk at h
  simp only at h
  split at h
  · exact absurd h (by simp)
  · rename_i v hv
    have h2 := of_decide_eq_true h
    exact ⟨v, h2.1, by omega, Ev.of (spec_l2Both.mono _ _) hv⟩
def four (L : List Int) : Prop := L.length = 3 ∨ ∃ a b c d : Fin 8, L = [(a.val : Int), (b.val : Int), (c.val : Int), (d.val : Int)]
theorem four_mk {a b c d : Int} (a0 : 0 ≤ a) (a1 : a < 8) (b0 : 0 ≤ b) (b1 : b < 8) (c0 : 0 ≤ c) (c1 : c < 8) (d0 : 0 ≤ d) (d1 : d < 8) : four [a, b, c, d] := by
  obtain ⟨m, rfl⟩ := Int.eq_ofNat_of_zero_le a0
  obtain ⟨n, rfl⟩ := Int.eq_ofNat_of_zero_le b0
  obtain ⟨x, rfl⟩ := Int.eq_ofNat_of_zero_le c0
  obtain ⟨y, rfl⟩ := Int.eq_ofNat_of_zero_le d0
  exact .inr ⟨⟨m, by omega⟩, ⟨n, by omega⟩, ⟨x, by omega⟩, ⟨y, by omega⟩, rfl⟩
theorem sets_draw {b : List Int} (hb : Rdr b) (p : Int) (h0 : 0 ≤ p) (h1 : p ≤ 900000) : ∃ L p', four L ∧ p ≤ p' ∧ p' ≤ p + 10 ∧ Ev (fun k => spec_l20FourSets.f k b p 14) (L, p') := by
  obtain ⟨x, x0, x1, hx⟩ := pick_ok (p := p) (n := 8) hb (by omega) (by omega) (by omega)
  obtain ⟨y, y0, y1, hy⟩ := pick_ok (p := p + 1) (n := 8) hb (by omega) (by omega) (by omega)
  obtain ⟨z, z0, z1, hz⟩ := pick_ok (p := p + 1 + 1) (n := 8) hb (by omega) (by omega) (by omega)
  obtain ⟨u, u0, u1, hu⟩ := pick_ok (p := p + 1 + 1 + 1) (n := 8) hb (by omega) (by omega) (by omega)
  obtain ⟨v, v0, v1, hv⟩ := pick_ok (p := p + 1 + 1 + 1 + 1) (n := 2) hb (by omega) (by omega) (by omega)
  obtain ⟨o, p', o0, o1, _, ho⟩ := odd_ok hb (p := p + 1 + 1 + 1 + 1 + 1) (n := 14) (by omega) (by omega) (by omega) (by omega)
  obtain ⟨t, t0, t1, ht⟩ := both_draw x0 x1 y0 y1
  have base : ∀ {r : List Int × Int}, four r.1 → p ≤ r.2 → r.2 ≤ p + 10 → Ev (fun k => spec_l20FourSets.f k b p 14) r → ∃ L p', four L ∧ p ≤ p' ∧ p' ≤ p + 10 ∧ Ev (fun k => spec_l20FourSets.f k b p 14) (L, p') := fun {r} a b c d => ⟨r.1, r.2, a, b, c, d⟩
  by_cases c : v = 0
  · cases o with
    | true => exact base (r := ([x, wrap64 (wrap64 (x + y) - t), z], p')) (.inl rfl) (by omega) (by omega) (by
        unfold spec_l20FourSets.f
        exact Ev.bind hx (Ev.bind hy (Ev.bind hz (Ev.bind hu (ev_bind rfl (Ev.bind hv (ev_pos c (ev_pos (by simp) (ev_pos (by simp) (Ev.bind ht (ev_bind rfl (Ev.bind ho (ev_pos rfl (ev_pos (by simp) (ev_now rfl)))))))))))))))
    | false => exact base (r := ([x, wrap64 (wrap64 (x + y) - t), z, u], p')) (four_mk x0 x1 t0 t1 z0 z1 u0 u1) (by omega) (by omega) (by
        unfold spec_l20FourSets.f
        exact Ev.bind hx (Ev.bind hy (Ev.bind hz (Ev.bind hu (ev_bind rfl (Ev.bind hv (ev_pos c (ev_pos (by simp) (ev_pos (by simp) (Ev.bind ht (ev_bind rfl (Ev.bind ho (ev_neg (by simp) (ev_now rfl))))))))))))))
  · cases o with
    | true => exact base (r := ([x, y, z], p')) (.inl rfl) (by omega) (by omega) (by
        unfold spec_l20FourSets.f
        exact Ev.bind hx (Ev.bind hy (Ev.bind hz (Ev.bind hu (ev_bind rfl (Ev.bind hv (ev_neg c (Ev.bind ho (ev_pos rfl (ev_pos (by simp) (ev_now rfl)))))))))))
    | false => exact base (r := ([x, y, z, u], p')) (four_mk x0 x1 y0 y1 z0 z1 u0 u1) (by omega) (by omega) (by
        unfold spec_l20FourSets.f
        exact Ev.bind hx (Ev.bind hy (Ev.bind hz (Ev.bind hu (ev_bind rfl (Ev.bind hv (ev_neg c (Ev.bind ho (ev_neg (by simp) (ev_now rfl))))))))))

/-! pack turnbt: a sign's byte -/
theorem mtx_bt (l : List Int) (i : Nat) (h : i < l.length) : bt (mtx l) (i : Int) = ((mch (rd l (i : Int))).toNat : Int) := by
  rw [bt_getD]
  unfold mtx rd
  rw [Int.toNat_natCast, List.toList_toArray, List.getD_eq_getElem?_getD, List.getD_eq_getElem?_getD, List.getElem?_map, List.getElem?_eq_getElem h]
  rfl

/-! pack alt: a sentence with another letter at one of its places -/
def Rng : PT → Nat → Nat → Prop
  | .leaf _ j, a, e => a ≤ j ∧ j < e
  | .one _ p, a, e => Rng p a e
  | .two _ p q, a, e => ∃ m, a ≤ m ∧ m ≤ e ∧ Rng p a m ∧ Rng q m e
  | .tri _ p q, a, e => ∃ m, a ≤ m ∧ m ≤ e ∧ Rng p a m ∧ Rng q m e
theorem Rng.mono : ∀ {p : PT} {a e a' e' : Nat}, Rng p a e → a' ≤ a → e ≤ e' → Rng p a' e'
  | .leaf _ _, _, _, _, _, h, h1, h2 => ⟨by have := h.1; omega, by have := h.2; omega⟩
  | .one _ p, _, _, _, _, h, h1, h2 => Rng.mono (p := p) h h1 h2
  | .two _ p q, _, _, _, _, ⟨m, k1, k2, k3, k4⟩, h1, h2 => ⟨m, by omega, by omega, Rng.mono k3 h1 (Nat.le_refl _), Rng.mono k4 (Nat.le_refl _) h2⟩
  | .tri _ p q, _, _, _, _, ⟨m, k1, k2, k3, k4⟩, h1, h2 => ⟨m, by omega, by omega, Rng.mono k3 h1 (Nat.le_refl _), Rng.mono k4 (Nat.le_refl _) h2⟩
theorem Rng.mem : ∀ {p : PT} {a e : Nat}, Rng p a e → ∀ x ∈ plcs p, (a : Int) ≤ x ∧ x < (e : Int)
  | .leaf _ j, _, _, h, x, hx => by
    simp only [plcs, List.mem_singleton] at hx
    subst hx
    have := h.1; have := h.2; omega
  | .one _ p, _, _, h, x, hx => Rng.mem (p := p) h x hx
  | .two _ p q, _, _, ⟨m, k1, k2, k3, k4⟩, x, hx => by
    simp only [plcs, List.mem_append] at hx
    rcases hx with hx | hx
    · have := Rng.mem k3 x hx; omega
    · have := Rng.mem k4 x hx; omega
  | .tri _ p q, _, _, ⟨m, k1, k2, k3, k4⟩, x, hx => by
    simp only [plcs, List.mem_append] at hx
    rcases hx with hx | hx
    · have := Rng.mem k3 x hx; omega
    · have := Rng.mem k4 x hx; omega
theorem pset_rng (s : ByteArray) : ∀ n a p e, a ≤ s.size → pset n s a = some (p, e) → Rng p a e
  | 0, a, p, e, _, h => by cases h
  | n + 1, a, p, e, ha, h => by
    unfold pset at h
    split at h
    · injection h with h
      injection h with h h'
      subst h; subst h'
      exact ⟨by omega, by omega⟩
    · split at h
      · rename_i c
        obtain ⟨k1, k2⟩ := nxt_pos ha (show (nxt s a).1 ≠ 0 by omega)
        cases h3 : pset n s (a + 1) with
        | none => rw [h3] at h; cases h
        | some r =>
          obtain ⟨x, e'⟩ := r
          rw [h3] at h
          injection h with h
          injection h with h h'
          subst h; subst h'
          exact Rng.mono (p := x) (pset_rng s n (a + 1) x _ k1 h3) (by omega) (by omega)
      · split at h
        · rename_i c
          obtain ⟨k1, k2⟩ := nxt_pos ha (show (nxt s a).1 ≠ 0 by omega)
          obtain ⟨x, y, a1, a3, q1, q2, q3, q4, q5, q6⟩ := ptwo_two h
          have p1 := pset_place s n _ _ _ k1 q1
          obtain ⟨p2, p3⟩ := nxt_pos p1.2 (show (nxt s a1).1 ≠ 0 by omega)
          rw [p3] at q2
          have p4 := pset_place s n _ _ _ p2 q2
          obtain ⟨p5, p6⟩ := nxt_pos p4.2 (show (nxt s a3).1 ≠ 0 by omega)
          rw [p6] at q6
          subst q5; subst q6
          exact ⟨a1, by omega, by omega, (pset_rng s n _ _ _ k1 q1).mono (by omega) (by omega), (pset_rng s n _ _ _ p2 q2).mono (by omega) (by omega)⟩
        · cases h
theorem psent_rng (s : ByteArray) : ∀ n a p e, a ≤ s.size → psent n s a = some (p, e) → Rng p a e
  | 0, a, p, e, _, h => by cases h
  | n + 1, a, p, e, ha, h => by
    by_cases c1 : (nxt s a).1 = 126
    · unfold psent at h
      rw [if_pos c1] at h
      obtain ⟨k1, k2⟩ := nxt_pos ha (show (nxt s a).1 ≠ 0 by omega)
      cases h3 : psent n s (a + 1) with
      | none => rw [h3] at h; cases h
      | some r =>
        obtain ⟨x, e'⟩ := r
        rw [h3] at h
        injection h with h
        injection h with h h'
        subst h; subst h'
        exact Rng.mono (p := x) (psent_rng s n (a + 1) x _ k1 h3) (by omega) (by omega)
    · by_cases c : (nxt s a).1 = 91
      · unfold psent at h
        rw [if_neg c1, if_pos c] at h
        obtain ⟨k1, k2⟩ := nxt_pos ha (show (nxt s a).1 ≠ 0 by omega)
        obtain ⟨x, y, a1, a3, q1, q2, q3, q4, q5, q6⟩ := ptwo_two h
        have p1 := psent_place s n _ _ _ k1 q1
        obtain ⟨p2, p3⟩ := nxt_pos p1.2 (show (nxt s a1).1 ≠ 0 by omega)
        rw [p3] at q2
        have p4 := psent_place s n _ _ _ p2 q2
        obtain ⟨p5, p6⟩ := nxt_pos p4.2 (show (nxt s a3).1 ≠ 0 by omega)
        rw [p6] at q6
        subst q5; subst q6
        exact ⟨a1, by omega, by omega, (psent_rng s n _ _ _ k1 q1).mono (by omega) (by omega), (psent_rng s n _ _ _ p2 q2).mono (by omega) (by omega)⟩
      · rw [psent_tri c1 c] at h
        unfold ptri at h
        split at h
        · cases h
        · rename_i hn
          have hl := openAt_lt s a ha
          cases h0 : ntri (s.extract a (a + (openAt s a).toNat)) with
          | none => rw [h0] at h; cases h
          | some t =>
            rw [h0] at h
            simp only at h
            cases hq : ptwo (pset (s.size + 1) s) [44] 41 s (a + (openAt s a).toNat + 1) with
            | none => rw [hq] at h; cases h
            | some r =>
              obtain ⟨r1, r2⟩ := r
              obtain ⟨x, y, a1, a3, q1, q2, q3, q4, q5, q6⟩ := ptwo_44 hq
              have k1 : a + (openAt s a).toNat + 1 ≤ s.size := by omega
              have p1 := pset_place s _ _ _ _ k1 q1
              obtain ⟨p2, p3⟩ := nxt_pos p1.2 (show (nxt s a1).1 ≠ 0 by omega)
              rw [p3] at q2
              have p4 := pset_place s _ _ _ _ p2 q2
              obtain ⟨p5, p6⟩ := nxt_pos p4.2 (show (nxt s a3).1 ≠ 0 by omega)
              rw [p6] at q6
              subst q5; subst q6
              rw [hq] at h
              simp only at h
              injection h with h
              injection h with h h'
              subst h; subst h'
              exact ⟨a1, by omega, by omega, (pset_rng s _ _ _ _ k1 q1).mono (by omega) (by omega), (pset_rng s _ _ _ _ p2 q2).mono (by omega) (by omega)⟩
def put (i : Nat) (v : Int) : PT → PT
  | .leaf c j => if j = i then .leaf v j else .leaf c j
  | .one c p => .one c (put i v p)
  | .two c p q => .two c (put i v p) (put i v q)
  | .tri t p q => .tri t (put i v p) (put i v q)
def putr (i : Nat) (v : Int) (r : PT × Nat) : PT × Nat := (put i v r.1, r.2)
theorem put_id {i : Nat} {v : Int} : ∀ {p : PT} {a e : Nat}, Rng p a e → (i < a ∨ e ≤ i) → put i v p = p
  | .leaf c j, a, e, h, k => by
    have := h.1; have := h.2
    simp only [put]
    rw [if_neg (by omega)]
  | .one c p, a, e, h, k => by simp only [put]; rw [put_id (p := p) h k]
  | .two c p q, a, e, ⟨m, k1, k2, k3, k4⟩, k => by simp only [put]; rw [put_id k3 (by omega), put_id k4 (by omega)]
  | .tri c p q, a, e, ⟨m, k1, k2, k3, k4⟩, k => by simp only [put]; rw [put_id k3 (by omega), put_id k4 (by omega)]
theorem put_leaf (i : Nat) (v : Int) (c : Int) (j : Nat) : ∃ d, put i v (.leaf c j) = .leaf d j := by
  simp only [put]; split
  · exact ⟨v, rfl⟩
  · exact ⟨c, rfl⟩
theorem sgn_put (i : Nat) (v : Int) : ∀ (w : Int) (p : PT), sgn w (put i v p) = sgn w p
  | w, .leaf c j => by obtain ⟨d, h⟩ := put_leaf i v c j; rw [h]; rfl
  | w, .one _ p => by simp only [put, sgn, sgn_put i v (-w) p]
  | w, .two _ p q => by simp only [put, sgn, sgn_put i v w p, sgn_put i v w q]
  | _, .tri _ _ _ => rfl
theorem sgns_put (i : Nat) (v : Int) : ∀ (w : Int) (p : PT), sgns w (put i v p) = sgns w p
  | w, .leaf c j => by obtain ⟨d, h⟩ := put_leaf i v c j; rw [h]; rfl
  | w, .one _ p => by simp only [put, sgns, sgns_put i v (-w) p]
  | w, .two _ p q => by simp only [put, sgns, sgns_put i v w p, sgns_put i v w q]
  | w, .tri _ p q => by simp only [put, sgns, sgn_put]
theorem len_toList (c : ByteArray) : c.data.toList.length = c.size := by rw [Array.length_toList]; rfl
structure Alt (s t : ByteArray) (i : Nat) (v : Int) : Prop where
  size : t.size = s.size
  lt : i < s.size
  old : 97 ≤ bt s (i : Int) ∧ bt s (i : Int) ≤ 100
  new : bt t (i : Int) = v
  rng : 97 ≤ v ∧ v ≤ 100
  same : ∀ j : Nat, j ≠ i → t.data.toList[j]? = s.data.toList[j]?
theorem Alt.byte {s t : ByteArray} {i : Nat} {v : Int} (H : Alt s t i v) (j : Nat) (h : j ≠ i) : bt t (j : Int) = bt s (j : Int) := by
  rw [bt_getD, bt_getD, List.getD_eq_getElem?_getD, List.getD_eq_getElem?_getD, H.same j h]
theorem Alt.nx {s t : ByteArray} {i : Nat} {v : Int} (H : Alt s t i v) (j : Nat) (h : j ≠ i) : nxt t j = nxt s j := by
  by_cases c : j < s.size
  · rw [nxt_lt c, nxt_lt (by rw [H.size]; exact c), H.byte j h]
  · rw [nxt_end c, nxt_end (by rw [H.size]; exact c)]
theorem Alt.nx1 {s t : ByteArray} {i : Nat} {v : Int} (H : Alt s t i v) : nxt t i = (v, i + 1) := by
  rw [nxt_lt (by rw [H.size]; exact H.lt), H.new]
theorem Alt.nx0 {s t : ByteArray} {i : Nat} {v : Int} (H : Alt s t i v) : nxt s i = (bt s (i : Int), i + 1) := nxt_lt H.lt
theorem Alt.ext {s t : ByteArray} {i : Nat} {v : Int} (H : Alt s t i v) (a b : Nat) (h : i < a ∨ b ≤ i) : t.extract a b = s.extract a b := by
  have : (t.extract a b).data.toList = (s.extract a b).data.toList := by
    rw [ext_toList, ext_toList]
    apply List.ext_getElem?
    intro k
    rw [List.getElem?_drop, List.getElem?_drop, List.getElem?_take, List.getElem?_take]
    by_cases c : a + k < b
    · rw [if_pos c, if_pos c, H.same _ (by omega)]
    · rw [if_neg c, if_neg c]
  rw [bytes_of this, ← bytes_of (x := s.extract a b) rfl]
theorem ptwo_alt {s t : ByteArray} {i : Nat} {v : Int} (H : Alt s t i v) {par par' : Nat → Option (PT × Nat)} (h : ∀ x, par' x = (par x).map (putr i v)) {sg : List UInt8} {en : Int} (hs : ∀ z : Int, 97 ≤ z → z ≤ 100 → Lib.indexByte sg z.toNat.toUInt8 < 0) (he : en < 97) (a : Nat) : ptwo par' sg en t a = (ptwo par sg en s a).map (putr i v) := by
  unfold ptwo
  rw [h]
  cases h1 : par a with
  | none => rfl
  | some r =>
    obtain ⟨x, a1⟩ := r
    simp only [Option.map_some, putr]
    by_cases c1 : a1 = i
    · subst c1
      rw [H.nx1, H.nx0]
      simp only
      rw [if_pos (hs _ H.rng.1 H.rng.2), if_pos (hs _ H.old.1 H.old.2)]
      rfl
    · rw [H.nx a1 c1]
      split
      · rfl
      · rw [h]
        cases h2 : par (nxt s a1).2 with
        | none => rfl
        | some r =>
          obtain ⟨y, a3⟩ := r
          simp only [Option.map_some, putr]
          by_cases c3 : a3 = i
          · subst c3
            rw [H.nx1, H.nx0]
            simp only
            rw [if_neg (by have := H.rng; omega), if_neg (by have := H.old; omega)]
            rfl
          · rw [H.nx a3 c3]
            split <;> rfl
theorem let2 (z : Int) (h0 : 97 ≤ z) (h1 : z ≤ 100) : Lib.indexByte [38, 124] z.toNat.toUInt8 < 0 := (ind2 (by omega) (by omega)).2 (by omega)
theorem let1 (z : Int) (h0 : 97 ≤ z) (h1 : z ≤ 100) : Lib.indexByte [44] z.toNat.toUInt8 < 0 := (ind1 (by omega) (by omega)).2 (by omega)
theorem pset_alt {s t : ByteArray} {i : Nat} {v : Int} (H : Alt s t i v) : ∀ n a, pset n t a = (pset n s a).map (putr i v)
  | 0, a => rfl
  | n + 1, a => by
    unfold pset
    by_cases c : a = i
    · subst c
      rw [H.nx1, H.nx0]
      simp only
      rw [if_pos H.rng, if_pos H.old]
      simp only [Option.map_some, putr, put, if_true]
    · rw [H.nx a c]
      split
      · simp only [Option.map_some, putr, put]
        rw [if_neg c]
      · split
        · rw [pset_alt H n (a + 1)]
          cases pset n s (a + 1) with
          | none => rfl
          | some r => rfl
        · split
          · exact ptwo_alt H (fun x => pset_alt H n x) let2 (by decide) (a + 1)
          · rfl
theorem psent_alt {s t : ByteArray} {i : Nat} {v : Int} (H : Alt s t i v) : ∀ n a p e, a ≤ s.size → psent n s a = some (p, e) → (i < a ∨ e ≤ i ∨ (i : Int) ∈ plcs p) → psent n t a = some (put i v p, e)
  | 0, a, p, e, _, h, _ => by cases h
  | n + 1, a, p, e, ha, h, hi => by
    have hold := H.old
    by_cases c1 : (nxt s a).1 = 126
    · have ca : a ≠ i := fun ca => by subst ca; rw [H.nx0] at c1; simp only at c1; omega
      unfold psent at h ⊢
      rw [H.nx a ca, if_pos c1]
      rw [if_pos c1] at h
      obtain ⟨k1, k2⟩ := nxt_pos ha (show (nxt s a).1 ≠ 0 by omega)
      cases h3 : psent n s (a + 1) with
      | none => rw [h3] at h; cases h
      | some r =>
        obtain ⟨x, e'⟩ := r
        rw [h3] at h
        injection h with h
        injection h with h h'
        subst h; subst h'
        rw [psent_alt H n (a + 1) x _ k1 h3 (hi.imp (fun h => by omega) id)]
        rfl
    · by_cases c : (nxt s a).1 = 91
      · have ca : a ≠ i := fun ca => by subst ca; rw [H.nx0] at c; simp only at c; omega
        unfold psent at h ⊢
        rw [H.nx a ca, if_neg c1, if_pos c]
        rw [if_neg c1, if_pos c] at h
        obtain ⟨k1, k2⟩ := nxt_pos ha (show (nxt s a).1 ≠ 0 by omega)
        obtain ⟨x, y, a1, a3, q1, q2, q3, q4, q5, q6⟩ := ptwo_two h
        have p1 := psent_place s n _ _ _ k1 q1
        obtain ⟨p2, p3⟩ := nxt_pos p1.2 (show (nxt s a1).1 ≠ 0 by omega)
        have q2' := q2
        rw [p3] at q2
        have p4 := psent_place s n _ _ _ p2 q2
        obtain ⟨p5, p6⟩ := nxt_pos p4.2 (show (nxt s a3).1 ≠ 0 by omega)
        rw [p6] at q6
        have r1 := psent_rng s n _ _ _ k1 q1
        have r2 := psent_rng s n _ _ _ p2 q2
        have n1 : a1 ≠ i := fun ca => by subst ca; rw [H.nx0] at q3; simp only at q3; omega
        have n3 : a3 ≠ i := fun ca => by subst ca; rw [H.nx0] at q4; simp only at q4; omega
        have hx : i < a + 1 ∨ a1 ≤ i ∨ (i : Int) ∈ plcs x := by
          rcases hi with hi | hi | hi
          · omega
          · omega
          · rw [q5] at hi
            simp only [plcs, List.mem_append] at hi
            rcases hi with hi | hi
            · exact .inr (.inr hi)
            · have := r2.mem _ hi; omega
        have hy : i < a1 + 1 ∨ a3 ≤ i ∨ (i : Int) ∈ plcs y := by
          rcases hi with hi | hi | hi
          · omega
          · omega
          · rw [q5] at hi
            simp only [plcs, List.mem_append] at hi
            rcases hi with hi | hi
            · have := r1.mem _ hi; omega
            · exact .inr (.inr hi)
        have e1 := psent_alt H n (a + 1) x a1 k1 q1 hx
        have e2 := psent_alt H n (a1 + 1) y a3 p2 q2 hy
        have hs : ¬ Lib.indexByte [38, 124] (nxt s a1).1.toNat.toUInt8 < 0 := fun hh => by
          have hr := nxt_range s a1
          exact (ind2 hr.1 hr.2).1 hh q3
        rw [← p3] at e2
        rw [ptwo_y e1 (by rw [H.nx a1 n1]; exact hs) (by rw [H.nx a1 n1]; exact e2) (by rw [H.nx a3 n3]; exact q4), H.nx a1 n1, H.nx a3 n3, p6, q5, q6]
        rfl
      · rw [psent_tri c1 c] at h
        unfold ptri at h
        split at h
        · cases h
        · rename_i hn
          obtain ⟨o, o1, o2, o3, o4⟩ := open_spec s a ha
          rcases o4 with ⟨o4, _⟩ | ⟨_, o5, o6, o7⟩
          · exact absurd o4 hn
          · have hsz := H.size
            obtain ⟨o', w1, w2, w3, w4⟩ := open_spec t a (by omega)
            have oi : o ≠ i := fun ca => by subst ca; omega
            have hv : bt t (i : Int) ≠ 40 := by rw [H.new]; have := H.rng; omega
            have hoo : o' = o := by
              rcases Nat.lt_trichotomy o' o with c | c | c
              · rcases w4 with ⟨_, w5⟩ | ⟨_, _, _, w7⟩
                · omega
                · have : o' ≠ i := fun ca => by subst ca; exact hv w7
                  rw [H.byte o' this] at w7
                  exact absurd w7 (o3 o' w1 c)
              · exact c
              · have := w3 o o1 c
                rw [H.byte o oi] at this
                exact absurd o7 this
            subst hoo
            rcases w4 with ⟨_, w5⟩ | ⟨wn, w5, _, _⟩
            · omega
            · rw [← o5] at h
              cases h0 : ntri (s.extract a o') with
              | none => rw [h0] at h; cases h
              | some tt =>
                rw [h0] at h
                simp only at h
                cases hq : ptwo (pset (s.size + 1) s) [44] 41 s (o' + 1) with
                | none => rw [hq] at h; cases h
                | some r =>
                  obtain ⟨r1, r2⟩ := r
                  have hq' := ptwo_alt H (fun x => pset_alt H (s.size + 1) x) (sg := [44]) (en := 41) let1 (by decide) (o' + 1)
                  rw [hq] at hq'
                  obtain ⟨x, y, a1, a3, q1, q2, q3, q4, q5, q6⟩ := ptwo_44 hq
                  have k1 : o' + 1 ≤ s.size := by omega
                  have p1 := pset_place s _ _ _ _ k1 q1
                  obtain ⟨p2, p3⟩ := nxt_pos p1.2 (show (nxt s a1).1 ≠ 0 by omega)
                  rw [p3] at q2
                  have p4 := pset_place s _ _ _ _ p2 q2
                  obtain ⟨p5, p6⟩ := nxt_pos p4.2 (show (nxt s a3).1 ≠ 0 by omega)
                  rw [p6] at q6
                  have g1 := pset_rng s _ _ _ _ k1 q1
                  have g2 := pset_rng s _ _ _ _ p2 q2
                  subst q5
                  rw [hq] at h
                  simp only at h
                  injection h with h
                  injection h with h h'
                  have hcase : i < a ∨ o' ≤ i := by
                    rcases hi with hi | hi | hi
                    · omega
                    · omega
                    · rw [← h] at hi
                      simp only [plcs, List.mem_append] at hi
                      rcases hi with hi | hi
                      · have := g1.mem _ hi; omega
                      · have := g2.mem _ hi; omega
                  have d1 : (nxt t a).1 ≠ 126 ∧ (nxt t a).1 ≠ 91 := by
                    by_cases ca : a = i
                    · subst ca; rw [H.nx1]; have := H.rng; simp only; omega
                    · rw [H.nx a ca]; exact ⟨c1, c⟩
                  rw [psent_tri d1.1 d1.2]
                  unfold ptri
                  rw [if_neg wn, ← w5, H.ext a o' hcase, h0, hsz]
                  simp only
                  rw [hq']
                  simp only [Option.map_some, putr, put]
                  rw [← h, ← h']
                  rfl
theorem pread_alt {s t : ByteArray} {i : Nat} {v : Int} (H : Alt s t i v) {p : PT} (h : pread s = some p) (hi : (i : Int) ∈ plcs p) : pread t = some (put i v p) := by
  obtain ⟨_, _, h80, hp⟩ := psent_top h
  have := psent_alt H _ _ _ _ (by omega) hp (.inr (.inr hi))
  unfold pread
  rw [H.size, if_neg (by omega), this]
  simp
theorem top_rng {s : ByteArray} {p : PT} (h : pread s = some p) : Rng p 0 s.size := psent_rng s _ 0 p _ (by omega) (psent_top h).2.2.2
theorem repl_alt {s : ByteArray} {i : Nat} (h1 : i < s.size) (h2 : 97 ≤ bt s (i : Int) ∧ bt s (i : Int) ≤ 100) {l : Int} (l0 : 0 ≤ l) (l1 : l < 4) : Alt s (repl s (i : Int) l) i (97 + l) := by
  obtain ⟨v, rfl⟩ := Int.eq_ofNat_of_zero_le l0
  have hl := lch_byte ⟨v, by omega⟩
  simp only at hl
  have hlen : s.data.toList.length = s.size := by rw [Array.length_toList]; rfl
  have hd : (repl s (i : Int) (v : Int)).data.toList = s.data.toList.set i (97 + v).toUInt8 := by
    unfold repl
    rw [ba_append, ba_append, ext_toList, ext_toList, hl, Int.toNat_natCast, List.drop_zero, List.take_of_length_le (show s.data.toList.length ≤ s.size by omega)]
    rw [List.set_eq_take_append_cons_drop, if_pos (by omega), List.append_assoc, List.singleton_append]
  refine ⟨?_, h1, h2, ?_, by omega, fun j hj => ?_⟩
  · rw [← len_toList, hd, List.length_set, hlen]
  · rw [bt_getD, hd, List.getD_eq_getElem?_getD, List.getElem?_set_self (by omega)]
    simp only [Option.getD_some]
    rw [Nat.toUInt8_eq, UInt8.toNat_ofNat']
    omega
  · rw [hd, List.getElem?_set_ne (by omega)]

/-! pack grow: what may grow grows -/
def leq (d x y : Int) : Prop := (d = 1 → band x y = x) ∧ (d = -1 → band y x = y)
def imp (w : Int) (x y : Bool) : Prop := (w = 1 → x = true → y = true) ∧ (w = -1 → y = true → x = true)
theorem set_put {i : Nat} {v : Int} (hv : 97 ≤ v ∧ v ≤ 100) {p : PT} (h : SetT p) : SetT (put i v p) := by
  induction h with
  | leaf c j h1 h2 =>
    simp only [put]
    split
    · exact .leaf _ _ hv.1 hv.2
    · exact .leaf _ _ h1 h2
  | one _ ih => exact .one ih
  | two hc _ _ ih1 ih2 => exact .two hc ih1 ih2
theorem neg_all : ∀ a b : Fin 8, band a.val b.val = a.val → band (7 - (b.val : Int)) (7 - (a.val : Int)) = 7 - (b.val : Int) := by decide +kernel
theorem op_all : ∀ a b c : Fin 8, band a.val b.val = a.val → (band (band a.val c.val) (band b.val c.val) = band a.val c.val ∧ band (bor a.val c.val) (bor b.val c.val) = bor a.val c.val) ∧ (band (band c.val a.val) (band c.val b.val) = band c.val a.val ∧ band (bor c.val a.val) (bor c.val b.val) = bor c.val a.val) := by decide +kernel
theorem leq_neg {d x y : Int} (x0 : 0 ≤ x) (x7 : x ≤ 7) (y0 : 0 ≤ y) (y7 : y ≤ 7) (h : leq d x y) : leq (-d) (7 - x) (7 - y) := by
  obtain ⟨a, rfl⟩ := fin_of x0 x7
  obtain ⟨b, rfl⟩ := fin_of y0 y7
  exact ⟨fun hd => neg_all b a (h.2 (by omega)), fun hd => neg_all a b (h.1 (by omega))⟩
theorem leq_op1 {d x y z c : Int} (x0 : 0 ≤ x) (x7 : x ≤ 7) (y0 : 0 ≤ y) (y7 : y ≤ 7) (z0 : 0 ≤ z) (z7 : z ≤ 7) (h : leq d x y) : leq d (if c = 38 then band x z else bor x z) (if c = 38 then band y z else bor y z) := by
  obtain ⟨a, rfl⟩ := fin_of x0 x7
  obtain ⟨b, rfl⟩ := fin_of y0 y7
  obtain ⟨e, rfl⟩ := fin_of z0 z7
  split
  · exact ⟨fun hd => (op_all a b e (h.1 hd)).1.1, fun hd => (op_all b a e (h.2 hd)).1.1⟩
  · exact ⟨fun hd => (op_all a b e (h.1 hd)).1.2, fun hd => (op_all b a e (h.2 hd)).1.2⟩
theorem leq_op2 {d x y z c : Int} (x0 : 0 ≤ x) (x7 : x ≤ 7) (y0 : 0 ≤ y) (y7 : y ≤ 7) (z0 : 0 ≤ z) (z7 : z ≤ 7) (h : leq d x y) : leq d (if c = 38 then band z x else bor z x) (if c = 38 then band z y else bor z y) := by
  obtain ⟨a, rfl⟩ := fin_of x0 x7
  obtain ⟨b, rfl⟩ := fin_of y0 y7
  obtain ⟨e, rfl⟩ := fin_of z0 z7
  split
  · exact ⟨fun hd => (op_all a b e (h.1 hd)).2.1, fun hd => (op_all b a e (h.2 hd)).2.1⟩
  · exact ⟨fun hd => (op_all a b e (h.1 hd)).2.2, fun hd => (op_all b a e (h.2 hd)).2.2⟩
theorem rd_l {l m : List Int} {n : Nat} (h : n < l.length) : rd (l ++ m) (n : Int) = rd l (n : Int) := rd_app1 (by omega) (by omega)
theorem rd_r {l m : List Int} {n : Nat} (h : l.length ≤ n) : rd (l ++ m) (n : Int) = rd m ((n - l.length : Nat) : Int) := by
  rw [rd_app2 (by omega) (by omega), show (n : Int) - (l.length : Int) = ((n - l.length : Nat) : Int) by omega]
theorem plc_in {p : PT} {a e : Nat} (h : Rng p a e) {n : Nat} (hn : n < lvs p) {i : Nat} (hi : rd (plcs p) (n : Int) = (i : Int)) : a ≤ i ∧ i < e := by
  have := h.mem _ (rd_mem (l := plcs p) (i := (n : Int)) (by omega) (by rw [plcs_len]; omega))
  rw [hi] at this
  omega
theorem set_grow {L : List Int} (hL : Sets L) {s : ByteArray} {i : Nat} {v d : Int} (hv : 97 ≤ v ∧ v ≤ 100) (hle : leq d (rd L (bt s (i : Int) - 97)) (rd L (v - 97))) {p : PT} (hp : SetT p) : ∀ (a e : Nat), Rng p a e → Leafs s p → ∀ n : Nat, n < lvs p → rd (plcs p) (n : Int) = (i : Int) → ∃ ε : Int, (ε = 1 ∨ ε = -1) ∧ (∀ w, rd (sgn w p) (n : Int) = w * ε) ∧ leq (ε * d) (setv L p) (setv L (put i v p)) := by
  induction hp with
  | leaf c j h1 h2 =>
    intro a e _ hl n hn hi
    simp only [lvs] at hn
    have h0 : n = 0 := by omega
    subst h0
    have hj : j = i := by
      have : ((j : Nat) : Int) = (i : Int) := hi
      omega
    subst hj
    refine ⟨1, .inl rfl, fun w => ?_, ?_⟩
    · rw [Int.mul_one]; rfl
    · rw [Int.one_mul, ← hl.2.1]
      simp only [put, if_true, setv]
      exact hle
  | @one p hp ih =>
    intro a e hr hl n hn hi
    obtain ⟨ε, h1, h2, h3⟩ := ih a e hr hl n hn hi
    refine ⟨-ε, by omega, fun w => ?_, ?_⟩
    · show rd (sgn (-w) p) (n : Int) = _
      rw [h2, Int.neg_mul, Int.mul_neg]
    · have r1 := setv_range hL hp
      have r2 := setv_range hL (set_put (i := i) hv hp)
      rw [Int.neg_mul]
      exact leq_neg r1.1 r1.2 r2.1 r2.2 h3
  | @two c p q hc hp hq ih1 ih2 =>
    intro a e hr hl n hn hi
    obtain ⟨m, k1, k2, k3, k4⟩ := hr
    have rp := setv_range hL hp
    have rq := setv_range hL hq
    have rp' := setv_range hL (set_put (i := i) hv hp)
    have rq' := setv_range hL (set_put (i := i) hv hq)
    simp only [lvs] at hn
    simp only [plcs] at hi
    by_cases cn : n < lvs p
    · rw [rd_l (by rw [plcs_len]; exact cn)] at hi
      obtain ⟨ε, h1, h2, h3⟩ := ih1 a m k3 hl.1 n cn hi
      refine ⟨ε, h1, fun w => ?_, ?_⟩
      · simp only [sgn]
        rw [rd_l (by rw [sgn_len w hp]; exact cn), h2]
      · have := plc_in k3 cn hi
        simp only [put, setv]
        rw [put_id k4 (by omega)]
        exact leq_op1 rp.1 rp.2 rp'.1 rp'.2 rq.1 rq.2 h3
    · rw [rd_r (by rw [plcs_len]; omega), plcs_len] at hi
      obtain ⟨ε, h1, h2, h3⟩ := ih2 m e k4 hl.2 (n - lvs p) (by omega) hi
      refine ⟨ε, h1, fun w => ?_, ?_⟩
      · simp only [sgn]
        rw [rd_r (by rw [sgn_len w hp]; omega), sgn_len w hp, h2]
      · have := plc_in k4 (by omega) hi
        simp only [put, setv]
        rw [put_id k3 (by omega)]
        exact leq_op2 rq.1 rq.2 rq'.1 rq'.2 rp.1 rp.2 h3
def hl (t : List Int) (a b : Int) : Bool := rd t (plc (szv a) (szv (band a b))) == 1
def all8 (f : Nat → Bool) : Bool := (List.range 8).all f
theorem all8_at {f : Nat → Bool} (h : all8 f = true) {n : Nat} (hn : n < 8) : f n = true := by
  unfold all8 at h
  rw [List.all_eq_true] at h
  exact h n (List.mem_range.mpr hn)
def g1 (t : List Int) : Bool :=
  if sg1 t = 1 then all8 fun a => all8 fun a' => if band a a' = a then all8 fun b => !hl t a b || hl t a' b else true
  else if sg1 t = -1 then all8 fun a => all8 fun a' => if band a a' = a then all8 fun b => !hl t a' b || hl t a b else true
  else true
def g2 (t : List Int) : Bool :=
  if sg2 t = 1 then all8 fun b => all8 fun b' => if band b b' = b then all8 fun a => !hl t a b || hl t a b' else true
  else if sg2 t = -1 then all8 fun b => all8 fun b' => if band b b' = b then all8 fun a => !hl t a b' || hl t a b else true
  else true
theorem g_all : ∀ e ∈ nms, g1 e.2 = true ∧ g2 e.2 = true := by decide +kernel
theorem nat_of {x : Int} (h0 : 0 ≤ x) (h7 : x ≤ 7) : ∃ n : Nat, x = (n : Int) ∧ n < 8 := ⟨x.toNat, by omega, by omega⟩
theorem g1_up {t : List Int} (h : g1 t = true) (hs : sg1 t = 1) {a a' b : Int} (a0 : 0 ≤ a) (a7 : a ≤ 7) (c0 : 0 ≤ a') (c7 : a' ≤ 7) (b0 : 0 ≤ b) (b7 : b ≤ 7) (k : band a a' = a) (H : hl t a b = true) : hl t a' b = true := by
  obtain ⟨x, rfl, hx⟩ := nat_of a0 a7
  obtain ⟨y, rfl, hy⟩ := nat_of c0 c7
  obtain ⟨z, rfl, hz⟩ := nat_of b0 b7
  unfold g1 at h
  rw [if_pos hs] at h
  have := all8_at (all8_at h hx) hy
  rw [if_pos k] at this
  have := all8_at this hz
  rw [H] at this
  simpa using this
theorem g1_down {t : List Int} (h : g1 t = true) (hs : sg1 t = -1) {a a' b : Int} (a0 : 0 ≤ a) (a7 : a ≤ 7) (c0 : 0 ≤ a') (c7 : a' ≤ 7) (b0 : 0 ≤ b) (b7 : b ≤ 7) (k : band a a' = a) (H : hl t a' b = true) : hl t a b = true := by
  obtain ⟨x, rfl, hx⟩ := nat_of a0 a7
  obtain ⟨y, rfl, hy⟩ := nat_of c0 c7
  obtain ⟨z, rfl, hz⟩ := nat_of b0 b7
  unfold g1 at h
  rw [if_neg (by omega), if_pos hs] at h
  have := all8_at (all8_at h hx) hy
  rw [if_pos k] at this
  have := all8_at this hz
  rw [H] at this
  simpa using this
theorem g2_up {t : List Int} (h : g2 t = true) (hs : sg2 t = 1) {a b b' : Int} (a0 : 0 ≤ a) (a7 : a ≤ 7) (c0 : 0 ≤ b') (c7 : b' ≤ 7) (b0 : 0 ≤ b) (b7 : b ≤ 7) (k : band b b' = b) (H : hl t a b = true) : hl t a b' = true := by
  obtain ⟨x, rfl, hx⟩ := nat_of a0 a7
  obtain ⟨y, rfl, hy⟩ := nat_of c0 c7
  obtain ⟨z, rfl, hz⟩ := nat_of b0 b7
  unfold g2 at h
  rw [if_pos hs] at h
  have := all8_at (all8_at h hz) hy
  rw [if_pos k] at this
  have := all8_at this hx
  rw [H] at this
  simpa using this
theorem g2_down {t : List Int} (h : g2 t = true) (hs : sg2 t = -1) {a b b' : Int} (a0 : 0 ≤ a) (a7 : a ≤ 7) (c0 : 0 ≤ b') (c7 : b' ≤ 7) (b0 : 0 ≤ b) (b7 : b ≤ 7) (k : band b b' = b) (H : hl t a b' = true) : hl t a b = true := by
  obtain ⟨x, rfl, hx⟩ := nat_of a0 a7
  obtain ⟨y, rfl, hy⟩ := nat_of c0 c7
  obtain ⟨z, rfl, hz⟩ := nat_of b0 b7
  unfold g2 at h
  rw [if_neg (by omega), if_pos hs] at h
  have := all8_at (all8_at h hz) hy
  rw [if_pos k] at this
  have := all8_at this hx
  rw [H] at this
  simpa using this
theorem sign_of {w g ε d : Int} (hw : w = 1 ∨ w = -1) (hg : g = -1 ∨ g = 0 ∨ g = 1) (he : ε = 1 ∨ ε = -1) (hd : d = 1 ∨ d = -1) (h : w * g * ε = d) : (g = 1 ∧ ε * d = w) ∨ (g = -1 ∧ ε * d = -w) := by
  rcases hw with rfl | rfl <;> rcases hg with rfl | rfl | rfl <;> rcases he with rfl | rfl <;> rcases hd with rfl | rfl <;> first | (exfalso; revert h; decide) | decide
theorem sent_grow {L : List Int} (hL : Sets L) {s : ByteArray} {i : Nat} {v d : Int} (hv : 97 ≤ v ∧ v ≤ 100) (hd : d = 1 ∨ d = -1) (hle : leq d (rd L (bt s (i : Int) - 97)) (rd L (v - 97))) {p : PT} (hp : SentT p) : ∀ (a e : Nat), Rng p a e → Leafs s p → ∀ n : Nat, n < lvs p → rd (plcs p) (n : Int) = (i : Int) → ∀ w : Int, (w = 1 ∨ w = -1) → rd (sgns w p) (n : Int) = d → imp w (truv L p) (truv L (put i v p)) := by
  induction hp with
  | @one p hp ih =>
    intro a e hr hl n hn hi w hw hs
    have := ih a e hr hl n hn hi (-w) (by omega) hs
    simp only [put, truv]
    refine ⟨fun h1 h2 => ?_, fun h1 h2 => ?_⟩
    · cases hx : truv L (put i v p) with
      | false => rfl
      | true => have := this.2 (by omega) hx; rw [this] at h2; exact h2
    · cases hx : truv L p with
      | false => rfl
      | true => have := this.1 (by omega) hx; rw [this] at h2; exact h2
  | @two c p q hc hp hq ih1 ih2 =>
    intro a e hr hl n hn hi w hw hs
    obtain ⟨m, k1, k2, k3, k4⟩ := hr
    simp only [lvs] at hn
    simp only [plcs] at hi
    simp only [sgns] at hs
    by_cases cn : n < lvs p
    · rw [rd_l (by rw [plcs_len]; exact cn)] at hi
      rw [rd_l (by rw [sgns_len w hp]; exact cn)] at hs
      have h := ih1 a m k3 hl.1 n cn hi w hw hs
      have := plc_in k3 cn hi
      simp only [put, truv]
      rw [put_id k4 (by omega)]
      unfold imp at h ⊢
      generalize truv L p = x at h ⊢
      generalize truv L (put i v p) = y at h ⊢
      generalize truv L q = z
      rcases hw with rfl | rfl <;> split <;> cases x <;> cases y <;> cases z <;> simp at h ⊢
    · rw [rd_r (by rw [plcs_len]; omega), plcs_len] at hi
      rw [rd_r (by rw [sgns_len w hp]; omega), sgns_len w hp] at hs
      have h := ih2 m e k4 hl.2 (n - lvs p) (by omega) hi w hw hs
      have := plc_in k4 (by omega) hi
      simp only [put, truv]
      rw [put_id k3 (by omega)]
      unfold imp at h ⊢
      generalize truv L q = x at h ⊢
      generalize truv L (put i v q) = y at h ⊢
      generalize truv L p = z
      rcases hw with rfl | rfl <;> split <;> cases x <;> cases y <;> cases z <;> simp at h ⊢
  | @tri t p q x hm hp hq =>
    intro a e hr hlf n hn hi w hw hs
    obtain ⟨m, k1, k2, k3, k4⟩ := hr
    obtain ⟨G1, G2⟩ := g_all _ hm
    simp only at G1 G2
    have rp := setv_range hL hp
    have rq := setv_range hL hq
    have rp' := setv_range hL (set_put (i := i) hv hp)
    have rq' := setv_range hL (set_put (i := i) hv hq)
    simp only [lvs] at hn
    simp only [plcs] at hi
    simp only [sgns] at hs
    show imp w (hl t (setv L p) (setv L q)) (hl t (setv L (put i v p)) (setv L (put i v q)))
    by_cases cn : n < lvs p
    · rw [rd_l (by rw [plcs_len]; exact cn)] at hi
      rw [rd_l (by rw [sgn_len _ hp]; exact cn)] at hs
      obtain ⟨ε, h1, h2, h3⟩ := set_grow hL hv hle hp a m k3 hlf.1 n cn hi
      rw [h2] at hs
      have := plc_in k3 cn hi
      rw [put_id k4 (by omega)]
      rcases sign_of hw (sig_range _ _) h1 hd hs with ⟨e1, e2⟩ | ⟨e1, e2⟩ <;> rw [e2] at h3
      · exact ⟨fun c hx => g1_up G1 e1 rp.1 rp.2 rp'.1 rp'.2 rq.1 rq.2 (h3.1 c) hx, fun c hx => g1_up G1 e1 rp'.1 rp'.2 rp.1 rp.2 rq.1 rq.2 (h3.2 c) hx⟩
      · exact ⟨fun c hx => g1_down G1 e1 rp'.1 rp'.2 rp.1 rp.2 rq.1 rq.2 (h3.2 (by omega)) hx, fun c hx => g1_down G1 e1 rp.1 rp.2 rp'.1 rp'.2 rq.1 rq.2 (h3.1 (by omega)) hx⟩
    · rw [rd_r (by rw [plcs_len]; omega), plcs_len] at hi
      rw [rd_r (by rw [sgn_len _ hp]; omega), sgn_len _ hp] at hs
      obtain ⟨ε, h1, h2, h3⟩ := set_grow hL hv hle hq m e k4 hlf.2 (n - lvs p) (by omega) hi
      rw [h2] at hs
      have := plc_in k4 (by omega) hi
      rw [put_id k3 (by omega)]
      rcases sign_of hw (sig_range _ _) h1 hd hs with ⟨e1, e2⟩ | ⟨e1, e2⟩ <;> rw [e2] at h3
      · exact ⟨fun c hx => g2_up G2 e1 rp.1 rp.2 rq'.1 rq'.2 rq.1 rq.2 (h3.1 c) hx, fun c hx => g2_up G2 e1 rp.1 rp.2 rq.1 rq.2 rq'.1 rq'.2 (h3.2 c) hx⟩
      · exact ⟨fun c hx => g2_down G2 e1 rp.1 rp.2 rq.1 rq.2 rq'.1 rq'.2 (h3.2 (by omega)) hx, fun c hx => g2_down G2 e1 rp.1 rp.2 rq'.1 rq'.2 rq.1 rq.2 (h3.1 (by omega)) hx⟩

theorem common_all : ∀ x y : Fin 8, laws_common.f 20 x.val y.val = some (band x.val y.val) := by decide +kernel
theorem inside_ev {x y : Int} (x0 : 0 ≤ x) (x7 : x ≤ 7) (y0 : 0 ≤ y) (y7 : y ≤ 7) : Ev (fun k => laws_insideOf.f k x y) (band x y == x) := by
  obtain ⟨a, rfl⟩ := fin_of x0 x7
  obtain ⟨b, rfl⟩ := fin_of y0 y7
  unfold laws_insideOf.f
  exact Ev.bind (Ev.of (laws_common.mono _ _) (common_all a b)) (ev_now rfl)
theorem sets_fin (a b c d : Fin 8) : setsOk [(a.val : Int), (b.val : Int), (c.val : Int), (d.val : Int)] = true := by
  refine setsOk_of rfl (fun i hi => ?_)
  obtain rfl | rfl | rfl | rfl : i = 0 ∨ i = 1 ∨ i = 2 ∨ i = 3 := by omega
  · exact ⟨by show (0 : Int) ≤ (a.val : Int); omega, by show (a.val : Int) ≤ 7; omega⟩
  · exact ⟨by show (0 : Int) ≤ (b.val : Int); omega, by show (b.val : Int) ≤ 7; omega⟩
  · exact ⟨by show (0 : Int) ≤ (c.val : Int); omega, by show (c.val : Int) ≤ 7; omega⟩
  · exact ⟨by show (0 : Int) ≤ (d.val : Int); omega, by show (d.val : Int) ≤ 7; omega⟩
theorem mch_43 {x : Int} (h : ((mch x).toNat : Int) = 43) : x = 1 := by
  unfold mch at h
  by_cases c : x = 1
  · exact c
  · rw [if_neg c] at h
    split at h
    · exact absurd h (by decide)
    · exact absurd h (by decide)
theorem mch_45 {x : Int} (h : ((mch x).toNat : Int) = 45) : x = -1 := by
  unfold mch at h
  by_cases c : x = 1
  · rw [if_pos c] at h; exact absurd h (by decide)
  · rw [if_neg c] at h
    split at h
    · assumption
    · exact absurd h (by decide)
theorem FnReplacedIn : laws_FnReplacedIn.Pure := by
  intro l m _ _ hw _ _ hw2
  refine Ev.rounds (g := fun k => laws_FnReplacedIn.f k l m) ?_
  unfold laws_FnReplacedIn.f
  have J0 : ∀ b : Bool, b = true → Ev (fun k => laws_FnReplacedIn.j0 k l m b) true := fun b hb => Ev.step (fun _ => laws_FnReplacedIn.j0.eq_2 _ _ _ _) (ev_pos hb (ev_now rfl))
  by_cases h : (l.length : Int) > 1048576
  · exact ev_pos h (J0 true rfl)
  refine ev_neg h ?_
  by_cases hm : (m.length : Int) > 1048576
  · exact J0 _ (decide_eq_true hm)
  rw [decide_eq_false hm]
  obtain ⟨b, ho, hb⟩ := open_ok hw
  obtain ⟨s, p', h1, h2, h3, hE⟩ := text_draw hb 0 14 (by omega) (by omega) (by omega) (by omega)
  have hms : (markM s).size ≤ 1000 := by
    unfold markM
    cases hp : pread s with
    | none => show 0 ≤ 1000; omega
    | some p => simp only; rw [mtx_size, sgns_len _ (psent_top hp).1]; have := (psent_top hp).2.1; omega
  obtain ⟨v, v0, v1, hv⟩ := pick_ok (p := p') (n := ((markM s).size : Int) + 1) hb (by omega) (by omega) (by omega)
  obtain ⟨u, u0, u1, hu⟩ := pick_ok (p := p' + 1) (n := 20) hb (by omega) (by omega) (by omega)
  obtain ⟨x, x0, x1, hx⟩ := pick_ok (p := p' + 1 + 1) (n := 4) hb (by omega) (by omega) (by omega)
  obtain ⟨y, y0, y1, hy⟩ := pick_ok (p := p' + 1 + 1 + 1) (n := 20) hb (by omega) (by omega) (by omega)
  obtain ⟨n, hn⟩ : ∃ n, wrap64 (v - (wrap64 (Int.tdiv u 19))) = n := ⟨_, rfl⟩
  obtain ⟨t, ht⟩ : ∃ t, wrap64 (x + (wrap64 ((wrap64 (Int.tdiv y 19)) * 4))) = t := ⟨_, rfl⟩
  have hD : Ev (fun k => spec_DrawReplacedIn.f k l) (s, n, t) := by
    unfold spec_DrawReplacedIn.f
    refine ev_bind ho (Ev.bind hE (Ev.bind (smarks s (by omega)) ?_))
    simp only
    rw [wone (by omega)]
    exact Ev.bind hv (Ev.bind hu (Ev.bind hx (Ev.bind hy (ev_now (by simp only [hn, ht])))))
  refine Ev.step (fun _ => laws_FnReplacedIn.j0.eq_2 _ _ _ _) (ev_neg (by simp) (Ev.bind hD (ev_bind (irepl s n t) (Ev.bind (srepl s n t (by omega)) (ev_pos rfl ?_)))))
  rw [show ((impl_ReplacedIn.g s n t).2 != (impl_ReplacedIn.g s n t).2) = false by simp]
  refine Ev.step (fun _ => laws_FnReplacedIn.j1.eq_2 _ _ _ _ _ _ _ _) (ev_neg (by simp) ?_)
  have hg : impl_ReplacedIn.g s n t = ((⟨#[]⟩ : ByteArray), false) ∨ ∃ p, pread s = some p ∧ (0 ≤ t ∧ t < 4) ∧ (0 ≤ n ∧ n < (lvs p : Int)) ∧ impl_ReplacedIn.g s n t = (repl s (rd (plcs p) n) t, true) := by
    unfold impl_ReplacedIn.g
    cases hp : pread s with
    | none => exact .inl rfl
    | some p =>
      simp only
      by_cases c : 0 ≤ t ∧ t < 4
      · by_cases d : 0 ≤ n ∧ n < (lvs p : Int)
        · exact .inr ⟨p, rfl, c, d, by rw [if_pos c, if_pos d]⟩
        · exact .inl (by rw [if_pos c, if_neg d])
      · exact .inl (by rw [if_neg c])
  rcases hg with hg | ⟨p, hp, ct, cn, hg⟩
  · rw [hg]
    exact ev_neg (by simp) (ev_pos (by decide +kernel) (ev_bind alive_t (ev_now rfl)))
  rw [hg]
  obtain ⟨N, rfl⟩ := Int.eq_ofNat_of_zero_le cn.1
  have hl := leafs_at (top_leafs hp) (rd (plcs p) (N : Int)) (rd_mem cn.1 (by rw [plcs_len]; exact cn.2))
  have hmem : rd (plcs p) (N : Int) ∈ plcs p := rd_mem cn.1 (by rw [plcs_len]; exact cn.2)
  obtain ⟨X, hX⟩ : ∃ X, rd (plcs p) (N : Int) = X := ⟨_, rfl⟩
  have hlet : letM s (N : Int) = bt s X - 97 := by
    unfold letM
    rw [hp]
    simp only
    rw [if_pos cn, hX]
  rw [hX] at hl hmem ⊢
  obtain ⟨i, rfl⟩ := Int.eq_ofNat_of_zero_le hl.1
  have H := repl_alt (s := s) (i := i) (by omega) hl.2.2 ct.1 ct.2
  obtain ⟨S, hS⟩ : ∃ S, repl s (i : Int) t = S := ⟨_, rfl⟩
  rw [hS] at H ⊢
  have hpS := pread_alt H hp hmem
  obtain ⟨hsp, hl80, h80, _⟩ := psent_top hp
  have hmk : markM S = markM s := by
    unfold markM
    rw [hpS, hp]
    simp only
    rw [sgns_put]
  have hmz : (markM s).size = lvs p := markM_size hp
  refine ev_pos rfl (ev_bind (imarks s) (ev_bind (imarks S) (ev_pos (by rw [hmk]) ?_)))
  rw [show decide ((N : Int) ≥ ((markM s).size : Int)) = false from decide_eq_false (by omega)]
  obtain ⟨b2, ho2, hb2⟩ := open_ok hw2
  obtain ⟨L, q, hL, q1, q2, hF⟩ := sets_draw hb2 0 (by omega) (by omega)
  obtain ⟨s2, p2, k1, k2, k3, hE2⟩ := text_draw hb2 q 14 (by omega) (by omega) (by omega) (by omega)
  have hD2 : Ev (fun k => spec_DrawTrueOf.f k m) (L, s2) := by
    unfold spec_DrawTrueOf.f
    exact ev_bind ho2 (Ev.bind hF (Ev.bind hE2 (ev_now rfl)))
  refine Ev.step (fun _ => laws_FnReplacedIn.j2.eq_2 _ _ _ _ _ _ _ _) (ev_neg (by simp) (Ev.bind hD2 (ev_bind (ilet s _) ?_)))
  rw [hlet]
  have hold : bt s (i : Int) - 97 ≥ 0 ∧ bt s (i : Int) - 97 < 4 := by omega
  rcases hL with hL3 | ⟨a, c, d, e, rfl⟩
  · refine ev_neg (by dsimp only; omega) (Ev.step (fun _ => laws_FnReplacedIn.j3.eq_2 _ _ _ _ _ _ _ _ _) (ev_pos rfl (ev_pos hold.1 (ev_now (decide_eq_true hold.2)))))
  have hso := sets_fin a c d e
  have hSets := setsOk_sets hso
  obtain ⟨L, hLL⟩ : ∃ L, [(a.val : Int), (c.val : Int), (d.val : Int), (e.val : Int)] = L := ⟨_, rfl⟩
  rw [hLL] at hso hSets ⊢
  have hlen : (L.length : Int) = 4 := by rw [hSets.1]; rfl
  have hro := hSets.2 (bt s (i : Int) - 97) (by omega) (by omega)
  have hrt := hSets.2 t ct.1 ct.2
  refine ev_pos hlen (ev_neg (by omega) (ev_neg (by first | omega | (dsimp only; omega)) ?_))
  rw [show decide (t ≥ ((L, s2).1.length : Int)) = false from decide_eq_false (by dsimp only; omega)]
  have hbt : bt (markM s) (N : Int) = ((mch (rd (sgns 1 p) (N : Int))).toNat : Int) := by
    unfold markM
    rw [hp]
    exact mtx_bt _ _ (by rw [sgns_len 1 hsp]; omega)
  have key : ∀ D : Int, (D = 1 ∨ D = -1) → rd (sgns 1 p) (N : Int) = D → leq D (rd L (bt s (i : Int) - 97)) (rd L t) → trueM L s = true → trueM L S = true := by
    intro D hD hs hq ht
    have hq' : leq D (rd L (bt s (i : Int) - 97)) (rd L ((97 + t) - 97)) := by rw [show 97 + t - 97 = t by omega]; exact hq
    have := sent_grow hSets H.rng hD hq' hsp 0 s.size (top_rng hp) (top_leafs hp) N (by omega) hX 1 (.inl rfl) hs
    unfold trueM at ht ⊢
    rw [hp, hso] at ht
    rw [hpS, hso]
    exact this.1 rfl ht
  have fin : ∀ o : Bool, (o = true → trueM L s = true → trueM L S = true) → Ev (fun _ => if o = true then (impl_TrueOf.f L s).bind fun t1 => if t1 = true then (impl_TrueOf.f L S).bind fun t2 => some t2 else some true else some true) true := by
    intro o ho
    cases o with
    | false => exact ev_neg (by simp) (ev_now rfl)
    | true =>
      refine ev_pos rfl (ev_bind (itrue L s) ?_)
      cases hts : trueM L s with
      | false => exact ev_neg (by simp) (ev_now rfl)
      | true => exact ev_pos rfl (ev_bind (itrue L S) (ev_now (ho rfl hts)))
  have up := inside_ev hro.1 hro.2 hrt.1 hrt.2
  have down := inside_ev hrt.1 hrt.2 hro.1 hro.2
  refine Ev.step (fun _ => laws_FnReplacedIn.j3.eq_2 _ _ _ _ _ _ _ _ _) (ev_neg (by simp) (ev_pos (by first | omega | (dsimp only; omega)) (ev_pos (by first | omega | (dsimp only; omega)) ?_)))
  by_cases c43 : bt (markM s) (N : Int) = 43
  · have hs1 : rd (sgns 1 p) (N : Int) = 1 := mch_43 (by rw [← hbt]; exact c43)
    refine ev_pos c43 (ev_pos (by first | exact hold.1 | (dsimp only; omega) | omega) (ev_pos (by first | omega | (dsimp only; omega)) (ev_pos (by first | exact ct.1 | (dsimp only; omega) | omega) (ev_pos (by first | omega | (dsimp only; omega)) (Ev.bind up (ev_neg (by first | omega | (dsimp only; omega)) ?_))))))
    refine fin _ (fun ho => key 1 (.inl rfl) hs1 ⟨fun _ => ?_, fun hh => absurd hh (by decide)⟩)
    exact beq_iff_eq.mp ho
  · refine ev_neg c43 ?_
    by_cases c45 : bt (markM s) (N : Int) = 45
    · have hs1 : rd (sgns 1 p) (N : Int) = -1 := mch_45 (by rw [← hbt]; exact c45)
      refine ev_pos c45 (ev_pos (by first | exact ct.1 | (dsimp only; omega) | omega) (ev_pos (by first | omega | (dsimp only; omega)) (ev_pos (by first | exact hold.1 | (dsimp only; omega) | omega) (ev_pos (by first | omega | (dsimp only; omega)) (Ev.bind down ?_)))))
      refine fin _ (fun ho => key (-1) (.inr rfl) hs1 ⟨fun hh => absurd hh (by decide), fun _ => ?_⟩)
      exact beq_iff_eq.mp ho
    · exact ev_neg c45 (ev_now rfl)

end Go.Proofs.Ytfjfdnododnepaa.Pure
