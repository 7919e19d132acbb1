/- For every code the law FnLetterAt answers true: the drawn letter is told alike by the program and the reference, and replaced by itself it leaves the sentence as it is; no condition. -/
import Derived.Test.YtfjfdnododnepaaPFnLetterAtx14
namespace Go.Proofs.Ytfjfdnododnepaa.Pure
open Go.RowKit Go.Proofs.Ytfjfdnododnepaa.PFnLetterAt Go.Proofs.YtfjfdnododnepaaW.PrintWords Go.Proofs.YtfjfdnododnepaaW.PrintLast
set_option linter.unusedVariables false
set_option linter.unusedSimpArgs false

/-! pack arith: numbers that do not wrap, and steps of 'from some number of rounds on' -/
theorem w64 {n : Int} (h0 : -9223372036854775808 ≤ n) (h1 : n ≤ 9223372036854775807) : wrap64 n = n := by unfold wrap64; omega
theorem ev_pos {α : Type} {c : Prop} [Decidable c] {a b : Nat → Option α} {r : α} (h : c) (H : Ev a r) : Ev (fun k => if c then a k else b k) r :=
  Ev.congr (fun _ => if_pos h) H
theorem ev_neg {α : Type} {c : Prop} [Decidable c] {a b : Nat → Option α} {r : α} (h : ¬ c) (H : Ev b r) : Ev (fun k => if c then a k else b k) r :=
  Ev.congr (fun _ => if_neg h) H
theorem ev_now {α : Type} {a r : α} (h : a = r) : Ev (fun _ => some a) r := h ▸ Ev.now a
theorem ev_of {α : Type} {o : Option α} {r : α} (h : o = some r) : Ev (fun _ => o) r := ⟨0, fun _ _ => h⟩
theorem ev_bind {α β : Type} {o : Option α} {f : Nat → α → Option β} {a : α} {r : β} (h : o = some a) (k : Ev (fun n => f n a) r) : Ev (fun n => o.bind (f n)) r :=
  Ev.congr (fun n => by rw [h]; rfl) k
theorem ev_eq {α : Type} {g : Nat → Option α} {r r' : α} (h : r = r') (k : Ev g r) : Ev g r' := h ▸ k

/-! pack pick: the reader of draws -/
theorem xor_pos (x y : Int) (hx : 0 ≤ x) (hx1 : x < 4611686018427387904) (hy : 0 ≤ y) (hy1 : y < 4611686018427387904) : 0 ≤ Go.bits .xor .i64 x y := by
  obtain ⟨a, rfl⟩ := Int.eq_ofNat_of_zero_le hx
  obtain ⟨b, rfl⟩ := Int.eq_ofNat_of_zero_le hy
  have ha : a < 2 ^ 62 := by have e : (2 : Nat) ^ 62 = 4611686018427387904 := by decide
                             omega
  have hb : b < 2 ^ 62 := by have e : (2 : Nat) ^ 62 = 4611686018427387904 := by decide
                             omega
  have hx : a ^^^ b < 2 ^ 62 := Nat.xor_lt_two_pow ha hb
  have ha' : a % 2 ^ IntKind.i64.bits = a := Nat.mod_eq_of_lt (Nat.lt_trans ha (by decide))
  have hb' : b % 2 ^ IntKind.i64.bits = b := Nat.mod_eq_of_lt (Nat.lt_trans hb (by decide))
  simp only [Go.bits, BitVec.ofInt_natCast, BitVec.toNat_xor, BitVec.toNat_ofNat, ha', hb']
  rw [IntKind.wrap_i64]
  have e : (2 : Nat) ^ 62 = 4611686018427387904 := by decide
  omega
theorem rd_byte {b : List Int} (hw : ∀ x ∈ b, 0 ≤ x ∧ x ≤ 255) (i : Int) : 0 ≤ rd b i ∧ rd b i ≤ 255 := by
  unfold rd
  rw [List.getD_eq_getElem?_getD]
  by_cases h : i.toNat < b.length
  · rw [List.getElem?_eq_getElem h]; exact hw _ (List.getElem_mem h)
  · rw [List.getElem?_eq_none (by omega)]; simp
/-- what a reader's bytes and place are -/
def Rdr (b : List Int) : Prop := b.length ≤ 2000 ∧ ∀ x ∈ b, 0 ≤ x ∧ x ≤ 255
theorem pick_ok {b : List Int} {p n : Int} (hb : Rdr b) (hp0 : 0 ≤ p) (hp1 : p ≤ 1000000) (hn : 1 ≤ n) :
    ∃ v, 0 ≤ v ∧ v < n ∧ Ev (fun k => spec_l20Rd_pick.f k b p n) (v, p + 1) := by
  obtain ⟨hl, hw⟩ := hb
  have e1 : wrap64 (p + 1) = p + 1 := w64 (by omega) (by omega)
  have e2 : wrap64 (p + 1 - 1) = p := by rw [show p + 1 - 1 = p by omega]; exact w64 (by omega) (by omega)
  by_cases h0 : b.length = 0
  · refine ⟨0, by omega, by omega, ?_⟩
    unfold spec_l20Rd_pick.f
    refine ev_neg (by omega) ?_
    rw [e1]
    refine Ev.step (fun _ => spec_l20Rd_pick.j0.eq_2 _ _ _ _ _) ?_
    refine ev_pos (beq_iff_eq.mpr (by omega)) (ev_now rfl)
  · have hx24 : ¬ (((b.length : Int) == 0) = true) := fun h => h0 (by have := beq_iff_eq.mp h; omega)
    by_cases h1 : p < b.length
    · have hr := rd_byte hw p
      have er : wrap64 (rd b p) = rd b p := w64 (by omega) (by omega)
      refine ⟨Int.tmod (rd b p) n, Int.tmod_nonneg _ hr.1, Int.tmod_lt_of_pos _ (by omega), ?_⟩
      unfold spec_l20Rd_pick.f
      refine ev_neg (by omega) ?_
      rw [e1]
      refine Ev.step (fun _ => spec_l20Rd_pick.j0.eq_2 _ _ _ _ _) ?_
      simp only [e2, er]
      refine ev_neg hx24 (ev_pos h1 (ev_pos hp0 (ev_neg (by omega) (ev_now rfl))))
    · have hL : (0 : Int) < b.length := by omega
      have m0 := Int.tmod_nonneg (b.length : Int) hp0
      have m1 := Int.tmod_lt_of_pos p hL
      have e3 : wrap64 (p * 7) = p * 7 := w64 (by omega) (by omega)
      have e4 : wrap64 (p * 7 + 3) = p * 7 + 3 := w64 (by omega) (by omega)
      have n0 := Int.tmod_nonneg (b.length : Int) (show 0 ≤ p * 7 + 3 by omega)
      have n1 := Int.tmod_lt_of_pos (p * 7 + 3) hL
      have r1 := rd_byte hw (Int.tmod p b.length)
      have r2 := rd_byte hw (Int.tmod (p * 7 + 3) b.length)
      have d0 : 0 ≤ Int.tdiv p b.length := Int.tdiv_nonneg hp0 (by omega)
      have d1 : Int.tdiv p b.length ≤ p := Int.tdiv_le_self _ hp0
      have e5 : wrap64 (rd b (Int.tmod p b.length)) = rd b (Int.tmod p b.length) := w64 (by omega) (by omega)
      have e6 : wrap64 (rd b (Int.tmod (p * 7 + 3) b.length)) = rd b (Int.tmod (p * 7 + 3) b.length) := w64 (by omega) (by omega)
      have e7 : wrap64 (rd b (Int.tmod p b.length) * 131) = rd b (Int.tmod p b.length) * 131 := w64 (by omega) (by omega)
      have e8 : wrap64 (rd b (Int.tmod (p * 7 + 3) b.length) * 1117) = rd b (Int.tmod (p * 7 + 3) b.length) * 1117 := w64 (by omega) (by omega)
      have e9 : wrap64 (p * 29) = p * 29 := w64 (by omega) (by omega)
      have e10 : wrap64 (Int.tdiv p b.length) = Int.tdiv p b.length := w64 (by omega) (by omega)
      have e11 : wrap64 (Int.tdiv p b.length * 53) = Int.tdiv p b.length * 53 := w64 (by omega) (by omega)
      generalize hA : rd b (Int.tmod p b.length) = A at *
      generalize hB : rd b (Int.tmod (p * 7 + 3) b.length) = B at *
      generalize hD : Int.tdiv p b.length = D at *
      have e12 : wrap64 (A * 131 + B * 1117) = A * 131 + B * 1117 := w64 (by omega) (by omega)
      have e13 : wrap64 (A * 131 + B * 1117 + p * 29) = A * 131 + B * 1117 + p * 29 := w64 (by omega) (by omega)
      have e14 : wrap64 (A * 131 + B * 1117 + p * 29 + D * 53) = A * 131 + B * 1117 + p * 29 + D * 53 := w64 (by omega) (by omega)
      have hS : 0 ≤ A * 131 + B * 1117 + p * 29 + D * 53 := by omega
      have hS1 : A * 131 + B * 1117 + p * 29 + D * 53 < 4611686018427387904 := by omega
      have t0 : 0 ≤ Int.tdiv (A * 131 + B * 1117 + p * 29 + D * 53) 64 := Int.tdiv_nonneg hS (by omega)
      have t1 : Int.tdiv (A * 131 + B * 1117 + p * 29 + D * 53) 64 ≤ A * 131 + B * 1117 + p * 29 + D * 53 := Int.tdiv_le_self _ hS
      have e15 : wrap64 (Int.tdiv (A * 131 + B * 1117 + p * 29 + D * 53) 64) = Int.tdiv (A * 131 + B * 1117 + p * 29 + D * 53) 64 := w64 (by omega) (by omega)
      have hX := xor_pos _ _ hS hS1 t0 (by omega)
      refine ⟨_, Int.tmod_nonneg n hX, Int.tmod_lt_of_pos _ (show 0 < n by omega), ?_⟩
      unfold spec_l20Rd_pick.f
      refine ev_neg (by omega) ?_
      rw [e1]
      refine Ev.step (fun _ => spec_l20Rd_pick.j0.eq_2 _ _ _ _ _) ?_
      simp only [e2, e3, e4, hA, hB, e5, e6, e7, e8, e9, hD, e10, e11, e12, e13, e14, e15]
      exact ev_neg hx24 (ev_neg h1 (ev_neg (by omega) (ev_pos m0 (ev_pos m1 (ev_pos n0 (ev_pos n1 (ev_neg (by omega) (ev_now rfl))))))))
theorem open_ok {l : List Int} (hw : ∀ x ∈ l, (Lit.int .u8 x).wf = true) : ∃ b, spec_l20Open.f l = some (b, 0) ∧ Rdr b := by
  have hw' : ∀ x ∈ l, 0 ≤ x ∧ x ≤ 255 := fun x hx => by
    have := hw x hx
    simp [Lit.wf, IntKind.min, IntKind.max, IntKind.signed, IntKind.bits] at this
    omega
  unfold spec_l20Open.f
  by_cases h : (l.length : Int) > 2000
  · refine ⟨l.take 2000, by rw [if_pos h, if_pos (by omega)], by simp; omega, fun x hx => hw' x (List.mem_of_mem_take hx)⟩
  · exact ⟨l, by rw [if_neg h], by omega, hw'⟩

/-! pack odd -/
theorem odd_ok {b : List Int} (hb : Rdr b) {p n : Int} (hp0 : 0 ≤ p) (hp1 : p ≤ 1000000) (hn : 0 ≤ n) (hn1 : n ≤ 1000000) :
    ∃ v p', p ≤ p' ∧ p' ≤ p + 1 ∧ (n = 0 → v = false) ∧ Ev (fun k => spec_l20Rd_odd.f k b p n) (v, p') := by
  unfold spec_l20Rd_odd.f
  by_cases h : n > 0
  · obtain ⟨v, a, c, hE⟩ := pick_ok (n := n) hb hp0 hp1 (by omega)
    exact ⟨_, p + 1, by omega, by omega, fun e => by omega, ev_pos h (Ev.bind hE (Ev.now _))⟩
  · exact ⟨false, p, by omega, by omega, fun _ => rfl, ev_neg h (Ev.now _)⟩

/-! pack drawsent: drawn texts that are mostly sentences -/
def zS : Nat → Nat
  | 0 => 1
  | d + 1 => 2 * zS d + 3
def cS : Nat → Nat
  | 0 => 1
  | d + 1 => 2 * cS d + 2
def zT : Nat → Nat
  | 0 => 40
  | d + 1 => 2 * zT d + 3
def cT : Nat → Nat
  | 0 => 30
  | d + 1 => 2 * cT d + 3
theorem zS_ge : ∀ d, d ≤ zS d
  | 0 => by omega
  | d + 1 => by have := zS_ge d; simp only [zS]; omega
theorem zT_ge : ∀ d, d + 40 ≤ zT d
  | 0 => by simp [zT]
  | d + 1 => by have := zT_ge d; simp only [zT]; omega
theorem cT_ge : ∀ d, 30 ≤ cT d
  | 0 => by simp [cT]
  | d + 1 => by have := cT_ge d; simp only [cT]; omega
theorem letters_size : ∀ v : Fin 4, (rdOf ByteArray.empty ([(⟨#[97]⟩ : ByteArray), (⟨#[98]⟩ : ByteArray), (⟨#[99]⟩ : ByteArray), (⟨#[100]⟩ : ByteArray)] : List ByteArray) (v.val : Int)).size = 1 := by decide +kernel
theorem signs_size : ∀ v : Fin 2, (rdOf ByteArray.empty ([(⟨#[38]⟩ : ByteArray), (⟨#[124]⟩ : ByteArray)] : List ByteArray) (v.val : Int)).size = 1 := by decide +kernel
theorem spoils_size : ∀ v : Fin 5, (rdOf ByteArray.empty ([(⟨#[]⟩ : ByteArray), (⟨#[97]⟩ : ByteArray), (⟨#[40]⟩ : ByteArray), (⟨#[101]⟩ : ByteArray), (⟨#[126]⟩ : ByteArray)] : List ByteArray) (v.val : Int)).size ≤ 1 := by decide +kernel
theorem names_len10 : ((spec_l20Names.f).getD []).length = 10 := by decide +kernel
theorem names_ok : spec_l20Names.f = some ((spec_l20Names.f).getD []) := by decide +kernel
theorem names_size : ∀ v : Fin 10, (rdOf ByteArray.empty ((spec_l20Names.f).getD []) (v.val : Int)).size ≤ 8 := by decide +kernel
theorem letter_draw {b : List Int} (hb : Rdr b) (x p : Int) (hp0 : 0 ≤ p) (hp1 : p ≤ 1000000) : ∃ s : ByteArray, s.size = 1 ∧ Ev (fun k => spec_l20Set.j0 k x true b p) (s, p + 1) := by
  obtain ⟨v, v0, v1, hv⟩ := pick_ok (p := p) (n := 4) hb hp0 hp1 (by omega)
  obtain ⟨n, rfl⟩ := Int.eq_ofNat_of_zero_le v0
  exact ⟨_, letters_size ⟨n, by omega⟩, Ev.step (fun _ => spec_l20Set.j0.eq_2 _ _ _ _ _) (ev_pos rfl (ev_bind rfl (Ev.bind hv (ev_pos v0 (ev_pos (by simp; omega) (Ev.now _))))))⟩
theorem wnx {x : Nat} (h : x ≤ 17000000000000) : wrap64 ((x : Int) + 1) = ((x + 1 : Nat) : Int) := by unfold wrap64; omega
theorem wdn {d : Nat} (h : d ≤ 17000000000000) : wrap64 (((d + 1 : Nat) : Int) - 1) = (d : Int) := by unfold wrap64; omega
theorem app_size (a b : ByteArray) : (a ++ b).size = a.size + b.size := ByteArray.size_append
theorem set_draw {b : List Int} (hb : Rdr b) : ∀ (d : Nat) (p : Int), 0 ≤ p → p + (cS d : Int) ≤ 1000000 → zS d ≤ 1000 → ∃ (s : ByteArray) (p' : Int), 1 ≤ s.size ∧ s.size ≤ zS d ∧ p ≤ p' ∧ p' ≤ p + (cS d : Int) ∧ Ev (fun k => spec_l20Set.f k b p (d : Int)) (s, p')
  | 0, p, h0, h1, _ => by
    simp only [cS] at h1
    obtain ⟨s, hs, hE⟩ := letter_draw hb 0 p h0 (by omega)
    exact ⟨s, p + 1, by omega, by simp only [zS]; omega, by omega, by simp only [cS]; omega, Ev.step (fun _ => spec_l20Set.f.eq_2 _ _ _ _) (ev_pos rfl hE)⟩
  | d + 1, p, h0, h1, hz => by
    simp only [cS] at h1
    simp only [zS] at hz
    have hdz := zS_ge d
    obtain ⟨v, v0, v1, hv⟩ := pick_ok (p := p) (n := 2) hb h0 (by omega) (by omega)
    obtain ⟨s, hs, hE⟩ := letter_draw hb ((d + 1 : Nat) : Int) (p + 1) (by omega) (by omega)
    by_cases c : v = 0
    · subst c
      exact ⟨s, p + 1 + 1, by omega, by simp only [zS]; omega, by omega, by simp only [cS]; omega, Ev.step (fun _ => spec_l20Set.f.eq_2 _ _ _ _) (ev_neg (by omega) (Ev.bind hv hE))⟩
    · obtain ⟨u, u0, u1, hu⟩ := pick_ok (p := p + 1) (n := 3) hb (by omega) (by omega) (by omega)
      obtain ⟨s1, p1, a0, a1, a2, a3, hE1⟩ := set_draw hb d (p + 1 + 1) (by omega) (by omega) (by omega)
      obtain ⟨s2, p2, b0, b1, b2, b3, hE2⟩ := set_draw hb d p1 (by omega) (by omega) (by omega)
      have EW : Aside0 (wrap64 (((d + 1 : Nat) : Int) - 1) = (d : Int)) := ⟨wdn (by omega)⟩
      have hv' : (v == 0) = false := by rw [beq_eq_false_iff_ne]; exact c
      have base : ∀ {r : ByteArray × Int}, Ev (fun k => spec_l20Set.j0 k ((d + 1 : Nat) : Int) false b (p + 1)) r → Ev (fun k => spec_l20Set.f k b p ((d + 1 : Nat) : Int)) r := fun h => Ev.step (fun _ => spec_l20Set.f.eq_2 _ _ _ _) (ev_neg (by omega) (Ev.bind hv (by simp only [hv']; exact h)))
      by_cases c0 : u = 0
      · refine ⟨(⟨#[33]⟩ : ByteArray) ++ s1, p1, by rw [app_size]; omega, by rw [app_size]; show 1 + s1.size ≤ _; simp only [zS]; omega, by omega, by simp only [cS]; omega, base (Ev.step (fun _ => spec_l20Set.j0.eq_2 _ _ _ _ _) (ev_neg (by simp) (Ev.bind hu (ev_pos c0 ?_))))⟩
        rw [EW.out]
        exact Ev.bind hE1 (ev_pos (by dsimp only; omega) (Ev.now _))
      · by_cases c1 : u = 1
        · refine ⟨((((⟨#[40]⟩ : ByteArray) ++ s1) ++ (⟨#[38]⟩ : ByteArray)) ++ s2) ++ (⟨#[41]⟩ : ByteArray), p2, by simp only [app_size]; omega, by simp only [app_size]; show 1 + s1.size + 1 + s2.size + 1 ≤ _; simp only [zS]; omega, by omega, by simp only [cS]; omega, base (Ev.step (fun _ => spec_l20Set.j0.eq_2 _ _ _ _ _) (ev_neg (by simp) (Ev.bind hu (ev_neg c0 (ev_pos c1 ?_)))))⟩
          rw [EW.out]
          exact Ev.bind hE1 (ev_pos (by dsimp only; omega) (ev_pos (by dsimp only; omega) (Ev.bind hE2 (ev_pos (by dsimp only; omega) (ev_pos (by dsimp only; omega) (Ev.now _))))))
        · refine ⟨((((⟨#[40]⟩ : ByteArray) ++ s1) ++ (⟨#[124]⟩ : ByteArray)) ++ s2) ++ (⟨#[41]⟩ : ByteArray), p2, by simp only [app_size]; omega, by simp only [app_size]; show 1 + s1.size + 1 + s2.size + 1 ≤ _; simp only [zS]; omega, by omega, by simp only [cS]; omega, base (Ev.step (fun _ => spec_l20Set.j0.eq_2 _ _ _ _ _) (ev_neg (by simp) (Ev.bind hu (ev_neg c0 (ev_neg c1 ?_)))))⟩
          rw [EW.out]
          exact Ev.bind hE1 (ev_pos (by dsimp only; omega) (ev_pos (by dsimp only; omega) (Ev.bind hE2 (ev_pos (by dsimp only; omega) (ev_pos (by dsimp only; omega) (Ev.now _))))))
theorem plain_draw {b : List Int} (hb : Rdr b) (x p : Int) (hp0 : 0 ≤ p) (hp1 : p ≤ 900000) : ∃ (s : ByteArray) (p' : Int), 1 ≤ s.size ∧ s.size ≤ 40 ∧ p ≤ p' ∧ p' ≤ p + 30 ∧ Ev (fun k => spec_l20Sentence.j0 k x false b p) (s, p') := by
  obtain ⟨v, v0, v1, hv⟩ := pick_ok (p := p) (n := 10) hb hp0 (by omega) (by omega)
  obtain ⟨n, rfl⟩ := Int.eq_ofNat_of_zero_le v0
  have hn := names_size ⟨n, by omega⟩
  simp only at hn
  obtain ⟨s1, p1, a0, a1, a2, a3, hE1⟩ := set_draw hb 2 (p + 1) (by omega) (by simp only [cS]; omega) (by decide)
  obtain ⟨s2, p2, b0, b1, b2, b3, hE2⟩ := set_draw hb 2 p1 (by omega) (by simp only [cS] at a3 ⊢; omega) (by decide)
  simp only [cS, zS] at a1 a3 b1 b3
  have hl := names_len10
  obtain ⟨N, hN⟩ : ∃ N, (spec_l20Names.f).getD [] = N := ⟨_, rfl⟩
  have hok := names_ok
  rw [hN] at hok hl hn
  refine ⟨((((rdOf ByteArray.empty N (n : Int) ++ (⟨#[40]⟩ : ByteArray)) ++ s1) ++ (⟨#[44]⟩ : ByteArray)) ++ s2) ++ (⟨#[41]⟩ : ByteArray), p2, by simp only [app_size]; omega, by simp only [app_size]; show (rdOf ByteArray.empty N (n : Int)).size + 1 + s1.size + 1 + s2.size + 1 ≤ _; omega, by omega, by omega, ?_⟩
  refine Ev.step (fun _ => spec_l20Sentence.j0.eq_2 _ _ _ _ _) (ev_neg (by simp) (ev_bind hok (Ev.bind hv (ev_pos v0 (ev_pos (by dsimp only; omega) (ev_pos (by dsimp only; omega) (Ev.bind hE1 ?_)))))))
  exact ev_pos (by dsimp only; omega) (ev_pos (by dsimp only; omega) (Ev.bind hE2 (ev_pos (by dsimp only; omega) (ev_pos (by dsimp only; omega) (Ev.now _)))))
theorem sent_draw {b : List Int} (hb : Rdr b) : ∀ (d : Nat) (p : Int), 0 ≤ p → p + (cT d : Int) ≤ 900000 → zT d ≤ 1000 → ∃ (s : ByteArray) (p' : Int), 1 ≤ s.size ∧ s.size ≤ zT d ∧ p ≤ p' ∧ p' ≤ p + (cT d : Int) ∧ Ev (fun k => spec_l20Sentence.f k b p (d : Int)) (s, p')
  | 0, p, h0, h1, _ => by
    simp only [cT] at h1
    obtain ⟨s, p', a0, a1, a2, a3, hE⟩ := plain_draw hb 0 p h0 (by omega)
    exact ⟨s, p', a0, by simp only [zT]; omega, a2, by simp only [cT]; omega, Ev.step (fun _ => spec_l20Sentence.f.eq_2 _ _ _ _) (ev_neg (by simp) hE)⟩
  | d + 1, p, h0, h1, hz => by
    simp only [cT] at h1
    simp only [zT] at hz
    have hc := cT_ge d
    have hzz := zT_ge d
    obtain ⟨v, v0, v1, hv⟩ := pick_ok (p := p) (n := 3) hb h0 (by omega) (by omega)
    by_cases c : v = 0
    · subst c
      obtain ⟨u, u0, u1, hu⟩ := pick_ok (p := p + 1) (n := 2) hb (by omega) (by omega) (by omega)
      obtain ⟨s1, p1, a0, a1, a2, a3, hE1⟩ := sent_draw hb d (p + 1 + 1) (by omega) (by omega) (by omega)
      obtain ⟨t, t0, t1, ht⟩ := pick_ok (p := p1) (n := 2) hb (by omega) (by omega) (by omega)
      obtain ⟨s2, p2, b0, b1, b2, b3, hE2⟩ := sent_draw hb d (p1 + 1) (by omega) (by omega) (by omega)
      have EW : Aside0 (wrap64 (((d + 1 : Nat) : Int) - 1) = (d : Int)) := ⟨wdn (by omega)⟩
      by_cases c0 : u = 0
      · refine ⟨(⟨#[126]⟩ : ByteArray) ++ s1, p1, by rw [app_size]; omega, by rw [app_size]; show 1 + s1.size ≤ _; simp only [zT]; omega, by omega, by simp only [cT]; omega, Ev.step (fun _ => spec_l20Sentence.f.eq_2 _ _ _ _) (ev_pos (by omega) (Ev.bind hv (Ev.step (fun _ => spec_l20Sentence.j0.eq_2 _ _ _ _ _) (ev_pos rfl (Ev.bind hu (ev_pos c0 ?_))))))⟩
        rw [EW.out]
        exact Ev.bind hE1 (ev_pos (by dsimp only; omega) (Ev.now _))
      · obtain ⟨n, rfl⟩ := Int.eq_ofNat_of_zero_le t0
        have hn := signs_size ⟨n, by omega⟩
        simp only at hn
        refine ⟨((((⟨#[91]⟩ : ByteArray) ++ s1) ++ rdOf ByteArray.empty ([(⟨#[38]⟩ : ByteArray), (⟨#[124]⟩ : ByteArray)] : List ByteArray) (n : Int)) ++ s2) ++ (⟨#[93]⟩ : ByteArray), p2, by simp only [app_size]; omega, by simp only [app_size, hn]; show 1 + s1.size + 1 + s2.size + 1 ≤ _; simp only [zT]; omega, by omega, by simp only [cT]; omega, Ev.step (fun _ => spec_l20Sentence.f.eq_2 _ _ _ _) (ev_pos (by omega) (Ev.bind hv (Ev.step (fun _ => spec_l20Sentence.j0.eq_2 _ _ _ _ _) (ev_pos rfl (Ev.bind hu (ev_neg c0 ?_))))))⟩
        rw [EW.out]
        refine Ev.bind hE1 (ev_pos (by dsimp only; omega) (ev_bind rfl (Ev.bind ht (ev_pos t0 (ev_pos (by simp; omega) (ev_pos (by dsimp only; rw [hn]; omega) (Ev.bind hE2 ?_)))))))
        exact ev_pos (by dsimp only; rw [hn]; omega) (ev_pos (by dsimp only; rw [hn]; omega) (Ev.now _))
    · obtain ⟨s, p', a0, a1, a2, a3, hE⟩ := plain_draw hb ((d + 1 : Nat) : Int) (p + 1) (by omega) (by omega)
      have hv' : (v == 0) = false := by rw [beq_eq_false_iff_ne]; exact c
      exact ⟨s, p', a0, by simp only [zT]; omega, by omega, by simp only [cT]; omega, Ev.step (fun _ => spec_l20Sentence.f.eq_2 _ _ _ _) (ev_pos (by omega) (Ev.bind hv (by simp only [hv']; exact hE)))⟩
theorem text_draw {b : List Int} (hb : Rdr b) (p n : Int) (hp0 : 0 ≤ p) (hp1 : p ≤ 500000) (hn : 0 ≤ n) (hn1 : n ≤ 1000) : ∃ (s : ByteArray) (p' : Int), s.size ≤ 81 ∧ p ≤ p' ∧ p' ≤ p + 200 ∧ Ev (fun k => spec_l20Text.f k b p n) (s, p') := by
  obtain ⟨s, p1, a0, a1, a2, a3, hE⟩ := sent_draw hb 2 p hp0 (by simp only [cT]; omega) (by decide)
  simp only [cT] at a3
  have tail : ∀ t : ByteArray, 1 ≤ t.size → t.size ≤ 80 → ∃ (s : ByteArray) (p' : Int), s.size ≤ 81 ∧ p ≤ p' ∧ p' ≤ p + 200 ∧ Ev (fun k => spec_l20Text.j0 k n t b p1) (s, p') := by
    intro t t0 t1
    obtain ⟨v, p2, b0, b1, _, hv⟩ := odd_ok (p := p1) (n := n) hb (by omega) (by omega) hn (by omega)
    cases v with
    | false => exact ⟨t, p2, by omega, by omega, by omega, Ev.step (fun _ => spec_l20Text.j0.eq_2 _ _ _ _ _) (Ev.bind hv (ev_neg (by simp) (Ev.now _)))⟩
    | true =>
      obtain ⟨i, i0, i1, hi⟩ := pick_ok (p := p2) (n := (t.size : Int)) hb (by omega) (by omega) (by omega)
      obtain ⟨j, j0, j1, hj⟩ := pick_ok (p := p2 + 1) (n := 5) hb (by omega) (by omega) (by omega)
      obtain ⟨x, rfl⟩ := Int.eq_ofNat_of_zero_le i0
      obtain ⟨y, rfl⟩ := Int.eq_ofNat_of_zero_le j0
      have hy := spoils_size ⟨y, by omega⟩
      simp only at hy
      have e1 : (t.extract 0 ((x : Int)).toNat).size = x := by rw [ByteArray.size_extract, Int.toNat_natCast]; omega
      have e2 : (t.extract (((x + 1 : Nat) : Int)).toNat t.size).size = t.size - (x + 1) := by rw [ByteArray.size_extract, Int.toNat_natCast]; omega
      refine ⟨(t.extract 0 ((x : Int)).toNat ++ rdOf ByteArray.empty ([(⟨#[]⟩ : ByteArray), (⟨#[97]⟩ : ByteArray), (⟨#[40]⟩ : ByteArray), (⟨#[101]⟩ : ByteArray), (⟨#[126]⟩ : ByteArray)] : List ByteArray) (y : Int)) ++ t.extract (wrap64 ((x : Int) + 1)).toNat t.size, p2 + 1 + 1, ?_, by omega, by omega, Ev.step (fun _ => spec_l20Text.j0.eq_2 _ _ _ _ _) (Ev.bind hv (ev_pos rfl (Ev.bind hi (ev_pos i0 (ev_pos (by dsimp only; omega) (ev_bind rfl (Ev.bind hj (ev_pos j0 (ev_pos (by simp; omega) ?_)))))))))⟩
      rotate_left
      · refine ev_pos (by dsimp only; rw [e1]; omega) (ev_pos (by dsimp only; rw [wnx (by omega)]; omega) (ev_pos (by dsimp only; rw [wnx (by omega)]; omega) (ev_pos (by dsimp only; rw [wnx (by omega), e1, e2]; omega) (Ev.now _))))
      · skip
        rw [app_size, app_size, wnx (by omega), e1, e2]
        omega
  unfold spec_l20Text.f
  by_cases c : (s.size : Int) > 80
  · obtain ⟨s', p', h1, h2, h3, h4⟩ := tail (⟨#[101, 118, 101, 114, 121, 40, 97, 44, 40, 98, 124, 99, 41, 41]⟩ : ByteArray) (by decide) (by decide)
    exact ⟨s', p', h1, h2, h3, Ev.bind hE (ev_pos c h4)⟩
  · obtain ⟨s', p', h1, h2, h3, h4⟩ := tail s a0 (by omega)
    exact ⟨s', p', h1, h2, h3, Ev.bind hE (ev_neg c h4)⟩

theorem alive_t : laws_alive.f = some true := by decide +kernel

/-! pack sread: what the reference's reader says of a sentence -/
theorem sread {L : List Int} {s : ByteArray} {p : PT} (sg : Int) (h0 : -1 ≤ sg) (h1 : sg ≤ 1) (h : pread s = some p) (hL : setsOk L = true) : spec_l7Read.f L s 0 sg [] = some (truv L p, sgns sg p, (s.size : Int)) := by
  obtain ⟨_, _, h80, hp⟩ := psent_top h
  unfold spec_l7Read.f
  rw [if_pos ⟨hL, rfl, h0, h1, by omega, by simp⟩, hp]
  rfl

/-! pack sentmarks: the reference's text of the signs of a sentence -/
def way3 (x : Int) : Prop := x = -1 ∨ x = 0 ∨ x = 1
theorem way3_neg {w : Int} (h : way3 w) : way3 (-w) := by unfold way3 at h ⊢; omega
theorem way3_sig {w f : Int} (h : way3 w) (hf : f = -1 ∨ f = 0 ∨ f = 1) : way3 (w * f) := by
  rcases h with rfl | rfl | rfl <;> rcases hf with rfl | rfl | rfl <;> unfold way3 <;> decide
theorem sgn_way {p : PT} (h : SetT p) : ∀ w : Int, way3 w → ∀ x ∈ sgn w p, way3 x := by
  induction h with
  | leaf => intro w hw x hx; simp only [sgn, List.mem_singleton] at hx; rw [hx]; exact hw
  | one _ ih => intro w hw; exact ih (-w) (way3_neg hw)
  | two _ _ _ ih1 ih2 =>
    intro w hw x hx
    simp only [sgn, List.mem_append] at hx
    exact hx.elim (ih1 w hw x) (ih2 w hw x)
theorem sgns_way {p : PT} (h : SentT p) : ∀ w : Int, way3 w → ∀ x ∈ sgns w p, way3 x := by
  induction h with
  | one _ ih => intro w hw; exact ih (-w) (way3_neg hw)
  | two _ _ _ ih1 ih2 =>
    intro w hw x hx
    simp only [sgns, List.mem_append] at hx
    exact hx.elim (ih1 w hw x) (ih2 w hw x)
  | tri _ _ h1 h2 =>
    intro w hw x hx
    simp only [sgns, List.mem_append] at hx
    exact hx.elim (sgn_way h1 _ (way3_sig hw (sig_range _ _)) x) (sgn_way h2 _ (way3_sig hw (sig_range _ _)) x)
theorem rdmem {l : List Int} {i : Int} (h0 : 0 ≤ i) (h1 : i < (l.length : Int)) : rd l i ∈ l := by
  unfold rd
  rw [List.getD_eq_getElem?_getD, List.getElem?_eq_getElem (by omega)]
  exact List.getElem_mem _
theorem mtx_one (l : List Int) (x : Int) : mtx (l ++ [x]) = mtx l ++ ⟨#[mch x]⟩ := by rw [← mtx_append]; rfl
theorem marks_loop (l : List Int) (hw : ∀ x ∈ l, way3 x) (hl : l.length ≤ 1000000) (d : Nat) : ∀ i : Nat, i + d = l.length → Ev (fun k => spec_MarksOf.l0 k l (mtx (l.take i)) i) (mtx l) := by
  induction d with
  | zero =>
    intro i hi
    refine Ev.step (fun _ => spec_MarksOf.l0.eq_2 _ _ _ _) (ev_neg (by omega) (ev_now ?_))
    rw [List.take_of_length_le (by omega)]
  | succ d ih =>
    intro i hi
    refine Ev.step (fun _ => spec_MarksOf.l0.eq_2 _ _ _ _) (ev_pos (by omega) (ev_bind rfl (ev_pos (by omega) ?_)))
    have hx := hw _ (rdmem (l := l) (i := (i : Int)) (by omega) (by omega))
    have ht : l.take (i + 1) = l.take i ++ [rd l (i : Int)] := by
      rw [List.take_succ_eq_append_getElem (by omega)]
      unfold rd
      rw [Int.toNat_natCast, List.getD_eq_getElem?_getD, List.getElem?_eq_getElem (by omega)]
      rfl
    have hn := ih (i + 1) (by omega)
    rw [ht, mtx_one] at hn
    have hsz : (mtx (l.take i)).size ≤ 1000000 := by rw [mtx_size, List.length_take]; omega
    obtain ⟨X, hX⟩ : ∃ X, rd l (i : Int) = X := ⟨_, rfl⟩
    rw [hX] at hx hn ⊢
    rcases hx with rfl | rfl | rfl
    · rw [show wrap64 (-1 + 1) = 0 by unfold wrap64; omega]
      refine ev_pos (by decide) (ev_pos (by decide) (ev_pos ?_ ?_))
      · show (mtx (l.take i)).size + 1 ≤ _; omega
      · rw [w64 (by omega) (by omega)]; exact hn
    · rw [show wrap64 (0 + 1) = 1 by unfold wrap64; omega]
      refine ev_pos (by decide) (ev_pos (by decide) (ev_pos ?_ ?_))
      · show (mtx (l.take i)).size + 1 ≤ _; omega
      · rw [w64 (by omega) (by omega)]; exact hn
    · rw [show wrap64 (1 + 1) = 2 by unfold wrap64; omega]
      refine ev_pos (by decide) (ev_pos (by decide) (ev_pos ?_ ?_))
      · show (mtx (l.take i)).size + 1 ≤ _; omega
      · rw [w64 (by omega) (by omega)]; exact hn
/-- the signs of a text that is a sentence -/
def markM (s : ByteArray) : ByteArray := match pread s with | none => ⟨#[]⟩ | some p => mtx (sgns 1 p)
theorem smarks (s : ByteArray) (hs : s.size ≤ 17000000000000) : Ev (fun k => spec_MarksOf.f k s) (markM s) := by
  unfold spec_MarksOf.f
  have hk : spec_SentenceOk.f s = some (pread s).isSome := by unfold spec_SentenceOk.f; rw [if_pos hs]
  refine ev_bind hk ?_
  unfold markM
  cases hp : pread s with
  | none => exact ev_neg (by simp) (ev_now rfl)
  | some p =>
    obtain ⟨ht, hl, _, _⟩ := psent_top hp
    refine ev_pos rfl (ev_bind (sread 1 (by decide) (by decide) hp (by decide)) ?_)
    have hlen : (sgns 1 p).length ≤ 1000000 := by rw [sgns_len _ ht]; omega
    exact marks_loop (sgns 1 p) (sgns_way ht 1 (by unfold way3; omega)) hlen (sgns 1 p).length 0 (by omega)

/-! pack place: where the reference finds a letter -/
def dp (b deep : Int) : Int := if b = 40 then deep + 1 else if b = 41 then deep - 1 else deep
def hit (b deep : Int) : Prop := 0 < deep ∧ 97 ≤ b ∧ b ≤ 100
section
variable {s : ByteArray} {num cnt deep r : Int} {i : Nat}
theorem pl_j2 (hi : i < s.size) (x8 : Bool) : Ev (fun k => spec_l7Place.j3 k s num cnt deep i (x8 && decide (97 ≤ bt s i ∧ bt s i ≤ 100))) r → Ev (fun k => spec_l7Place.j2 k s num cnt deep i x8) r := by
  intro h
  refine Ev.step (fun _ => spec_l7Place.j2.eq_2 _ _ _ _ _ _ _) ?_
  cases x8 with
  | false => exact ev_neg (by simp) h
  | true =>
    refine ev_pos rfl (ev_pos (by omega) (ev_pos (by omega) ?_))
    by_cases c : bt s i ≥ 97
    · refine ev_pos c ?_
      rw [show decide (bt s (i : Int) < 101) = (true && decide (97 ≤ bt s i ∧ bt s i ≤ 100)) by rw [Bool.true_and, Bool.eq_iff_iff]; simp; omega]
      exact h
    · refine ev_neg c ?_
      rw [show false = (true && decide (97 ≤ bt s i ∧ bt s i ≤ 100)) by rw [Bool.true_and, Bool.eq_iff_iff]; simp; omega]
      exact h
theorem pl_l0 (hi : i < s.size) (hs : s.size ≤ 100000) (h0 : 0 ≤ deep) (h1 : deep ≤ 100000) : Ev (fun k => spec_l7Place.j3 k s num cnt (dp (bt s i) deep) i (decide (0 < deep) && decide (97 ≤ bt s i ∧ bt s i ≤ 100))) r → Ev (fun k => spec_l7Place.l0 k s num cnt deep i) r := by
  intro h
  refine Ev.step (fun _ => spec_l7Place.l0.eq_2 _ _ _ _ _ _) (ev_pos (by omega) (ev_pos (by omega) ?_))
  by_cases c : bt s i = 40
  · refine ev_pos c (Ev.step (fun _ => spec_l7Place.j1.eq_2 _ _ _ _ _ _ _) (ev_pos (by omega) (ev_pos (by omega) (ev_neg (by omega) ?_))))
    rw [w64 (by omega) (by omega)]
    unfold dp at h
    rw [if_pos c] at h
    exact pl_j2 hi _ h
  · refine ev_neg c (Ev.step (fun _ => spec_l7Place.j1.eq_2 _ _ _ _ _ _ _) (ev_pos (by omega) (ev_pos (by omega) ?_)))
    unfold dp at h
    rw [if_neg c] at h
    by_cases c2 : bt s i = 41
    · rw [if_pos c2] at h
      refine ev_pos c2 ?_
      rw [w64 (by omega) (by omega)]
      exact pl_j2 hi _ h
    · rw [if_neg c2] at h
      exact ev_neg c2 (pl_j2 hi _ h)
/-- one byte: a letter that is sought -/
theorem pl_hit (hi : i < s.size) (hs : s.size ≤ 100000) (h0 : 0 ≤ deep) (h1 : deep ≤ 100000) (hh : hit (bt s i) deep) (hn : cnt = num) : Ev (fun k => spec_l7Place.l0 k s num cnt deep i) (i : Int) := by
  refine pl_l0 hi hs h0 h1 (Ev.step (fun _ => spec_l7Place.j3.eq_2 _ _ _ _ _ _ _) (ev_pos ?_ (ev_pos hn (ev_now rfl))))
  simp only [Bool.and_eq_true, decide_eq_true_eq]
  exact ⟨hh.1, hh.2⟩
/-- another letter -/
theorem pl_next (hi : i < s.size) (hs : s.size ≤ 100000) (h0 : 0 ≤ deep) (h1 : deep ≤ 100000) (hc0 : 0 ≤ cnt) (hc1 : cnt ≤ 100000) (hh : hit (bt s i) deep) (hn : cnt ≠ num) (h : Ev (fun k => spec_l7Place.l0 k s num (cnt + 1) deep ((i + 1 : Nat) : Int)) r) : Ev (fun k => spec_l7Place.l0 k s num cnt deep i) r := by
  refine pl_l0 hi hs h0 h1 (Ev.step (fun _ => spec_l7Place.j3.eq_2 _ _ _ _ _ _ _) (ev_pos ?_ (ev_neg hn ?_)))
  · simp only [Bool.and_eq_true, decide_eq_true_eq]
    exact ⟨hh.1, hh.2⟩
  · rw [w64 (by omega) (by omega), w64 (by omega) (by omega)]
    have hd : dp (bt s i) deep = deep := by unfold dp; rw [if_neg (by have := hh.2; omega), if_neg (by have := hh.2; omega)]
    rw [hd]
    exact h
/-- no letter -/
theorem pl_pass (hi : i < s.size) (hs : s.size ≤ 100000) (h0 : 0 ≤ deep) (h1 : deep ≤ 100000) (hh : ¬ hit (bt s i) deep) (h : Ev (fun k => spec_l7Place.l0 k s num cnt (dp (bt s i) deep) ((i + 1 : Nat) : Int)) r) : Ev (fun k => spec_l7Place.l0 k s num cnt deep i) r := by
  refine pl_l0 hi hs h0 h1 (Ev.step (fun _ => spec_l7Place.j3.eq_2 _ _ _ _ _ _ _) (ev_neg ?_ ?_))
  · simp only [Bool.and_eq_true, decide_eq_true_eq]
    exact hh
  · rw [w64 (by omega) (by omega)]
    exact h
end
/-- a part is scanned: the letter is found in it, or it goes on behind it -/
def Scan (s : ByteArray) (p : PT) (a e : Nat) (deep : Int) : Prop := ∀ (num cnt : Int), 0 ≤ cnt → cnt ≤ a → cnt ≤ num →
  (num < cnt + lvs p → Ev (fun k => spec_l7Place.l0 k s num cnt deep (a : Int)) (rd (plcs p) (num - cnt))) ∧
  (cnt + lvs p ≤ num → ∀ r, Ev (fun k => spec_l7Place.l0 k s num (cnt + lvs p) deep (e : Int)) r → Ev (fun k => spec_l7Place.l0 k s num cnt deep (a : Int)) r)
theorem rd_app1 {l m : List Int} {i : Int} (h0 : 0 ≤ i) (h : i < (l.length : Int)) : rd (l ++ m) i = rd l i := by
  unfold rd
  rw [List.getD_eq_getElem?_getD, List.getD_eq_getElem?_getD, List.getElem?_append_left (by omega)]
theorem rd_app2 {l m : List Int} {i : Int} (h0 : 0 ≤ i) (h : (l.length : Int) ≤ i) : rd (l ++ m) i = rd m (i - l.length) := by
  unfold rd
  rw [List.getD_eq_getElem?_getD, List.getD_eq_getElem?_getD, List.getElem?_append_right (by omega)]
  congr 2
  omega
theorem scan_pass {s : ByteArray} {p : PT} {a e : Nat} {deep : Int} (hs : s.size ≤ 100000) (ha : a < s.size) (h0 : 0 ≤ deep) (h1 : deep ≤ 100000) (hh : ¬ hit (bt s a) deep) (hd : dp (bt s a) deep = deep) (h : Scan s p (a + 1) e deep) : Scan s p a e deep := by
  intro num cnt c0 c1 c2
  obtain ⟨h2, h3⟩ := h num cnt c0 (by omega) c2
  refine ⟨fun k => pl_pass ha hs h0 h1 hh (by rw [hd]; exact h2 k), fun k r hr => pl_pass ha hs h0 h1 hh (by rw [hd]; exact h3 k r hr)⟩
/-- two parts with a byte between them -/
theorem scan_two {s : ByteArray} {x y : PT} {a a1 e : Nat} {deep : Int} (hs : s.size ≤ 100000) (h0 : 0 ≤ deep) (h1 : deep ≤ 100000) (ha1 : a1 < s.size) (hl : lvs x + a ≤ a1) (hh : ¬ hit (bt s a1) deep) (hd : dp (bt s a1) deep = deep) (hx : Scan s x a a1 deep) (hy : Scan s y (a1 + 1) e deep) :
    ∀ (num cnt : Int), 0 ≤ cnt → cnt ≤ a → cnt ≤ num →
      (num < cnt + (lvs x + lvs y : Nat) → Ev (fun k => spec_l7Place.l0 k s num cnt deep (a : Int)) (rd (plcs x ++ plcs y) (num - cnt))) ∧
      (cnt + (lvs x + lvs y : Nat) ≤ num → ∀ r, Ev (fun k => spec_l7Place.l0 k s num (cnt + (lvs x + lvs y : Nat)) deep (e : Int)) r → Ev (fun k => spec_l7Place.l0 k s num cnt deep (a : Int)) r) := by
  intro num cnt c0 c1 c2
  obtain ⟨k1, k2⟩ := hx num cnt c0 c1 c2
  have hlx := plcs_len x
  by_cases c : num < cnt + lvs x
  · refine ⟨fun _ => ?_, fun h => absurd h (by omega)⟩
    rw [rd_app1 (by omega) (by omega)]
    exact k1 c
  · have k3 := k2 (by omega)
    obtain ⟨k4, k5⟩ := hy num (cnt + lvs x) (by omega) (by omega) (by omega)
    refine ⟨fun h => ?_, fun h r hr => ?_⟩
    · rw [rd_app2 (by omega) (by omega)]
      refine k3 _ (pl_pass ha1 hs h0 h1 hh ?_)
      rw [hd, show num - cnt - ((plcs x).length : Int) = num - (cnt + lvs x) by omega]
      exact k4 (by omega)
    · refine k3 _ (pl_pass ha1 hs h0 h1 hh ?_)
      rw [hd]
      refine k5 (by omega) r ?_
      rw [show cnt + (lvs x : Int) + (lvs y : Int) = cnt + ((lvs x + lvs y : Nat) : Int) by omega]
      exact hr
theorem nohit {b deep : Int} (h : b < 97 ∨ 100 < b ∨ deep ≤ 0) : ¬ hit b deep := fun hh => by have := hh.1; have := hh.2; omega
theorem dp_same {b deep : Int} (h : b ≠ 40) (h2 : b ≠ 41) : dp b deep = deep := by unfold dp; rw [if_neg h, if_neg h2]
theorem scan_set (s : ByteArray) (hs : s.size ≤ 100000) : ∀ (n a : Nat) (p : PT) (e : Nat) (deep : Int), a ≤ s.size → pset n s a = some (p, e) → 1 ≤ deep → deep ≤ a → Scan s p a e deep
  | 0, a, p, e, deep, _, h, _, _ => by cases h
  | n + 1, a, p, e, deep, ha, h, h1, h2 => by
    unfold pset at h
    split at h
    · rename_i c
      obtain ⟨k1, k2⟩ := nxt_pos ha (show (nxt s a).1 ≠ 0 by omega)
      rw [nxt_lt k1] at h c
      simp only at h c
      injection h with h
      injection h with h h'
      subst h; subst h'
      have hh : hit (bt s a) deep := ⟨by omega, c⟩
      intro num cnt c0 c1 c2
      refine ⟨fun hk => ?_, fun hk r hr => ?_⟩
      · have hc : cnt = num := by simp only [lvs] at hk; omega
        subst hc
        rw [show cnt - cnt = 0 by omega]
        exact pl_hit k1 hs (by omega) (by omega) hh rfl
      · exact pl_next k1 hs (by omega) (by omega) c0 (by omega) hh (by simp only [lvs] at hk; omega) hr
    · split at h
      · rename_i c
        obtain ⟨k1, k2⟩ := nxt_pos ha (show (nxt s a).1 ≠ 0 by omega)
        rw [nxt_lt k1] at c
        simp only at c
        cases h3 : pset n s (a + 1) with
        | none => rw [h3] at h; cases h
        | some r =>
          obtain ⟨x, e'⟩ := r
          rw [h3] at h
          injection h with h
          injection h with h h'
          subst h; subst h'
          exact scan_pass (p := x) hs k1 (by omega) (by omega) (nohit (by omega)) (dp_same (by omega) (by omega)) (scan_set s hs n (a + 1) x _ deep k1 h3 h1 (by omega))
      · split at h
        · rename_i c
          obtain ⟨k1, k2⟩ := nxt_pos ha (show (nxt s a).1 ≠ 0 by omega)
          rw [nxt_lt k1] at c
          simp only at c
          obtain ⟨x, y, a1, a3, q1, q2, q3, q4, q5, q6⟩ := ptwo_two h
          have p1 := pset_place s n _ _ _ k1 q1
          obtain ⟨p2, p3⟩ := nxt_pos p1.2 (show (nxt s a1).1 ≠ 0 by omega)
          rw [p3] at q2
          rw [nxt_lt p2] at q3
          simp only at q3
          have p4 := pset_place s n _ _ _ p2 q2
          obtain ⟨p5, p6⟩ := nxt_pos p4.2 (show (nxt s a3).1 ≠ 0 by omega)
          rw [p6] at q6
          rw [nxt_lt p5] at q4
          simp only at q4
          have pl := (pset_ok s n _ _ _ k1 q1).2
          have pm := (pset_ok s n _ _ _ p2 q2).2
          subst q5; subst q6
          have hx := scan_set s hs n (a + 1) x a1 (deep + 1) k1 q1 (by omega) (by omega)
          have hy := scan_set s hs n (a1 + 1) y a3 (deep + 1) p2 q2 (by omega) (by omega)
          have hxy := scan_two (e := a3) hs (by omega) (by omega) p2 pl (nohit (by omega)) (dp_same (by omega) (by omega)) hx hy
          intro num cnt c0 c1 c2
          obtain ⟨m1, m2⟩ := hxy num cnt c0 (by omega) c2
          have hd0 : dp (bt s a) deep = deep + 1 := by unfold dp; rw [if_pos c]
          have hd3 : dp (bt s a3) (deep + 1) = deep := by unfold dp; rw [if_neg (by omega), if_pos q4]; omega
          refine ⟨fun hk => pl_pass k1 hs (by omega) (by omega) (nohit (by omega)) (by rw [hd0]; exact m1 hk), fun hk r hr => pl_pass k1 hs (by omega) (by omega) (nohit (by omega)) (by rw [hd0]; exact m2 hk r (pl_pass p5 hs (by omega) (by omega) (nohit (by omega)) (by rw [hd3]; exact hr)))⟩
        · cases h
theorem nms_bytes : ∀ e ∈ nms, ∀ b ∈ e.1, b ≠ 41 ∧ b ≠ 40 := by decide +kernel
/-- the bytes of a name -/
theorem name_bytes {s : ByteArray} {a o : Nat} {t : List Int} (ha : a ≤ o) (ho : o ≤ s.size) (h : ntri (s.extract a o) = some t) (i : Nat) (h1 : a ≤ i) (h2 : i < o) : bt s (i : Int) ≠ 41 ∧ bt s (i : Int) ≠ 40 := by
  have hm := ntri_some h
  have hx : (s.extract a o).data.toList = (s.data.toList.take o).drop a := ext_toList s a o
  rw [hx] at hm
  have hl : s.data.toList.length = s.size := by rw [Array.length_toList]; rfl
  have hb : s.data.toList.getD i 0 ∈ (s.data.toList.take o).drop a := by
    rw [List.getD_eq_getElem?_getD, List.getElem?_eq_getElem (by omega)]
    rw [List.mem_iff_getElem?]
    refine ⟨i - a, ?_⟩
    rw [List.getElem?_drop, List.getElem?_take, if_pos (by omega), show a + (i - a) = i by omega, List.getElem?_eq_getElem (by omega)]
    rfl
  have hq := nms_bytes _ hm _ hb
  rw [bt_getD]
  constructor
  · intro he; exact hq.1 (UInt8.toNat.inj (by show _ = 41; omega))
  · intro he; exact hq.2 (UInt8.toNat.inj (by show _ = 40; omega))
theorem scan_name {s : ByteArray} (hs : s.size ≤ 100000) {num cnt r : Int} (o : Nat) (ho : o ≤ s.size) (d : Nat) : ∀ i : Nat, i + d = o → (∀ j : Nat, i ≤ j → j < o → bt s (j : Int) ≠ 41 ∧ bt s (j : Int) ≠ 40) → Ev (fun k => spec_l7Place.l0 k s num cnt 0 (o : Int)) r → Ev (fun k => spec_l7Place.l0 k s num cnt 0 (i : Int)) r := by
  induction d with
  | zero => intro i hi _ h; rw [show i = o by omega]; exact h
  | succ d ih =>
    intro i hi hb h
    have hbi := hb i (Nat.le_refl _) (by omega)
    refine pl_pass (by omega) hs (by omega) (by omega) (nohit (by omega)) ?_
    rw [dp_same hbi.2 hbi.1]
    exact ih (i + 1) (by omega) (fun j h1 h2 => hb j (by omega) h2) h
theorem scan_sent (s : ByteArray) (hs : s.size ≤ 100000) : ∀ (n a : Nat) (p : PT) (e : Nat), a ≤ s.size → psent n s a = some (p, e) → Scan s p a e 0
  | 0, a, p, e, _, h => by cases h
  | n + 1, a, p, e, ha, h => by
    by_cases c1 : (nxt s a).1 = 126
    · unfold psent at h
      rw [if_pos c1] at h
      obtain ⟨k1, k2⟩ := nxt_pos ha (show (nxt s a).1 ≠ 0 by omega)
      rw [nxt_lt k1] at c1
      simp only at c1
      cases h3 : psent n s (a + 1) with
      | none => rw [h3] at h; cases h
      | some r =>
        obtain ⟨x, e'⟩ := r
        rw [h3] at h
        injection h with h
        injection h with h h'
        subst h; subst h'
        exact scan_pass (p := x) hs k1 (by omega) (by omega) (nohit (by omega)) (dp_same (by omega) (by omega)) (scan_sent s hs n (a + 1) x _ k1 h3)
    · by_cases c : (nxt s a).1 = 91
      · unfold psent at h
        rw [if_neg c1, if_pos c] at h
        obtain ⟨k1, k2⟩ := nxt_pos ha (show (nxt s a).1 ≠ 0 by omega)
        rw [nxt_lt k1] at c
        simp only at c
        obtain ⟨x, y, a1, a3, q1, q2, q3, q4, q5, q6⟩ := ptwo_two h
        have p1 := psent_place s n _ _ _ k1 q1
        obtain ⟨p2, p3⟩ := nxt_pos p1.2 (show (nxt s a1).1 ≠ 0 by omega)
        rw [p3] at q2
        rw [nxt_lt p2] at q3
        simp only at q3
        have p4 := psent_place s n _ _ _ p2 q2
        obtain ⟨p5, p6⟩ := nxt_pos p4.2 (show (nxt s a3).1 ≠ 0 by omega)
        rw [p6] at q6
        rw [nxt_lt p5] at q4
        simp only at q4
        have pl := (psent_ok s n _ _ _ k1 q1).2
        subst q5; subst q6
        have hx := scan_sent s hs n (a + 1) x a1 k1 q1
        have hy := scan_sent s hs n (a1 + 1) y a3 p2 q2
        have hxy := scan_two (e := a3) hs (by omega) (by omega) p2 pl (nohit (by omega)) (dp_same (by omega) (by omega)) hx hy
        intro num cnt c0 c1 c2
        obtain ⟨m1, m2⟩ := hxy num cnt c0 (by omega) c2
        refine ⟨fun hk => pl_pass k1 hs (by omega) (by omega) (nohit (by omega)) (by rw [dp_same (by omega) (by omega)]; exact m1 hk), fun hk r hr => pl_pass k1 hs (by omega) (by omega) (nohit (by omega)) (by rw [dp_same (by omega) (by omega)]; exact m2 hk r (pl_pass p5 hs (by omega) (by omega) (nohit (by omega)) (by rw [dp_same (by omega) (by omega)]; exact hr)))⟩
      · rw [psent_tri c1 c] at h
        unfold ptri at h
        split at h
        · cases h
        · rename_i hn
          obtain ⟨o, o1, o2, o3, o4⟩ := open_spec s a ha
          rcases o4 with ⟨o4, _⟩ | ⟨_, o5, o6, o7⟩
          · exact absurd o4 hn
          · rw [← o5] at h
            cases h0 : ntri (s.extract a o) with
            | none => rw [h0] at h; cases h
            | some t =>
              rw [h0] at h
              simp only at h
              cases hq : ptwo (pset (s.size + 1) s) [44] 41 s (o + 1) with
              | none => rw [hq] at h; cases h
              | some r =>
                obtain ⟨r1, r2⟩ := r
                obtain ⟨x, y, a1, a3, q1, q2, q3, q4, q5, q6⟩ := ptwo_44 hq
                have p1 := pset_place s _ _ _ _ (show o + 1 ≤ s.size by omega) q1
                obtain ⟨p2, p3⟩ := nxt_pos p1.2 (show (nxt s a1).1 ≠ 0 by omega)
                rw [p3] at q2
                rw [nxt_lt p2] at q3
                simp only at q3
                have p4 := pset_place s _ _ _ _ p2 q2
                obtain ⟨p5, p6⟩ := nxt_pos p4.2 (show (nxt s a3).1 ≠ 0 by omega)
                rw [p6] at q6
                rw [nxt_lt p5] at q4
                simp only at q4
                have pl := (pset_ok s _ _ _ _ (show o + 1 ≤ s.size by omega) q1).2
                subst q5; subst q6
                rw [hq] at h
                simp only at h
                injection h with h
                injection h with h h'
                subst h; subst h'
                have hx := scan_set s hs _ (o + 1) x a1 1 (by omega) q1 (by omega) (by omega)
                have hy := scan_set s hs _ (a1 + 1) y a3 1 p2 q2 (by omega) (by omega)
                have hxy := scan_two (e := a3) hs (by omega) (by omega) p2 pl (nohit (by omega)) (dp_same (by omega) (by omega)) hx hy
                have hd0 : dp (bt s o) 0 = 1 := by unfold dp; rw [if_pos o7]; rfl
                have hd3 : dp (bt s a3) 1 = 0 := by unfold dp; rw [if_neg (by omega), if_pos q4]; rfl
                intro num cnt c0 c1 c2
                obtain ⟨m1, m2⟩ := hxy num cnt c0 (by omega) c2
                have hnb := fun (j : Nat) h1 h2 => name_bytes o1 o2 h0 j h1 h2
                refine ⟨fun hk => scan_name hs o o2 (o - a) a (by omega) hnb (pl_pass o6 hs (by omega) (by omega) (nohit (by omega)) (by rw [hd0]; exact m1 hk)), fun hk r hr => scan_name hs o o2 (o - a) a (by omega) hnb (pl_pass o6 hs (by omega) (by omega) (nohit (by omega)) (by rw [hd0]; exact m2 hk r (pl_pass p5 hs (by omega) (by omega) (nohit (by omega)) (by rw [hd3]; exact hr))))⟩
/-- the place of a letter of a sentence -/
theorem splace {s : ByteArray} {p : PT} (h : pread s = some p) {num : Int} (h0 : 0 ≤ num) (h1 : num < (lvs p : Int)) : Ev (fun k => spec_l7Place.f k s num) (rd (plcs p) num) := by
  obtain ⟨_, _, h80, hp⟩ := psent_top h
  unfold spec_l7Place.f
  have := (scan_sent s (by omega) _ 0 p s.size (by omega) hp num 0 (by omega) (by omega) h0).1 (by omega)
  rw [show num - 0 = num by omega] at this
  exact this

/-! pack l1marks: bounds, and how many signs there are -/
theorem l1in (n lo hi : Int) : spec_l1In.f n lo hi = some (decide (lo ≤ n ∧ n ≤ hi)) := by
  unfold spec_l1In.f
  by_cases h : n ≥ lo
  · rw [if_pos h]; congr 1; rw [Bool.eq_iff_iff]; simp; omega
  · rw [if_neg h]; congr 1; rw [Bool.eq_iff_iff]; simp; omega
theorem markM_size {s : ByteArray} {p : PT} (h : pread s = some p) : (markM s).size = lvs p := by
  unfold markM
  rw [h]
  simp only
  rw [mtx_size, sgns_len _ (psent_top h).1]

/-! pack letters: which letter stands at a place -/
def letM (s : ByteArray) (n : Int) : Int := match pread s with | none => -1 | some p => if 0 ≤ n ∧ n < (lvs p : Int) then bt s (rd (plcs p) n) - 97 else -1
theorem ilet (s : ByteArray) (n : Int) : impl_LetterAt.f s n = some (letM s n) := rfl
theorem slet (s : ByteArray) (n : Int) (hs : s.size ≤ 17000000000000) : Ev (fun k => spec_LetterAt.f k s n) (letM s n) := by
  unfold spec_LetterAt.f
  have hk : spec_SentenceOk.f s = some (pread s).isSome := by unfold spec_SentenceOk.f; rw [if_pos hs]
  refine ev_bind hk ?_
  unfold letM
  cases hp : pread s with
  | none => exact ev_neg (by simp) (ev_now rfl)
  | some p =>
    have hl := (psent_top hp).2.1
    have hm := markM_size hp
    refine ev_pos rfl (Ev.bind (smarks s hs) (ev_bind (l1in _ _ _) ?_))
    rw [hm, w64 (by omega) (by omega)]
    by_cases c : 0 ≤ n ∧ n < (lvs p : Int)
    · have hx := leafs_at (top_leafs hp) (rd (plcs p) n) (rd_mem c.1 (by rw [plcs_len]; exact c.2))
      simp only
      rw [if_pos c]
      refine ev_pos (by simp; omega) (Ev.bind (splace hp c.1 c.2) (ev_pos hx.1 (ev_pos hx.2.1 (ev_now ?_))))
      have e1 : wrap64 (bt s (rd (plcs p) n)) = bt s (rd (plcs p) n) := w64 (by omega) (by omega)
      rw [e1, w64 (by omega) (by omega)]
    · simp only
      rw [if_neg c]
      exact ev_neg (by simp; omega) (ev_now rfl)

/-! pack replaced2: a letter replaced by itself -/
theorem wone {n : Nat} (h : n ≤ 1000000) : wrap64 ((n : Int) + 1) = (n : Int) + 1 := by unfold wrap64; omega
theorem letM_cases (s : ByteArray) (n : Int) : letM s n = -1 ∨ ∃ p, pread s = some p ∧ (0 ≤ n ∧ n < (lvs p : Int)) ∧ letM s n = bt s (rd (plcs p) n) - 97 := by
  unfold letM
  cases hp : pread s with
  | none => exact .inl rfl
  | some p =>
    by_cases c : 0 ≤ n ∧ n < (lvs p : Int)
    · exact .inr ⟨p, rfl, c, if_pos c⟩
    · exact .inl (if_neg c)
theorem lch_byte : ∀ v : Fin 4, (lch (v.val : Int)).data.toList = [(97 + v.val).toUInt8] := by decide +kernel
theorem repl_self {s : ByteArray} {i : Int} (h0 : 0 ≤ i) (h1 : i < (s.size : Int)) (h2 : 97 ≤ bt s i) (h3 : bt s i ≤ 100) : repl s i (bt s i - 97) = s := by
  obtain ⟨x, rfl⟩ := Int.eq_ofNat_of_zero_le h0
  obtain ⟨v, hv⟩ : ∃ v : Nat, bt s (x : Int) - 97 = (v : Int) := ⟨(bt s (x : Int) - 97).toNat, by omega⟩
  have hl := lch_byte ⟨v, by omega⟩
  simp only at hl
  have hb := bt_getD s x
  have hlen : s.data.toList.length = s.size := by rw [Array.length_toList]; rfl
  have hxl : x < s.data.toList.length := by omega
  have hc : s.data.toList[x] = (97 + v).toUInt8 := by
    apply UInt8.toNat.inj
    rw [Nat.toUInt8_eq, UInt8.toNat_ofNat']
    rw [List.getD_eq_getElem?_getD, List.getElem?_eq_getElem hxl] at hb
    simp only [Option.getD_some] at hb
    omega
  have h : (repl s (x : Int) (bt s (x : Int) - 97)).data.toList = s.data.toList := by
    unfold repl
    rw [ba_append, ba_append, ext_toList, ext_toList, hv, hl, Int.toNat_natCast, List.drop_zero, List.take_of_length_le (show s.data.toList.length ≤ s.size by omega), ← hc]
    rw [List.append_assoc, List.singleton_append, ← List.drop_eq_getElem_cons hxl, List.take_append_drop]
  rw [bytes_of h, ← bytes_of (x := s) rfl]

theorem FnLetterAt : laws_FnLetterAt.Pure := by
  intro l _ _ hw
  refine Ev.rounds (g := fun k => laws_FnLetterAt.f k l) ?_
  unfold laws_FnLetterAt.f
  by_cases h : (l.length : Int) > 1048576
  · exact ev_pos h (ev_now rfl)
  · obtain ⟨b, ho, hb⟩ := open_ok hw
    obtain ⟨s, p', h1, h2, h3, hE⟩ := text_draw hb 0 14 (by omega) (by omega) (by omega) (by omega)
    have hms : (markM s).size ≤ 1000 := by
      unfold markM
      cases hp : pread s with
      | none => show 0 ≤ 1000; omega
      | some p => simp only; rw [mtx_size, sgns_len _ (psent_top hp).1]; have := (psent_top hp).2.1; omega
    obtain ⟨v, v0, v1, hv⟩ := pick_ok (p := p') (n := ((markM s).size : Int) + 1) hb (by omega) (by omega) (by omega)
    obtain ⟨u, u0, u1, hu⟩ := pick_ok (p := p' + 1) (n := 20) hb (by omega) (by omega) (by omega)
    obtain ⟨n, hn⟩ : ∃ n, wrap64 (v - (wrap64 (Int.tdiv u 19))) = n := ⟨_, rfl⟩
    have hD : Ev (fun k => spec_DrawLetterAt.f k l) (s, n) := by
      unfold spec_DrawLetterAt.f
      refine ev_bind ho (Ev.bind hE (Ev.bind (smarks s (by omega)) ?_))
      simp only
      rw [wone (by omega)]
      exact Ev.bind hv (Ev.bind hu (ev_now (by simp only [hn])))
    refine ev_neg h (Ev.bind hD (ev_bind (ilet s n) (Ev.bind (slet s n (by omega)) (ev_pos rfl ?_))))
    have hc := letM_cases s n
    generalize letM s n = M at hc ⊢
    rcases hc with rfl | ⟨p, hp, c, rfl⟩
    · exact ev_pos (by decide) (ev_pos rfl (ev_bind alive_t (ev_now rfl)))
    · have hx := leafs_at (top_leafs hp) (rd (plcs p) n) (rd_mem c.1 (by rw [plcs_len]; exact c.2))
      refine ev_neg (by omega) (ev_bind rfl ?_)
      have hg : impl_ReplacedIn.g s n (bt s (rd (plcs p) n) - 97) = (s, true) := by
        unfold impl_ReplacedIn.g
        rw [hp]
        simp only
        rw [if_pos (by omega), if_pos c, repl_self hx.1 hx.2.1 hx.2.2.1 hx.2.2.2]
      rw [hg]
      exact ev_pos rfl (ev_pos rfl (ev_now (by simp; omega)))

end Go.Proofs.Ytfjfdnododnepaa.Pure
