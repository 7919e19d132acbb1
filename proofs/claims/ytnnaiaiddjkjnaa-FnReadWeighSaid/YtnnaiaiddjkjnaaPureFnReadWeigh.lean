/- For every code the law FnReadWeigh answers true: the drawn text is read alike by the program and the reference, its sentence's text is the text, and with a space behind it it is refused; no condition. -/
import Derived.Test.YtnnaiaiddjkjnaaPFnReadWeighx5
namespace Go.Proofs.Ytnnaiaiddjkjnaa.Pure
open Go.RowKit Go.Proofs.Ytnnaiaiddjkjnaa.PFnReadWeigh Go.Proofs.YtnnaiaiddjkjnaaW.PrintWords Go.Proofs.YtnnaiaiddjkjnaaW.PrintLast
set_option linter.unusedVariables false
set_option linter.unusedSimpArgs false

/-! pack arith: numbers that do not wrap, and steps of 'from some number of rounds on' -/
theorem w64 {n : Int} (h0 : -9223372036854775808 ≤ n) (h1 : n ≤ 9223372036854775807) : wrap64 n = n := by unfold wrap64; omega
theorem ev_pos {α : Type} {c : Prop} [Decidable c] {a b : Nat → Option α} {r : α} (h : c) (H : Ev a r) : Ev (fun k => if c then a k else b k) r :=
  Ev.congr (fun _ => if_pos h) H
theorem ev_neg {α : Type} {c : Prop} [Decidable c] {a b : Nat → Option α} {r : α} (h : ¬ c) (H : Ev b r) : Ev (fun k => if c then a k else b k) r :=
  Ev.congr (fun _ => if_neg h) H
theorem ev_now {α : Type} {a r : α} (h : a = r) : Ev (fun _ => some a) r := h ▸ Ev.now a
theorem ev_of {α : Type} {o : Option α} {r : α} (h : o = some r) : Ev (fun _ => o) r := ⟨0, fun _ _ => h⟩
theorem ev_bind {α β : Type} {o : Option α} {f : Nat → α → Option β} {a : α} {r : β} (h : o = some a) (k : Ev (fun n => f n a) r) : Ev (fun n => o.bind (f n)) r :=
  Ev.congr (fun n => by rw [h]; rfl) k
theorem ev_eq {α : Type} {g : Nat → Option α} {r r' : α} (h : r = r') (k : Ev g r) : Ev g r' := h ▸ k

/-! pack pick: the reader of draws -/
theorem xor_pos (x y : Int) (hx : 0 ≤ x) (hx1 : x < 4611686018427387904) (hy : 0 ≤ y) (hy1 : y < 4611686018427387904) : 0 ≤ Go.bits .xor .i64 x y := by
  obtain ⟨a, rfl⟩ := Int.eq_ofNat_of_zero_le hx
  obtain ⟨b, rfl⟩ := Int.eq_ofNat_of_zero_le hy
  have ha : a < 2 ^ 62 := by have e : (2 : Nat) ^ 62 = 4611686018427387904 := by decide
                             omega
  have hb : b < 2 ^ 62 := by have e : (2 : Nat) ^ 62 = 4611686018427387904 := by decide
                             omega
  have hx : a ^^^ b < 2 ^ 62 := Nat.xor_lt_two_pow ha hb
  have ha' : a % 2 ^ IntKind.i64.bits = a := Nat.mod_eq_of_lt (Nat.lt_trans ha (by decide))
  have hb' : b % 2 ^ IntKind.i64.bits = b := Nat.mod_eq_of_lt (Nat.lt_trans hb (by decide))
  simp only [Go.bits, BitVec.ofInt_natCast, BitVec.toNat_xor, BitVec.toNat_ofNat, ha', hb']
  rw [IntKind.wrap_i64]
  have e : (2 : Nat) ^ 62 = 4611686018427387904 := by decide
  omega
theorem rd_byte {b : List Int} (hw : ∀ x ∈ b, 0 ≤ x ∧ x ≤ 255) (i : Int) : 0 ≤ rd b i ∧ rd b i ≤ 255 := by
  unfold rd
  rw [List.getD_eq_getElem?_getD]
  by_cases h : i.toNat < b.length
  · rw [List.getElem?_eq_getElem h]; exact hw _ (List.getElem_mem h)
  · rw [List.getElem?_eq_none (by omega)]; simp
/-- what a reader's bytes and place are -/
def Rdr (b : List Int) : Prop := b.length ≤ 2000 ∧ ∀ x ∈ b, 0 ≤ x ∧ x ≤ 255
theorem pick_ok {b : List Int} {p n : Int} (hb : Rdr b) (hp0 : 0 ≤ p) (hp1 : p ≤ 1000000) (hn : 1 ≤ n) :
    ∃ v, 0 ≤ v ∧ v < n ∧ Ev (fun k => spec_l20Rd_pick.f k b p n) (v, p + 1) := by
  obtain ⟨hl, hw⟩ := hb
  have e1 : wrap64 (p + 1) = p + 1 := w64 (by omega) (by omega)
  have e2 : wrap64 (p + 1 - 1) = p := by rw [show p + 1 - 1 = p by omega]; exact w64 (by omega) (by omega)
  by_cases h0 : b.length = 0
  · refine ⟨0, by omega, by omega, ?_⟩
    unfold spec_l20Rd_pick.f
    refine ev_neg (by omega) ?_
    rw [e1]
    refine Ev.step (fun _ => spec_l20Rd_pick.j0.eq_2 _ _ _ _ _) ?_
    refine ev_pos (beq_iff_eq.mpr (by omega)) (ev_now rfl)
  · have hx24 : ¬ (((b.length : Int) == 0) = true) := fun h => h0 (by have := beq_iff_eq.mp h; omega)
    by_cases h1 : p < b.length
    · have hr := rd_byte hw p
      have er : wrap64 (rd b p) = rd b p := w64 (by omega) (by omega)
      refine ⟨Int.tmod (rd b p) n, Int.tmod_nonneg _ hr.1, Int.tmod_lt_of_pos _ (by omega), ?_⟩
      unfold spec_l20Rd_pick.f
      refine ev_neg (by omega) ?_
      rw [e1]
      refine Ev.step (fun _ => spec_l20Rd_pick.j0.eq_2 _ _ _ _ _) ?_
      simp only [e2, er]
      refine ev_neg hx24 (ev_pos h1 (ev_pos hp0 (ev_neg (by omega) (ev_now rfl))))
    · have hL : (0 : Int) < b.length := by omega
      have m0 := Int.tmod_nonneg (b.length : Int) hp0
      have m1 := Int.tmod_lt_of_pos p hL
      have e3 : wrap64 (p * 7) = p * 7 := w64 (by omega) (by omega)
      have e4 : wrap64 (p * 7 + 3) = p * 7 + 3 := w64 (by omega) (by omega)
      have n0 := Int.tmod_nonneg (b.length : Int) (show 0 ≤ p * 7 + 3 by omega)
      have n1 := Int.tmod_lt_of_pos (p * 7 + 3) hL
      have r1 := rd_byte hw (Int.tmod p b.length)
      have r2 := rd_byte hw (Int.tmod (p * 7 + 3) b.length)
      have d0 : 0 ≤ Int.tdiv p b.length := Int.tdiv_nonneg hp0 (by omega)
      have d1 : Int.tdiv p b.length ≤ p := Int.tdiv_le_self _ hp0
      have e5 : wrap64 (rd b (Int.tmod p b.length)) = rd b (Int.tmod p b.length) := w64 (by omega) (by omega)
      have e6 : wrap64 (rd b (Int.tmod (p * 7 + 3) b.length)) = rd b (Int.tmod (p * 7 + 3) b.length) := w64 (by omega) (by omega)
      have e7 : wrap64 (rd b (Int.tmod p b.length) * 131) = rd b (Int.tmod p b.length) * 131 := w64 (by omega) (by omega)
      have e8 : wrap64 (rd b (Int.tmod (p * 7 + 3) b.length) * 1117) = rd b (Int.tmod (p * 7 + 3) b.length) * 1117 := w64 (by omega) (by omega)
      have e9 : wrap64 (p * 29) = p * 29 := w64 (by omega) (by omega)
      have e10 : wrap64 (Int.tdiv p b.length) = Int.tdiv p b.length := w64 (by omega) (by omega)
      have e11 : wrap64 (Int.tdiv p b.length * 53) = Int.tdiv p b.length * 53 := w64 (by omega) (by omega)
      generalize hA : rd b (Int.tmod p b.length) = A at *
      generalize hB : rd b (Int.tmod (p * 7 + 3) b.length) = B at *
      generalize hD : Int.tdiv p b.length = D at *
      have e12 : wrap64 (A * 131 + B * 1117) = A * 131 + B * 1117 := w64 (by omega) (by omega)
      have e13 : wrap64 (A * 131 + B * 1117 + p * 29) = A * 131 + B * 1117 + p * 29 := w64 (by omega) (by omega)
      have e14 : wrap64 (A * 131 + B * 1117 + p * 29 + D * 53) = A * 131 + B * 1117 + p * 29 + D * 53 := w64 (by omega) (by omega)
      have hS : 0 ≤ A * 131 + B * 1117 + p * 29 + D * 53 := by omega
      have hS1 : A * 131 + B * 1117 + p * 29 + D * 53 < 4611686018427387904 := by omega
      have t0 : 0 ≤ Int.tdiv (A * 131 + B * 1117 + p * 29 + D * 53) 64 := Int.tdiv_nonneg hS (by omega)
      have t1 : Int.tdiv (A * 131 + B * 1117 + p * 29 + D * 53) 64 ≤ A * 131 + B * 1117 + p * 29 + D * 53 := Int.tdiv_le_self _ hS
      have e15 : wrap64 (Int.tdiv (A * 131 + B * 1117 + p * 29 + D * 53) 64) = Int.tdiv (A * 131 + B * 1117 + p * 29 + D * 53) 64 := w64 (by omega) (by omega)
      have hX := xor_pos _ _ hS hS1 t0 (by omega)
      refine ⟨_, Int.tmod_nonneg n hX, Int.tmod_lt_of_pos _ (show 0 < n by omega), ?_⟩
      unfold spec_l20Rd_pick.f
      refine ev_neg (by omega) ?_
      rw [e1]
      refine Ev.step (fun _ => spec_l20Rd_pick.j0.eq_2 _ _ _ _ _) ?_
      simp only [e2, e3, e4, hA, hB, e5, e6, e7, e8, e9, hD, e10, e11, e12, e13, e14, e15]
      exact ev_neg hx24 (ev_neg h1 (ev_neg (by omega) (ev_pos m0 (ev_pos m1 (ev_pos n0 (ev_pos n1 (ev_neg (by omega) (ev_now rfl))))))))
theorem open_ok {l : List Int} (hw : ∀ x ∈ l, (Lit.int .u8 x).wf = true) : ∃ b, spec_l20Open.f l = some (b, 0) ∧ Rdr b := by
  have hw' : ∀ x ∈ l, 0 ≤ x ∧ x ≤ 255 := fun x hx => by
    have := hw x hx
    simp [Lit.wf, IntKind.min, IntKind.max, IntKind.signed, IntKind.bits] at this
    omega
  unfold spec_l20Open.f
  by_cases h : (l.length : Int) > 2000
  · refine ⟨l.take 2000, by rw [if_pos h, if_pos (by omega)], by simp; omega, fun x hx => hw' x (List.mem_of_mem_take hx)⟩
  · exact ⟨l, by rw [if_neg h], by omega, hw'⟩

/-! pack weigh: texts of sentences -/
theorem tl (b : ByteArray) : b.toList = b.data.toList := ByteArray.toList_eq b
def wS (f : Nat) : List UInt8 := ([[97, 108, 108, 32], [115, 111, 109, 101, 32], [110, 111, 116, 32, 102, 101, 119, 101, 114, 32], [109, 111, 114, 101, 32], [109, 111, 115, 116, 32], [97, 116, 32, 109, 111, 115, 116, 32, 104, 97, 108, 102, 32]] : List (List UInt8)).getD f []
def wM (f : Nat) : List UInt8 := if f = 2 ∨ f = 3 then [32, 116, 104, 97, 110, 32] else [32, 97, 114, 101, 32]
def wT (o : Nat) : List UInt8 := ([[97], [110, 111, 110, 45, 97], [98], [110, 111, 110, 45, 98]] : List (List UInt8)).getD o []
def wL (f o t : Nat) : List UInt8 := wS f ++ wT o ++ wM f ++ wT t
def wB (f o t : Nat) : ByteArray := ⟨(wL f o t).toArray⟩
theorem wB_l (f o t : Nat) : (wB f o t).toList = wL f o t := by rw [tl]; simp [wB]
/-- number i's form and terms, and its text -/
def iL (i : Nat) : List UInt8 := wL (i / 16) (i / 4 % 4) (i % 4)
def fnd (P : Nat → Bool) : Nat → Nat → Option Nat
  | 0, _ => none
  | d + 1, i => if P i then some i else fnd P d (i + 1)
def res : Option Nat → Int × Int × Int × Bool
  | none => (0, 0, 0, false)
  | some i => (((i / 16 : Nat) : Int), ((i / 4 % 4 : Nat) : Int), ((i % 4 : Nat) : Int), true)
def isT (x : ByteArray) (i : Nat) : Bool := iL i == x.toList
theorem iL_inj_all : ∀ i j : Fin 96, iL i.val = iL j.val → i = j := by decide +kernel
theorem iL_last_all : ∀ i : Fin 96, (iL i.val).getLast? ≠ some 32 := by decide +kernel
theorem iL_len_all : ∀ i : Fin 96, 0 < (iL i.val).length ∧ (iL i.val).length ≤ 100 := by decide +kernel
theorem fnd_some (P : Nat → Bool) (d : Nat) : ∀ i j, fnd P d i = some j → P j = true ∧ i ≤ j ∧ j < i + d := by
  induction d with
  | zero => intro i j h; simp [fnd] at h
  | succ d ih =>
    intro i j h
    unfold fnd at h
    by_cases c : P i = true
    · rw [if_pos c] at h; obtain rfl := Option.some.inj h; exact ⟨c, by omega, by omega⟩
    · rw [if_neg c] at h; obtain ⟨h1, h2, h3⟩ := ih _ _ h; exact ⟨h1, by omega, by omega⟩
theorem fnd_none (P : Nat → Bool) (d : Nat) : ∀ i, (∀ j, i ≤ j → j < i + d → P j = false) → fnd P d i = none := by
  induction d with
  | zero => intro i _; rfl
  | succ d ih =>
    intro i h
    unfold fnd
    rw [if_neg (by rw [h i (by omega) (by omega)]; simp)]
    exact ih _ (fun j h1 h2 => h j (by omega) (by omega))
theorem fnd_at (P : Nat → Bool) (d : Nat) : ∀ i j, i ≤ j → j < i + d → P j = true → (∀ m, i ≤ m → m < i + d → P m = true → m = j) → fnd P d i = some j := by
  induction d with
  | zero => intro i j h1 h2; omega
  | succ d ih =>
    intro i j h1 h2 hj hu
    unfold fnd
    by_cases c : P i = true
    · rw [if_pos c, hu i (by omega) (by omega) c]
    · rw [if_neg c]
      have : i ≠ j := fun e => c (by rw [e]; exact hj)
      exact ih _ _ (by omega) (by omega) hj (fun m a b => hu m (by omega) (by omega))
/-- what is read of a text -/
def rdW (x : ByteArray) : Option Nat := fnd (isT x) 96 0
theorem rdW_text {i : Nat} (hi : i < 96) {x : ByteArray} (hx : x.toList = iL i) : rdW x = some i := by
  refine fnd_at _ _ _ _ (by omega) (by omega) (by unfold isT; rw [hx]; simp) (fun m _ hm h => ?_)
  unfold isT at h
  rw [hx, beq_iff_eq] at h
  have := iL_inj_all ⟨m, by omega⟩ ⟨i, hi⟩ h
  simpa using this
theorem rdW_some {x : ByteArray} {i : Nat} (h : rdW x = some i) : i < 96 ∧ x.toList = iL i := by
  obtain ⟨h1, _, h3⟩ := fnd_some _ _ _ _ h
  unfold isT at h1
  exact ⟨by omega, (beq_iff_eq.mp h1).symm⟩
theorem rdW_space {x : ByteArray} {s : List UInt8} (hx : x.toList = s ++ [32]) : rdW x = none := by
  refine fnd_none _ _ _ (fun j _ hj => ?_)
  unfold isT
  rw [hx, beq_eq_false_iff_ne]
  intro e
  exact iL_last_all ⟨j, by omega⟩ (by simp only; rw [e]; simp)
theorem idx_of {f o t : Nat} (hf : f < 6) (ho : o < 4) (ht : t < 4) : ∃ i, i < 96 ∧ i / 16 = f ∧ i / 4 % 4 = o ∧ i % 4 = t := ⟨16 * f + 4 * o + t, by omega, by omega, by omega, by omega⟩

/-! pack weigh_i -/
theorem iwt_all : ∀ f : Fin 6, ∀ o t : Fin 4, impl_weighText.f (f.val : Int) (o.val : Int) (t.val : Int) = some (wB f.val o.val t.val) := by decide +kernel
theorem iwt {f o t : Nat} (hf : f < 6) (ho : o < 4) (ht : t < 4) : impl_weighText.f (f : Int) (o : Int) (t : Int) = some (wB f o t) := iwt_all ⟨f, hf⟩ ⟨o, ho⟩ ⟨t, ht⟩

/-! pack weigh_s -/
theorem swt_all : ∀ f : Fin 6, ∀ o t : Fin 4, spec_WeighText.f (f.val : Int) (o.val : Int) (t.val : Int) = some (wB f.val o.val t.val) := by decide +kernel
theorem swt {f o t : Nat} (hf : f < 6) (ho : o < 4) (ht : t < 4) : spec_WeighText.f (f : Int) (o : Int) (t : Int) = some (wB f o t) := swt_all ⟨f, hf⟩ ⟨o, ho⟩ ⟨t, ht⟩

/-! pack wok: which sentences are right -/
def wOk (f o t : Int) : Bool := decide (0 ≤ f ∧ f ≤ 5 ∧ 0 ≤ o ∧ o ≤ 3 ∧ 0 ≤ t ∧ t ≤ 3)
theorem wOk_nat {f o t : Int} (h : wOk f o t = true) : ∃ x y z : Nat, x < 6 ∧ y < 4 ∧ z < 4 ∧ f = x ∧ o = y ∧ t = z := by
  have h := of_decide_eq_true h
  exact ⟨f.toNat, o.toNat, t.toNat, by omega, by omega, by omega, by omega, by omega, by omega⟩
theorem iWeigh (f o t : Int) : impl_isWeigh.f f o t = some (wOk f o t) := by
  unfold impl_isWeigh.f wOk
  simp only [ge_iff_le]
  by_cases h1 : 0 ≤ f <;> by_cases h2 : f ≤ 5 <;> by_cases h3 : 0 ≤ o <;> by_cases h4 : o ≤ 3 <;> by_cases h5 : 0 ≤ t <;> by_cases h6 : t ≤ 3 <;> simp [h1, h2, h3, h4, h5, h6]

theorem sWeigh (f o t : Int) : spec_WeighOk.f f o t = some (wOk f o t) := by
  unfold spec_WeighOk.f spec_l1In.f wOk
  simp only [ge_iff_le]
  by_cases h1 : 0 ≤ f <;> by_cases h2 : f ≤ 5 <;> by_cases h3 : 0 ≤ o <;> by_cases h4 : o ≤ 3 <;> by_cases h5 : 0 ≤ t <;> by_cases h6 : t ≤ 3 <;> simp [h1, h2, h3, h4, h5, h6]
def wX (f o t : Int) : ByteArray := if wOk f o t then wB f.toNat o.toNat t.toNat else ⟨#[]⟩
theorem sWT (f o t : Int) : spec_WeighText.f f o t = some (wX f o t) := by
  unfold wX
  cases h : wOk f o t with
  | true =>
    obtain ⟨x, y, z, hx, hy, hz, rfl, rfl, rfl⟩ := wOk_nat h
    exact swt hx hy hz
  | false =>
    unfold spec_WeighText.f
    rw [sWeigh, h]; rfl

theorem iWT (f o t : Int) : impl_WeighText.f f o t = some (wX f o t) := by
  unfold wX impl_WeighText.f
  rw [iWeigh]
  cases h : wOk f o t with
  | true =>
    obtain ⟨x, y, z, hx, hy, hz, rfl, rfl, rfl⟩ := wOk_nat h
    have := iwt hx hy hz
    simp only [Option.bind_some, if_true, Int.toNat_natCast]
    rw [this]; rfl
  | false => rfl

/-! pack rdw_i: the program's reading -/
theorem irw_loop (x : ByteArray) (d : Nat) : ∀ i : Nat, i + d = 95 →
    Ev (fun k => impl_readWeigh.l2 k x ((i / 16 : Nat) : Int) ((i / 4 % 4 : Nat) : Int) ((i / 4 % 4 : Nat) : Int) ((i % 4 : Nat) : Int)) (res (fnd (isT x) (d + 1) i)) := by
  induction d with
  | zero =>
    intro i hi
    obtain rfl : i = 95 := by omega
    refine Ev.step (fun _ => impl_readWeigh.l2.eq_2 _ _ _ _ _ _) (ev_pos (by omega) (ev_bind (iwt (by omega) (by omega) (by omega)) ?_))
    rw [wB_l]
    unfold fnd
    by_cases h : iL 95 = x.toList
    · rw [if_pos (show isT x 95 = true by unfold isT; rw [h]; simp)]
      exact ev_pos h (ev_now rfl)
    · rw [if_neg (show ¬ isT x 95 = true by unfold isT; simpa using h)]
      refine ev_neg h (Ev.step (fun _ => impl_readWeigh.l2.eq_2 _ _ _ _ _ _) (ev_neg (by decide +kernel) (Ev.step (fun _ => impl_readWeigh.l1.eq_2 _ _ _ _) (ev_neg (by decide +kernel) (Ev.step (fun _ => impl_readWeigh.l0.eq_2 _ _ _) (ev_neg (by decide +kernel) (ev_now rfl)))))))
  | succ d ih =>
    intro i hi
    refine Ev.step (fun _ => impl_readWeigh.l2.eq_2 _ _ _ _ _ _) (ev_pos (by omega) (ev_bind (iwt (by omega) (by omega) (by omega)) ?_))
    rw [wB_l]
    unfold fnd
    by_cases h : iL i = x.toList
    · rw [if_pos (show isT x i = true by unfold isT; rw [h]; simp)]
      exact ev_pos h (ev_now rfl)
    · rw [if_neg (show ¬ isT x i = true by unfold isT; simpa using h)]
      have IH := ih (i + 1) (by omega)
      refine ev_neg h ?_
      rw [w64 (by omega) (by omega)]
      by_cases h3 : i % 4 = 3
      · rw [show (((i % 4 : Nat) : Int) + 1) = 4 by omega]
        refine Ev.step (fun _ => impl_readWeigh.l2.eq_2 _ _ _ _ _ _) (ev_neg (by decide) ?_)
        rw [w64 (by omega) (by omega)]
        by_cases h4 : i / 4 % 4 = 3
        · rw [show (((i / 4 % 4 : Nat) : Int) + 1) = 4 by omega]
          refine Ev.step (fun _ => impl_readWeigh.l1.eq_2 _ _ _ _) (ev_neg (by decide) ?_)
          rw [w64 (by omega) (by omega)]
          refine Ev.step (fun _ => impl_readWeigh.l0.eq_2 _ _ _) (ev_pos (by omega) (Ev.step (fun _ => impl_readWeigh.l1.eq_2 _ _ _ _) (ev_pos (by decide) ?_)))
          rw [show (i + 1) / 16 = i / 16 + 1 by omega, show (i + 1) / 4 % 4 = 0 by omega, show (i + 1) % 4 = 0 by omega] at IH
          exact IH
        · refine Ev.step (fun _ => impl_readWeigh.l1.eq_2 _ _ _ _) (ev_pos (by omega) ?_)
          rw [show (i + 1) / 16 = i / 16 by omega, show (i + 1) / 4 % 4 = i / 4 % 4 + 1 by omega, show (i + 1) % 4 = 0 by omega] at IH
          exact IH
      · rw [show (i + 1) / 16 = i / 16 by omega, show (i + 1) / 4 % 4 = i / 4 % 4 by omega, show (i + 1) % 4 = i % 4 + 1 by omega] at IH
        exact IH
theorem irw (x : ByteArray) : Ev (fun k => impl_readWeigh.f k x) (res (rdW x)) := by
  unfold impl_readWeigh.f
  refine Ev.step (fun _ => impl_readWeigh.l0.eq_2 _ _ _) (ev_pos (by decide) (Ev.step (fun _ => impl_readWeigh.l1.eq_2 _ _ _ _) (ev_pos (by decide) (irw_loop x 95 0 (by omega)))))

/-! pack rdw_s: the reference's reading -/
theorem srw_loop (x : ByteArray) (d : Nat) : ∀ i : Nat, i + d = 95 →
    Ev (fun k => spec_ReadWeigh.l2 k x ((i / 16 : Nat) : Int) ((i / 4 % 4 : Nat) : Int) ((i % 4 : Nat) : Int)) (res (fnd (isT x) (d + 1) i)) := by
  induction d with
  | zero =>
    intro i hi
    obtain rfl : i = 95 := by omega
    refine Ev.step (fun _ => spec_ReadWeigh.l2.eq_2 _ _ _ _ _) (ev_pos (by omega) (ev_bind (swt (by omega) (by omega) (by omega)) ?_))
    rw [wB_l]
    unfold fnd
    by_cases h : iL 95 = x.toList
    · rw [if_pos (show isT x 95 = true by unfold isT; rw [h]; simp)]
      exact ev_pos h (ev_now rfl)
    · rw [if_neg (show ¬ isT x 95 = true by unfold isT; simpa using h)]
      refine ev_neg h (Ev.step (fun _ => spec_ReadWeigh.l2.eq_2 _ _ _ _ _) (ev_neg (by decide +kernel) (Ev.step (fun _ => spec_ReadWeigh.l1.eq_2 _ _ _ _) (ev_neg (by decide +kernel) (Ev.step (fun _ => spec_ReadWeigh.l0.eq_2 _ _ _) (ev_neg (by decide +kernel) (ev_now rfl)))))))
  | succ d ih =>
    intro i hi
    refine Ev.step (fun _ => spec_ReadWeigh.l2.eq_2 _ _ _ _ _) (ev_pos (by omega) (ev_bind (swt (by omega) (by omega) (by omega)) ?_))
    rw [wB_l]
    unfold fnd
    by_cases h : iL i = x.toList
    · rw [if_pos (show isT x i = true by unfold isT; rw [h]; simp)]
      exact ev_pos h (ev_now rfl)
    · rw [if_neg (show ¬ isT x i = true by unfold isT; simpa using h)]
      have IH := ih (i + 1) (by omega)
      refine ev_neg h ?_
      rw [w64 (by omega) (by omega)]
      by_cases h3 : i % 4 = 3
      · rw [show (((i % 4 : Nat) : Int) + 1) = 4 by omega]
        refine Ev.step (fun _ => spec_ReadWeigh.l2.eq_2 _ _ _ _ _) (ev_neg (by decide) ?_)
        rw [w64 (by omega) (by omega)]
        by_cases h4 : i / 4 % 4 = 3
        · rw [show (((i / 4 % 4 : Nat) : Int) + 1) = 4 by omega]
          refine Ev.step (fun _ => spec_ReadWeigh.l1.eq_2 _ _ _ _) (ev_neg (by decide) ?_)
          rw [w64 (by omega) (by omega)]
          refine Ev.step (fun _ => spec_ReadWeigh.l0.eq_2 _ _ _) (ev_pos (by omega) (Ev.step (fun _ => spec_ReadWeigh.l1.eq_2 _ _ _ _) (ev_pos (by decide) ?_)))
          rw [show (i + 1) / 16 = i / 16 + 1 by omega, show (i + 1) / 4 % 4 = 0 by omega, show (i + 1) % 4 = 0 by omega] at IH
          exact IH
        · refine Ev.step (fun _ => spec_ReadWeigh.l1.eq_2 _ _ _ _) (ev_pos (by omega) ?_)
          rw [show (i + 1) / 16 = i / 16 by omega, show (i + 1) / 4 % 4 = i / 4 % 4 + 1 by omega, show (i + 1) % 4 = 0 by omega] at IH
          exact IH
      · rw [show (i + 1) / 16 = i / 16 by omega, show (i + 1) / 4 % 4 = i / 4 % 4 by omega, show (i + 1) % 4 = i % 4 + 1 by omega] at IH
        exact IH
theorem srw (x : ByteArray) : Ev (fun k => spec_ReadWeigh.f k x) (res (rdW x)) := by
  unfold spec_ReadWeigh.f
  refine Ev.step (fun _ => spec_ReadWeigh.l0.eq_2 _ _ _) (ev_pos (by decide) (Ev.step (fun _ => spec_ReadWeigh.l1.eq_2 _ _ _ _) (ev_pos (by decide) (srw_loop x 95 0 (by omega)))))

theorem iRW (x : ByteArray) : Ev (fun k => impl_ReadWeigh.f k x) (res (rdW x)) := by
  unfold impl_ReadWeigh.f
  exact Ev.bind (irw x) (ev_now rfl)

/-! pack drawweigh: drawn sentences -/
theorem odd_ok {b : List Int} (hb : Rdr b) {p n : Int} (hp0 : 0 ≤ p) (hp1 : p ≤ 1000000) (hn : 0 ≤ n) (hn1 : n ≤ 1000000) :
    ∃ v p', p ≤ p' ∧ p' ≤ p + 1 ∧ (n = 0 → v = false) ∧ Ev (fun k => spec_l20Rd_odd.f k b p n) (v, p') := by
  unfold spec_l20Rd_odd.f
  by_cases h : n > 0
  · obtain ⟨v, a, c, hE⟩ := pick_ok (n := n) hb hp0 hp1 (by omega)
    exact ⟨_, p + 1, by omega, by omega, fun e => by omega, ev_pos h (Ev.bind hE (Ev.now _))⟩
  · exact ⟨false, p, by omega, by omega, fun _ => rfl, ev_neg h (Ev.now _)⟩
theorem weigh_ok {b : List Int} (hb : Rdr b) {p n : Int} (hp0 : 0 ≤ p) (hp1 : p ≤ 900000) (hn : 0 ≤ n) (hn1 : n ≤ 1000000) :
    ∃ f o t p', 0 ≤ f ∧ f ≤ 6 ∧ 0 ≤ o ∧ o ≤ 4 ∧ -1 ≤ t ∧ t ≤ 3 ∧ (n = 0 → wOk f o t = true) ∧ p ≤ p' ∧ p' ≤ p + 5 ∧ Ev (fun k => spec_l20Weigh.f k b p n) (f, o, t, p') := by
  obtain ⟨f, f0, f1, h1⟩ := pick_ok (p := p) (n := 6) hb (by omega) (by omega) (by omega)
  obtain ⟨o, o0, o1, h2⟩ := pick_ok (p := p + 1) (n := 4) hb (by omega) (by omega) (by omega)
  obtain ⟨t, t0, t1, h3⟩ := pick_ok (p := p + 1 + 1) (n := 4) hb (by omega) (by omega) (by omega)
  obtain ⟨v, p', g0, g1, g2, h4⟩ := odd_ok (p := p + 1 + 1 + 1) (n := n) hb (by omega) (by omega) (by omega) (by omega)
  obtain ⟨u, u0, u1, h5⟩ := pick_ok (p := p') (n := 3) hb (by omega) (by omega) (by omega)
  unfold spec_l20Weigh.f
  cases v with
  | false => exact ⟨f, o, t, p', by omega, by omega, by omega, by omega, by omega, by omega, fun _ => decide_eq_true (by omega), by omega, by omega, Ev.bind h1 (Ev.bind h2 (Ev.bind h3 (Ev.bind h4 (ev_neg (by simp) (Ev.now _)))))⟩
  | true =>
    have hn0 : n = 0 → False := fun e => by have := g2 e; simp at this
    by_cases c0 : u = 0
    · exact ⟨6, o, t, p' + 1, by omega, by omega, by omega, by omega, by omega, by omega, fun e => (hn0 e).elim, by omega, by omega, Ev.bind h1 (Ev.bind h2 (Ev.bind h3 (Ev.bind h4 (ev_pos rfl (Ev.bind h5 (ev_pos c0 (Ev.now _)))))))⟩
    · by_cases c1 : u = 1
      · exact ⟨f, 4, t, p' + 1, by omega, by omega, by omega, by omega, by omega, by omega, fun e => (hn0 e).elim, by omega, by omega, Ev.bind h1 (Ev.bind h2 (Ev.bind h3 (Ev.bind h4 (ev_pos rfl (Ev.bind h5 (ev_neg c0 (ev_pos c1 (Ev.now _))))))))⟩
      · exact ⟨f, o, -1, p' + 1, by omega, by omega, by omega, by omega, by omega, by omega, fun e => (hn0 e).elim, by omega, by omega, Ev.bind h1 (Ev.bind h2 (Ev.bind h3 (Ev.bind h4 (ev_pos rfl (Ev.bind h5 (ev_neg c0 (ev_neg c1 (Ev.now _))))))))⟩

theorem alive_t : laws_alive.f = some true := by decide +kernel

/-! pack spoilw: drawn texts -/
theorem wX_size {f o t : Int} (h : wOk f o t = true) : 0 < (wX f o t).size ∧ (wX f o t).size ≤ 100 := by
  obtain ⟨x, y, z, hx, hy, hz, rfl, rfl, rfl⟩ := wOk_nat h
  obtain ⟨i, hi, rfl, rfl, rfl⟩ := idx_of hx hy hz
  have hl := iL_len_all ⟨i, hi⟩
  unfold wX
  rw [h]
  have e : (wB (i / 16) (i / 4 % 4) (i % 4)).size = (iL i).length := by
    show (wL _ _ _).toArray.size = _
    simp [iL]
  simp only [Int.toNat_natCast, if_true]
  rw [e]; exact hl
theorem drawRW {l b : List Int} (ho : spec_l20Open.f l = some (b, 0)) (hb : Rdr b) : ∃ x : ByteArray, x.size ≤ 1000 ∧ Ev (fun k => spec_DrawReadWeigh.f k l) x := by
  obtain ⟨f, o, t, p', _, _, _, _, _, _, hk, q0, q1, hE⟩ := weigh_ok (p := 0) (n := 0) hb (by omega) (by omega) (by omega) (by omega)
  have hk := hk rfl
  obtain ⟨hz0, hz1⟩ := wX_size hk
  obtain ⟨v, v0, v1, h1⟩ := pick_ok (p := p') (n := 3) hb (by omega) (by omega) (by omega)
  unfold spec_DrawReadWeigh.f
  by_cases c : v = 0
  · obtain ⟨u, u0, u1, h2⟩ := pick_ok (p := p' + 1) (n := (wX f o t).size) hb (by omega) (by omega) (by omega)
    obtain ⟨y, y0, y1, h3⟩ := pick_ok (p := p' + 1 + 1) (n := 4) hb (by omega) (by omega) (by omega)
    have hy : (rdOf ByteArray.empty ([(⟨#[]⟩ : ByteArray), (⟨#[98]⟩ : ByteArray), (⟨#[32]⟩ : ByteArray), (⟨#[110, 111, 110, 45]⟩ : ByteArray)] : List ByteArray) y).size ≤ 4 := by
      rcases (show y = 0 ∨ y = 1 ∨ y = 2 ∨ y = 3 by omega) with rfl | rfl | rfl | rfl <;> decide
    have e1 : wrap64 (u + 1) = u + 1 := w64 (by omega) (by omega)
    have z1 : ((wX f o t).extract 0 u.toNat).size ≤ 100 := by rw [ByteArray.size_extract]; omega
    have z2 : ((wX f o t).extract (u + 1).toNat (wX f o t).size).size ≤ 100 := by rw [ByteArray.size_extract]; omega
    refine ⟨(((wX f o t).extract 0 u.toNat) ++ (rdOf ByteArray.empty ([(⟨#[]⟩ : ByteArray), (⟨#[98]⟩ : ByteArray), (⟨#[32]⟩ : ByteArray), (⟨#[110, 111, 110, 45]⟩ : ByteArray)] : List ByteArray) y)) ++ ((wX f o t).extract (u + 1).toNat (wX f o t).size), by simp only [ByteArray.size_append]; omega, ?_⟩
    refine ev_bind ho (Ev.bind hE (ev_bind (sWT _ _ _) (Ev.bind h1 (ev_pos c (Ev.bind h2 (ev_pos u0 (ev_pos (by dsimp only; omega) (ev_bind rfl (Ev.bind h3 (ev_pos y0 (ev_pos (by simpa using y1) (ev_pos (by dsimp only; omega) ?_))))))))))))
    dsimp only
    rw [e1]
    exact ev_pos (by omega) (ev_pos (by omega) (ev_pos (by omega) (ev_now rfl)))
  · exact ⟨wX f o t, by omega, ev_bind ho (Ev.bind hE (ev_bind (sWT _ _ _) (Ev.bind h1 (ev_neg c (ev_now rfl)))))⟩

theorem FnReadWeigh : laws_FnReadWeigh.Pure := by
  intro l _ _ hw
  refine Ev.rounds (g := fun k => laws_FnReadWeigh.f k l) ?_
  unfold laws_FnReadWeigh.f
  by_cases h : (l.length : Int) > 1048576
  · exact ev_pos h (ev_now rfl)
  · obtain ⟨b, ho, hb⟩ := open_ok hw
    obtain ⟨x, hxs, hD⟩ := drawRW ho hb
    refine ev_neg h (Ev.bind hD (Ev.bind (iRW x) (Ev.bind (srw x) (ev_neg (by simp) ?_))))
    refine Ev.step (fun _ => laws_FnReadWeigh.j0.eq_2 _ _ _ _ _ _ _) (ev_neg (by simp) ?_)
    cases hr : rdW x with
    | none => exact ev_neg (by simp [res]) (ev_pos (by simp [res]) (ev_bind alive_t (ev_now rfl)))
    | some i =>
      obtain ⟨hi, hl⟩ := rdW_some hr
      refine ev_pos rfl (ev_pos (by omega) ?_)
      have hs := iRW (x ++ (⟨#[32]⟩ : ByteArray))
      rw [rdW_space (s := x.toList) (by rw [tl, tl]; simp)] at hs
      have hwt := iWT ((i / 16 : Nat) : Int) ((i / 4 % 4 : Nat) : Int) ((i % 4 : Nat) : Int)
      have hok : wOk ((i / 16 : Nat) : Int) ((i / 4 % 4 : Nat) : Int) ((i % 4 : Nat) : Int) = true := decide_eq_true (by omega)
      have hX : (wX ((i / 16 : Nat) : Int) ((i / 4 % 4 : Nat) : Int) ((i % 4 : Nat) : Int)).toList = x.toList := by
        unfold wX; rw [hok, hl]; exact wB_l _ _ _
      exact Ev.bind hs (ev_bind hwt (ev_pos hX (ev_now rfl)))

end Go.Proofs.Ytnnaiaiddjkjnaa.Pure
