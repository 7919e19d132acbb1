/- For every code the law FnJournalText answers true: the drawn deeds' journal is the reference's text, and if it is not empty, the deeds and the whole text are read off it again; no condition. -/
import Derived.Test.YtnnaiaiddjkjnaaDoorPFnJournalTextx13
namespace Go.Proofs.YtnnaiaiddjkjnaaDoor.Pure
open Go.RowKit Go.Proofs.YtnnaiaiddjkjnaaDoor.PFnJournalText Go.Proofs.YtnnaiaiddjkjnaaDoorW.PrintWords Go.Proofs.YtnnaiaiddjkjnaaDoorW.PrintLast
set_option linter.unusedVariables false
set_option linter.unusedSimpArgs false

/-! pack arith: numbers that do not wrap, and steps of 'from some number of rounds on' -/
theorem w64 {n : Int} (h0 : -9223372036854775808 ≤ n) (h1 : n ≤ 9223372036854775807) : wrap64 n = n := by unfold wrap64; omega
theorem ev_pos {α : Type} {c : Prop} [Decidable c] {a b : Nat → Option α} {r : α} (h : c) (H : Ev a r) : Ev (fun k => if c then a k else b k) r :=
  Ev.congr (fun _ => if_pos h) H
theorem ev_neg {α : Type} {c : Prop} [Decidable c] {a b : Nat → Option α} {r : α} (h : ¬ c) (H : Ev b r) : Ev (fun k => if c then a k else b k) r :=
  Ev.congr (fun _ => if_neg h) H
theorem ev_now {α : Type} {a r : α} (h : a = r) : Ev (fun _ => some a) r := h ▸ Ev.now a
theorem ev_bind {α β : Type} {o : Option α} {f : Nat → α → Option β} {a : α} {r : β} (h : o = some a) (k : Ev (fun n => f n a) r) : Ev (fun n => o.bind (f n)) r :=
  Ev.congr (fun n => by rw [h]; rfl) k
theorem ev_eq {α : Type} {g : Nat → Option α} {r r' : α} (h : r = r') (k : Ev g r) : Ev g r' := h ▸ k

/-! pack pick: the reader of draws -/
theorem xor_pos (x y : Int) (hx : 0 ≤ x) (hx1 : x < 4611686018427387904) (hy : 0 ≤ y) (hy1 : y < 4611686018427387904) : 0 ≤ Go.bits .xor .i64 x y := by
  obtain ⟨a, rfl⟩ := Int.eq_ofNat_of_zero_le hx
  obtain ⟨b, rfl⟩ := Int.eq_ofNat_of_zero_le hy
  have ha : a < 2 ^ 62 := by have e : (2 : Nat) ^ 62 = 4611686018427387904 := by decide
                             omega
  have hb : b < 2 ^ 62 := by have e : (2 : Nat) ^ 62 = 4611686018427387904 := by decide
                             omega
  have hx : a ^^^ b < 2 ^ 62 := Nat.xor_lt_two_pow ha hb
  have ha' : a % 2 ^ IntKind.i64.bits = a := Nat.mod_eq_of_lt (Nat.lt_trans ha (by decide))
  have hb' : b % 2 ^ IntKind.i64.bits = b := Nat.mod_eq_of_lt (Nat.lt_trans hb (by decide))
  simp only [Go.bits, BitVec.ofInt_natCast, BitVec.toNat_xor, BitVec.toNat_ofNat, ha', hb']
  rw [IntKind.wrap_i64]
  have e : (2 : Nat) ^ 62 = 4611686018427387904 := by decide
  omega
theorem rd_byte {b : List Int} (hw : ∀ x ∈ b, 0 ≤ x ∧ x ≤ 255) (i : Int) : 0 ≤ rd b i ∧ rd b i ≤ 255 := by
  unfold rd
  rw [List.getD_eq_getElem?_getD]
  by_cases h : i.toNat < b.length
  · rw [List.getElem?_eq_getElem h]; exact hw _ (List.getElem_mem h)
  · rw [List.getElem?_eq_none (by omega)]; simp
def Rdr (b : List Int) : Prop := b.length ≤ 2000 ∧ ∀ x ∈ b, 0 ≤ x ∧ x ≤ 255
theorem pick_ok {b : List Int} {p n : Int} (hb : Rdr b) (hp0 : 0 ≤ p) (hp1 : p ≤ 1000000) (hn : 1 ≤ n) :
    ∃ v, 0 ≤ v ∧ v < n ∧ Ev (fun k => spec_l20Rd_pick.f k b p n) (v, p + 1) := by
  obtain ⟨hl, hw⟩ := hb
  have e1 : wrap64 (p + 1) = p + 1 := w64 (by omega) (by omega)
  have e2 : wrap64 (p + 1 - 1) = p := by rw [show p + 1 - 1 = p by omega]; exact w64 (by omega) (by omega)
  by_cases h0 : b.length = 0
  · refine ⟨0, by omega, by omega, ?_⟩
    unfold spec_l20Rd_pick.f
    refine ev_neg (by omega) ?_
    rw [e1]
    refine Ev.step (fun _ => spec_l20Rd_pick.j0.eq_2 _ _ _ _ _) ?_
    refine ev_pos (beq_iff_eq.mpr (by omega)) (ev_now rfl)
  · have hx24 : ¬ (((b.length : Int) == 0) = true) := fun h => h0 (by have := beq_iff_eq.mp h; omega)
    by_cases h1 : p < b.length
    · have hr := rd_byte hw p
      have er : wrap64 (rd b p) = rd b p := w64 (by omega) (by omega)
      refine ⟨Int.tmod (rd b p) n, Int.tmod_nonneg _ hr.1, Int.tmod_lt_of_pos _ (by omega), ?_⟩
      unfold spec_l20Rd_pick.f
      refine ev_neg (by omega) ?_
      rw [e1]
      refine Ev.step (fun _ => spec_l20Rd_pick.j0.eq_2 _ _ _ _ _) ?_
      simp only [e2, er]
      refine ev_neg hx24 (ev_pos h1 (ev_pos hp0 (ev_neg (by omega) (ev_now rfl))))
    · have hL : (0 : Int) < b.length := by omega
      have m0 := Int.tmod_nonneg (b.length : Int) hp0
      have m1 := Int.tmod_lt_of_pos p hL
      have e3 : wrap64 (p * 7) = p * 7 := w64 (by omega) (by omega)
      have e4 : wrap64 (p * 7 + 3) = p * 7 + 3 := w64 (by omega) (by omega)
      have n0 := Int.tmod_nonneg (b.length : Int) (show 0 ≤ p * 7 + 3 by omega)
      have n1 := Int.tmod_lt_of_pos (p * 7 + 3) hL
      have r1 := rd_byte hw (Int.tmod p b.length)
      have r2 := rd_byte hw (Int.tmod (p * 7 + 3) b.length)
      have d0 : 0 ≤ Int.tdiv p b.length := Int.tdiv_nonneg hp0 (by omega)
      have d1 : Int.tdiv p b.length ≤ p := Int.tdiv_le_self _ hp0
      have e5 : wrap64 (rd b (Int.tmod p b.length)) = rd b (Int.tmod p b.length) := w64 (by omega) (by omega)
      have e6 : wrap64 (rd b (Int.tmod (p * 7 + 3) b.length)) = rd b (Int.tmod (p * 7 + 3) b.length) := w64 (by omega) (by omega)
      have e7 : wrap64 (rd b (Int.tmod p b.length) * 131) = rd b (Int.tmod p b.length) * 131 := w64 (by omega) (by omega)
      have e8 : wrap64 (rd b (Int.tmod (p * 7 + 3) b.length) * 1117) = rd b (Int.tmod (p * 7 + 3) b.length) * 1117 := w64 (by omega) (by omega)
      have e9 : wrap64 (p * 29) = p * 29 := w64 (by omega) (by omega)
      have e10 : wrap64 (Int.tdiv p b.length) = Int.tdiv p b.length := w64 (by omega) (by omega)
      have e11 : wrap64 (Int.tdiv p b.length * 53) = Int.tdiv p b.length * 53 := w64 (by omega) (by omega)
      generalize hA : rd b (Int.tmod p b.length) = A at *
      generalize hB : rd b (Int.tmod (p * 7 + 3) b.length) = B at *
      generalize hD : Int.tdiv p b.length = D at *
      have e12 : wrap64 (A * 131 + B * 1117) = A * 131 + B * 1117 := w64 (by omega) (by omega)
      have e13 : wrap64 (A * 131 + B * 1117 + p * 29) = A * 131 + B * 1117 + p * 29 := w64 (by omega) (by omega)
      have e14 : wrap64 (A * 131 + B * 1117 + p * 29 + D * 53) = A * 131 + B * 1117 + p * 29 + D * 53 := w64 (by omega) (by omega)
      have hS : 0 ≤ A * 131 + B * 1117 + p * 29 + D * 53 := by omega
      have hS1 : A * 131 + B * 1117 + p * 29 + D * 53 < 4611686018427387904 := by omega
      have t0 : 0 ≤ Int.tdiv (A * 131 + B * 1117 + p * 29 + D * 53) 64 := Int.tdiv_nonneg hS (by omega)
      have t1 : Int.tdiv (A * 131 + B * 1117 + p * 29 + D * 53) 64 ≤ A * 131 + B * 1117 + p * 29 + D * 53 := Int.tdiv_le_self _ hS
      have e15 : wrap64 (Int.tdiv (A * 131 + B * 1117 + p * 29 + D * 53) 64) = Int.tdiv (A * 131 + B * 1117 + p * 29 + D * 53) 64 := w64 (by omega) (by omega)
      have hX := xor_pos _ _ hS hS1 t0 (by omega)
      refine ⟨_, Int.tmod_nonneg n hX, Int.tmod_lt_of_pos _ (show 0 < n by omega), ?_⟩
      unfold spec_l20Rd_pick.f
      refine ev_neg (by omega) ?_
      rw [e1]
      refine Ev.step (fun _ => spec_l20Rd_pick.j0.eq_2 _ _ _ _ _) ?_
      simp only [e2, e3, e4, hA, hB, e5, e6, e7, e8, e9, hD, e10, e11, e12, e13, e14, e15]
      exact ev_neg hx24 (ev_neg h1 (ev_neg (by omega) (ev_pos m0 (ev_pos m1 (ev_pos n0 (ev_pos n1 (ev_neg (by omega) (ev_now rfl))))))))
theorem open_ok {l : List Int} (hw : ∀ x ∈ l, (Lit.int .u8 x).wf = true) : ∃ b, spec_l20Open.f l = some (b, 0) ∧ Rdr b := by
  have hw' : ∀ x ∈ l, 0 ≤ x ∧ x ≤ 255 := fun x hx => by
    have := hw x hx
    simp [Lit.wf, IntKind.min, IntKind.max, IntKind.signed, IntKind.bits] at this
    omega
  unfold spec_l20Open.f
  by_cases h : (l.length : Int) > 2000
  · refine ⟨l.take 2000, by rw [if_pos h, if_pos (by omega)], by simp; omega, fun x hx => hw' x (List.mem_of_mem_take hx)⟩
  · exact ⟨l, by rw [if_neg h], by omega, hw'⟩

/-! pack odd -/
theorem odd_ok {b : List Int} (hb : Rdr b) {p n : Int} (hp0 : 0 ≤ p) (hp1 : p ≤ 1000000) (hn : 0 ≤ n) (hn1 : n ≤ 1000000) :
    ∃ v p', p ≤ p' ∧ p' ≤ p + 1 ∧ (n = 0 → v = false) ∧ Ev (fun k => spec_l20Rd_odd.f k b p n) (v, p') := by
  unfold spec_l20Rd_odd.f
  by_cases h : n > 0
  · obtain ⟨v, a, c, hE⟩ := pick_ok (n := n) hb hp0 hp1 (by omega)
    exact ⟨_, p + 1, by omega, by omega, fun e => by omega, ev_pos h (Ev.bind hE (Ev.now _))⟩
  · exact ⟨false, p, by omega, by omega, fun _ => rfl, ev_neg h (Ev.now _)⟩

/-! pack deed: the text of a deed -/
theorem tl (b : ByteArray) : b.toList = b.data.toList := ByteArray.toList_eq b
def pr (b : UInt8) : Bool := decide (32 ≤ b.toNat) && decide (b.toNat ≤ 126)
theorem bt_drop (s : ByteArray) (i : Nat) (h : i < s.size) : ∃ b : UInt8, s.toList.drop i = b :: s.toList.drop (i + 1) ∧ bt s (i : Int) = (b.toNat : Int) := by
  rw [tl]
  have hl : i < s.data.toList.length := by simpa using h
  refine ⟨s.data.toList[i], List.drop_eq_getElem_cons hl, ?_⟩
  unfold bt
  rw [dif_pos (by simpa using h)]
  simp only [Int.toNat_natCast]
  rfl
theorem tl_len (s : ByteArray) : s.toList.length = s.size := by rw [tl]; simp
theorem iPrint_l0 (s : ByteArray) (hs : s.size ≤ 9000000000000000000) : ∀ r i : Nat, i + r = s.size → Ev (fun k => impl_isPrintable.l0 k s (s.size : Int) (i : Int)) ((s.toList.drop i).all pr)
  | 0, i, h => Ev.step (fun _ => impl_isPrintable.l0.eq_2 _ _ _ _) (ev_neg (by omega) (ev_now (by rw [List.drop_of_length_le (by rw [tl_len]; omega)]; rfl)))
  | r + 1, i, h => by
    obtain ⟨b, hb, hv⟩ := bt_drop s i (by omega)
    refine Ev.step (fun _ => impl_isPrintable.l0.eq_2 _ _ _ _) (ev_pos (by omega) (ev_pos (by omega) (ev_pos (by omega) ?_)))
    rw [hb, List.all_cons, hv]
    by_cases h1 : (b.toNat : Int) < 32
    · rw [show pr b = false by unfold pr; rw [decide_eq_false (by omega)]; rfl]; exact ev_pos h1 (ev_now rfl)
    · by_cases h2 : (b.toNat : Int) > 126
      · rw [show pr b = false by unfold pr; rw [decide_eq_false (p := b.toNat ≤ 126) (by omega), Bool.and_false]]; exact ev_neg h1 (ev_pos h2 (ev_now rfl))
      · rw [show pr b = true by unfold pr; rw [decide_eq_true (p := 32 ≤ b.toNat) (by omega), decide_eq_true (p := b.toNat ≤ 126) (by omega)]; rfl, Bool.true_and]
        refine ev_neg h1 (ev_neg h2 ?_)
        rw [w64 (by omega) (by omega)]
        exact iPrint_l0 s hs r (i + 1) (by omega)
theorem iPrint (s : ByteArray) (hs : s.size ≤ 9000000000000000000) : Ev (fun k => impl_isPrintable.f k s) (s.toList.all pr) := iPrint_l0 s hs s.size 0 (by omega)
theorem sPlain_l0 (s : ByteArray) (hs : s.size ≤ 9000000000000000000) : ∀ r i : Nat, i + r = s.size → Ev (fun k => spec_l9Plain.l0 k s (i : Int)) ((s.toList.drop i).all pr && decide (s.size > 0))
  | 0, i, h => Ev.step (fun _ => spec_l9Plain.l0.eq_2 _ _ _) (ev_neg (by omega) (ev_now (by rw [List.drop_of_length_le (by rw [tl_len]; omega)]; simp)))
  | r + 1, i, h => by
    obtain ⟨b, hb, hv⟩ := bt_drop s i (by omega)
    refine Ev.step (fun _ => spec_l9Plain.l0.eq_2 _ _ _) (ev_pos (by omega) (ev_pos (by omega) ?_))
    rw [hb, List.all_cons, hv]
    by_cases h1 : (b.toNat : Int) < 32
    · rw [show pr b = false by unfold pr; rw [decide_eq_false (by omega)]; rfl]; exact ev_pos h1 (ev_now rfl)
    · by_cases h2 : (b.toNat : Int) > 126
      · rw [show pr b = false by unfold pr; rw [decide_eq_false (p := b.toNat ≤ 126) (by omega), Bool.and_false]]; exact ev_neg h1 (ev_pos h2 (ev_now rfl))
      · rw [show pr b = true by unfold pr; rw [decide_eq_true (p := 32 ≤ b.toNat) (by omega), decide_eq_true (p := b.toNat ≤ 126) (by omega)]; rfl, Bool.true_and]
        refine ev_neg h1 (ev_neg h2 ?_)
        rw [w64 (by omega) (by omega)]
        exact sPlain_l0 s hs r (i + 1) (by omega)
theorem sPlain (s : ByteArray) (hs : s.size ≤ 9000000000000000000) : Ev (fun k => spec_l9Plain.f k s) (s.toList.all pr && decide (s.size > 0)) := sPlain_l0 s hs s.size 0 (by omega)
def dB (k n : Int) (t : ByteArray) : ByteArray :=
  if k = 0 ∧ n = 0 ∧ t.toList ≠ [] ∧ t.toList.all pr = true then (⟨#[115, 97, 121, 32]⟩ : ByteArray) ++ t
  else if k = 1 ∧ t.toList = [] ∧ 0 ≤ n ∧ n ≤ 9 then (⟨#[100, 114, 111, 112, 32]⟩ : ByteArray) ++ ⟨(Lib.decDigits n.toNat).toArray⟩
  else if k = 2 ∧ n = 0 ∧ t.toList = [] then ⟨#[98, 97, 99, 107]⟩ else ⟨#[]⟩
theorem nil_iff (t : ByteArray) : t.toList = [] ↔ t.size = 0 := by rw [← tl_len]; exact List.length_eq_zero_iff.symm
theorem backB (k n : Int) (t : ByteArray) : ((k == 2 && (n == 0 && (t.toList == ([] : List UInt8)))) = true) ↔ (k = 2 ∧ n = 0 ∧ t.toList = []) := by simp
theorem digit_len : ∀ d : Fin 10, (Lib.decDigits d.val).length = 1 := fun d => by unfold Lib.decDigits; rw [dif_pos d.isLt]; rfl
theorem iDeed_j1F (k n : Int) (t : ByteArray) : Ev (fun r => impl_deedText.j1 r false k n t) (if k = 2 ∧ n = 0 ∧ t.toList = [] then ⟨#[98, 97, 99, 107]⟩ else ⟨#[]⟩) := by
  refine Ev.step (fun _ => impl_deedText.j1.eq_2 _ _ _ _ _) (ev_neg (by simp) ?_)
  by_cases h : k = 2 ∧ n = 0 ∧ t.toList = []
  · rw [if_pos h]; exact ev_pos ((backB k n t).2 h) (ev_now rfl)
  · rw [if_neg h]; exact ev_neg (fun e => h ((backB k n t).1 e)) (ev_now rfl)
theorem iDeed_j0F (k n : Int) (t : ByteArray) : Ev (fun r => impl_deedText.j0 r false k n t) (if k = 1 ∧ t.toList = [] ∧ 0 ≤ n ∧ n ≤ 9 then (⟨#[100, 114, 111, 112, 32]⟩ : ByteArray) ++ ⟨(Lib.decDigits n.toNat).toArray⟩ else if k = 2 ∧ n = 0 ∧ t.toList = [] then ⟨#[98, 97, 99, 107]⟩ else ⟨#[]⟩) := by
  refine Ev.step (fun _ => impl_deedText.j0.eq_2 _ _ _ _ _) (ev_neg (by simp) ?_)
  by_cases h1 : k = 1
  · refine ev_pos h1 ?_
    by_cases h2 : t.toList = []
    · refine ev_pos h2 ?_
      by_cases h3 : n ≥ 0
      · refine ev_pos h3 ?_
        by_cases h4 : n ≤ 9
        · rw [if_pos ⟨h1, h2, h3, h4⟩, decide_eq_true h4]
          have hd := digit_len ⟨n.toNat, by omega⟩
          refine Ev.step (fun _ => impl_deedText.j1.eq_2 _ _ _ _ _) (ev_pos rfl (ev_bind (a := ⟨(Lib.decDigits n.toNat).toArray⟩) (show (if 0 ≤ n ∧ n < 100 then some (⟨(Lib.decDigits n.toNat).toArray⟩ : ByteArray) else none) = some _ from if_pos ⟨h3, by omega⟩) (ev_pos ?_ (ev_now rfl))))
          show 5 + (Lib.decDigits n.toNat).toArray.size ≤ _
          simp only [List.size_toArray]
          simp only at hd
          omega
        · rw [if_neg (fun e => h4 e.2.2.2), decide_eq_false h4]; exact iDeed_j1F k n t
      · rw [if_neg (fun e => h3 e.2.2.1)]; exact ev_neg h3 (iDeed_j1F k n t)
    · rw [if_neg (fun e => h2 e.2.1)]; exact ev_neg h2 (iDeed_j1F k n t)
  · rw [if_neg (fun e => h1 e.1)]; exact ev_neg h1 (iDeed_j1F k n t)
theorem iDeed (k n : Int) (t : ByteArray) (ht : t.size ≤ 9000000000000000000) : Ev (fun r => impl_deedText.f r k n t) (dB k n t) := by
  unfold impl_deedText.f dB
  by_cases h1 : k = 0
  · refine ev_pos h1 ?_
    by_cases h2 : n = 0
    · refine ev_pos h2 ?_
      by_cases h3 : t.toList = []
      · rw [if_neg (fun e => e.2.2.1 h3)]; exact ev_pos h3 (iDeed_j0F k n t)
      · refine ev_neg h3 (Ev.bind (iPrint t ht) ?_)
        by_cases h4 : t.toList.all pr = true
        · rw [if_pos ⟨h1, h2, h3, h4⟩, h4]
          exact Ev.step (fun _ => impl_deedText.j0.eq_2 _ _ _ _ _) (ev_pos rfl (ev_pos (by omega) (ev_now rfl)))
        · rw [if_neg (fun e => h4 e.2.2.2), Bool.eq_false_iff.mpr h4]; exact iDeed_j0F k n t
    · rw [if_neg (fun e => h2 e.2.1)]; exact ev_neg h2 (iDeed_j0F k n t)
  · rw [if_neg (fun e => h1 e.1)]; exact ev_neg h1 (iDeed_j0F k n t)

/-! pack deed_s: the text of a deed, by the reference -/
theorem s1In (n : Int) : spec_l1In.f n 0 9 = some (decide (0 ≤ n) && decide (n ≤ 9)) := by
  unfold spec_l1In.f
  by_cases h : n ≥ 0
  · rw [if_pos h, decide_eq_true (p := 0 ≤ n) h, Bool.true_and]
  · rw [if_neg h, decide_eq_false (p := 0 ≤ n) h, Bool.false_and]
theorem digit_all : ∀ d : Fin 10, strOfNums [(wrap64 (48 + (d.val : Int))) % 256] = ⟨#[UInt8.ofNat (48 + d.val)]⟩ := by decide +kernel
theorem decDigits_one (d : Nat) (h : d < 10) : Lib.decDigits d = [UInt8.ofNat (48 + d)] := by unfold Lib.decDigits; rw [dif_pos h]
theorem sNum (n : Int) (h0 : 0 ≤ n) (h1 : n ≤ 9) : Ev (fun r => spec_l1Number.f r n) ⟨(Lib.decDigits n.toNat).toArray⟩ := by
  obtain ⟨d, rfl⟩ := Int.eq_ofNat_of_zero_le h0
  refine Ev.step (fun _ => spec_l1Number.f.eq_2 _ _) (ev_pos (by omega) (ev_now ?_))
  rw [Int.toNat_natCast, decDigits_one d (by omega)]
  exact digit_all ⟨d, by omega⟩
theorem sDeed_j1F (k n : Int) (t : ByteArray) : Ev (fun r => spec_DeedText.j1 r false k n t) (if k = 2 ∧ n = 0 ∧ t.toList = [] then ⟨#[98, 97, 99, 107]⟩ else ⟨#[]⟩) := by
  refine Ev.step (fun _ => spec_DeedText.j1.eq_2 _ _ _ _ _) (ev_neg (by simp) ?_)
  by_cases h : k = 2 ∧ n = 0 ∧ t.toList = []
  · rw [if_pos h]; exact ev_pos ((backB k n t).2 h) (ev_now rfl)
  · rw [if_neg h]; exact ev_neg (fun e => h ((backB k n t).1 e)) (ev_now rfl)
theorem sDeed_j0F (k n : Int) (t : ByteArray) : Ev (fun r => spec_DeedText.j0 r false k n t) (if k = 1 ∧ t.toList = [] ∧ 0 ≤ n ∧ n ≤ 9 then (⟨#[100, 114, 111, 112, 32]⟩ : ByteArray) ++ ⟨(Lib.decDigits n.toNat).toArray⟩ else if k = 2 ∧ n = 0 ∧ t.toList = [] then ⟨#[98, 97, 99, 107]⟩ else ⟨#[]⟩) := by
  refine Ev.step (fun _ => spec_DeedText.j0.eq_2 _ _ _ _ _) (ev_neg (by simp) ?_)
  by_cases h1 : k = 1
  · refine ev_pos h1 ?_
    by_cases h2 : t.toList = []
    · refine ev_pos h2 (ev_bind (s1In n) ?_)
      by_cases h3 : 0 ≤ n
      · by_cases h4 : n ≤ 9
        · rw [if_pos ⟨h1, h2, h3, h4⟩, decide_eq_true h3, decide_eq_true h4]
          have hd := digit_len ⟨n.toNat, by omega⟩
          refine Ev.step (fun _ => spec_DeedText.j1.eq_2 _ _ _ _ _) (ev_pos rfl (Ev.bind (sNum n h3 h4) (ev_pos ?_ (ev_now rfl))))
          show 5 + (Lib.decDigits n.toNat).toArray.size ≤ _
          simp only [List.size_toArray]
          simp only at hd
          omega
        · rw [if_neg (fun e => h4 e.2.2.2), decide_eq_false h4, Bool.and_false]; exact sDeed_j1F k n t
      · rw [if_neg (fun e => h3 e.2.2.1), decide_eq_false h3, Bool.false_and]; exact sDeed_j1F k n t
    · rw [if_neg (fun e => h2 e.2.1)]; exact ev_neg h2 (sDeed_j1F k n t)
  · rw [if_neg (fun e => h1 e.1)]; exact ev_neg h1 (sDeed_j1F k n t)
theorem sDeed (k n : Int) (t : ByteArray) (ht : t.size ≤ 9000000000000000000) : Ev (fun r => spec_DeedText.f r k n t) (dB k n t) := by
  unfold spec_DeedText.f dB
  by_cases h1 : k = 0
  · refine ev_pos h1 ?_
    by_cases h2 : n = 0
    · refine ev_pos h2 (Ev.bind (sPlain t ht) ?_)
      by_cases h3 : t.toList = []
      · rw [if_neg (fun e => e.2.2.1 h3), decide_eq_false (p := t.size > 0) (by have := (nil_iff t).1 h3; omega), Bool.and_false]; exact sDeed_j0F k n t
      · rw [decide_eq_true (p := t.size > 0) (by have h5 : t.size ≠ 0 := fun e => h3 ((nil_iff t).2 e); omega), Bool.and_true]
        by_cases h4 : t.toList.all pr = true
        · rw [if_pos ⟨h1, h2, h3, h4⟩, h4]
          exact Ev.step (fun _ => spec_DeedText.j0.eq_2 _ _ _ _ _) (ev_pos rfl (ev_pos (by omega) (ev_now rfl)))
        · rw [if_neg (fun e => h4 e.2.2.2), Bool.eq_false_iff.mpr h4]; exact sDeed_j0F k n t
    · rw [if_neg (fun e => h2 e.2.1)]; exact ev_neg h2 (sDeed_j0F k n t)
  · rw [if_neg (fun e => h1 e.1)]; exact ev_neg h1 (sDeed_j0F k n t)

/-! pack rdD: which deed a text tells -/
theorem ba_ext {a b : ByteArray} (h : a.toList = b.toList) : a = b := by
  obtain ⟨⟨x⟩⟩ := a
  obtain ⟨⟨y⟩⟩ := b
  simp [ByteArray.toList_eq] at h
  rw [h]
theorem ba_nil {a : ByteArray} (h : a.toList = []) : a = ⟨#[]⟩ := ba_ext (h.trans (by simp [ByteArray.toList_eq]))
theorem extract_list (s : ByteArray) (a b : Nat) : (s.extract a b).toList = (s.toList.take b).drop a := by
  simp [ByteArray.toList_eq, ByteArray.data_extract, Array.toList_extract, List.extract_eq_take_drop, List.drop_take]
def candB (s r : ByteArray) (b : Bool) : Int × Int × ByteArray :=
  if b = true then (1, wrap64 (wrap64 (bt r 0) - 48), ⟨#[]⟩) else if s.toList = [98, 97, 99, 107] then (2, 0, ⟨#[]⟩) else (0, 0, ⟨#[]⟩)
def cand (s : ByteArray) : Int × Int × ByteArray :=
  if (Go.Proofs.YtnnaiaiddjkjnaaDoorW.Shelf.cutAt s 32).1.toList = [115, 97, 121] then (0, 0, (Go.Proofs.YtnnaiaiddjkjnaaDoorW.Shelf.cutAt s 32).2.1)
  else candB s (Go.Proofs.YtnnaiaiddjkjnaaDoorW.Shelf.cutAt s 32).2.1 (if (Go.Proofs.YtnnaiaiddjkjnaaDoorW.Shelf.cutAt s 32).1.toList = [100, 114, 111, 112] then ((Go.Proofs.YtnnaiaiddjkjnaaDoorW.Shelf.cutAt s 32).2.1.size : Int) == 1 else false)
theorem cand_say (t : ByteArray) : cand ((⟨#[115, 97, 121, 32]⟩ : ByteArray) ++ t) = (0, 0, t) := by
  obtain ⟨⟨l⟩⟩ := t
  have hi : Lib.indexByte (115 :: 97 :: 121 :: 32 :: l) 32 = 3 := by simp [Lib.indexByte]
  have hd : ((⟨#[115, 97, 121, 32]⟩ : ByteArray) ++ ⟨⟨l⟩⟩).data.toList = 115 :: 97 :: 121 :: 32 :: l := by simp
  have hs : ((⟨#[115, 97, 121, 32]⟩ : ByteArray) ++ ⟨⟨l⟩⟩).size = 4 + l.length := by simp; rfl
  have hc : Go.Proofs.YtnnaiaiddjkjnaaDoorW.Shelf.cutAt ((⟨#[115, 97, 121, 32]⟩ : ByteArray) ++ ⟨⟨l⟩⟩) 32 = (⟨#[115, 97, 121]⟩, ⟨⟨l⟩⟩, true) := by
    unfold Go.Proofs.YtnnaiaiddjkjnaaDoorW.Shelf.cutAt
    rw [hd, hi, if_pos (by omega)]
    refine Prod.ext (ba_ext ?_) (Prod.ext (ba_ext ?_) rfl)
    · rw [extract_list, ByteArray.toList_eq, hd]; simp [ByteArray.toList_eq]
    · rw [extract_list, ByteArray.toList_eq, hd, hs]; simp [ByteArray.toList_eq]; rw [List.take_of_length_le (by simp; omega)]; rfl
  unfold cand
  rw [hc, if_pos (by simp [ByteArray.toList_eq])]
theorem cand_drop : ∀ d : Fin 10, cand ((⟨#[100, 114, 111, 112, 32]⟩ : ByteArray) ++ ⟨(Lib.decDigits d.val).toArray⟩) = (1, (d.val : Int), ⟨#[]⟩) := by
  decide +kernel
theorem cand_back : cand ⟨#[98, 97, 99, 107]⟩ = (2, 0, ⟨#[]⟩) := by decide +kernel
theorem dB_cand (k n : Int) (t s : ByteArray) (h : dB k n t = s) (hs : s.toList ≠ []) : cand s = (k, n, t) := by
  subst h
  unfold dB at hs ⊢
  by_cases h1 : k = 0 ∧ n = 0 ∧ t.toList ≠ [] ∧ t.toList.all pr = true
  · rw [if_pos h1, cand_say, h1.1, h1.2.1]
  · rw [if_neg h1] at hs ⊢
    by_cases h2 : k = 1 ∧ t.toList = [] ∧ 0 ≤ n ∧ n ≤ 9
    · rw [if_pos h2, ba_nil h2.2.1, h2.1]
      have := cand_drop ⟨n.toNat, by omega⟩
      rw [this]
      show (1, (n.toNat : Int), _) = _
      rw [Int.toNat_of_nonneg h2.2.2.1]
    · rw [if_neg h2] at hs ⊢
      by_cases h3 : k = 2 ∧ n = 0 ∧ t.toList = []
      · rw [if_pos h3, cand_back, h3.1, h3.2.1, ba_nil h3.2.2]
      · rw [if_neg h3] at hs; exact absurd (by simp [ByteArray.toList_eq]) hs
def rdOfD (s : ByteArray) (k n : Int) (t : ByteArray) : Int × Int × ByteArray × Bool := if s.toList ≠ [] ∧ dB k n t = s then (k, n, t, true) else (0, 0, ⟨#[]⟩, false)
def rdD (s : ByteArray) : Int × Int × ByteArray × Bool := rdOfD s (cand s).1 (cand s).2.1 (cand s).2.2
theorem rd_of (k n : Int) (t s : ByteArray) (h : dB k n t = s) (hs : s.toList ≠ []) : rdD s = (k, n, t, true) := by
  unfold rdD rdOfD
  rw [dB_cand k n t s h hs]
  exact if_pos ⟨hs, h⟩

/-! pack rd_i: the program's reading of a deed -/
theorem cut_ok (s : ByteArray) (hs : s.size ≤ 9000000000000000000) (c : UInt8) : strings_Cut.f s ⟨#[c]⟩ = some (Go.Proofs.YtnnaiaiddjkjnaaDoorW.Shelf.cutAt s c) := by
  unfold strings_Cut.f
  simp only []
  exact if_pos (by omega)
theorem cut_size (s : ByteArray) (c : UInt8) : (Go.Proofs.YtnnaiaiddjkjnaaDoorW.Shelf.cutAt s c).2.1.size ≤ s.size := by
  rcases Go.Proofs.YtnnaiaiddjkjnaaDoorW.Shelf.cut_cases s c with ⟨_, h⟩ | ⟨i, _, hi, h⟩
  · rw [h]; exact Nat.zero_le _
  · rw [h, ByteArray.size_extract]; omega
theorem iTail (s : ByteArray) (a b : Int) (t : ByteArray) (ht : t.size ≤ 9000000000000000000) :
    Ev (fun k => if s.toList = ([] : List UInt8) then some (0, 0, (⟨#[]⟩ : ByteArray), false) else (impl_deedText.f k a b t).bind fun u => if u.toList = s.toList then some (a, b, t, true) else some (0, 0, (⟨#[]⟩ : ByteArray), false)) (rdOfD s a b t) := by
  unfold rdOfD
  by_cases h : s.toList = []
  · rw [if_neg (fun e => e.1 h)]; exact ev_pos h (ev_now rfl)
  · refine ev_neg h (Ev.bind (iDeed a b t ht) ?_)
    by_cases h2 : dB a b t = s
    · rw [if_pos (show s.toList ≠ [] ∧ dB a b t = s from ⟨h, h2⟩)]; exact ev_pos (congrArg ByteArray.toList h2) (ev_now rfl)
    · rw [if_neg (fun e : s.toList ≠ [] ∧ dB a b t = s => h2 e.2)]; exact ev_neg (fun e => h2 (ba_ext e)) (ev_now rfl)
theorem iRead_j0 (s r : ByteArray) (b : Bool) (hb : b = true → 0 < (r.size : Int)) : Ev (fun k => impl_readDeed.j0 k s r b 0 0 ⟨#[]⟩) (rdOfD s (candB s r b).1 (candB s r b).2.1 (candB s r b).2.2) := by
  refine Ev.step (fun _ => impl_readDeed.j0.eq_2 _ _ _ _ _ _ _) ?_
  unfold candB
  by_cases h2 : b = true
  · rw [if_pos h2]
    exact ev_pos h2 (ev_pos (hb h2) (iTail s 1 _ ⟨#[]⟩ (Nat.zero_le _)))
  · rw [if_neg h2]
    refine ev_neg h2 ?_
    by_cases h3 : s.toList = [98, 97, 99, 107]
    · rw [if_pos h3]; exact ev_pos h3 (iTail s 2 0 ⟨#[]⟩ (Nat.zero_le _))
    · rw [if_neg h3]; exact ev_neg h3 (iTail s 0 0 ⟨#[]⟩ (Nat.zero_le _))
theorem iRead (s : ByteArray) (hs : s.size ≤ 9000000000000000000) : Ev (fun k => impl_readDeed.f k s) (rdD s) := by
  unfold impl_readDeed.f rdD
  refine ev_bind (cut_ok s hs 32) ?_
  have hz := cut_size s 32
  unfold cand
  generalize Go.Proofs.YtnnaiaiddjkjnaaDoorW.Shelf.cutAt s 32 = c at *
  by_cases h1 : c.1.toList = [115, 97, 121]
  · rw [if_pos h1]; exact ev_pos h1 (iTail s 0 0 c.2.1 (by omega))
  · rw [if_neg h1]
    refine ev_neg h1 ?_
    by_cases h2 : c.1.toList = [100, 114, 111, 112]
    · rw [if_pos h2]; exact ev_pos h2 (iRead_j0 s c.2.1 _ (fun e => by have := eq_of_beq e; omega))
    · rw [if_neg h2]; exact ev_neg h2 (iRead_j0 s c.2.1 false (fun e => by cases e))

theorem rd26_drop (l : List S26) (i : Nat) (h : i < l.length) : l.drop i = rd_T26 l (i : Int) :: l.drop (i + 1) := by
  rw [List.drop_eq_getElem_cons h]
  simp [rd_T26, List.getD_eq_getElem?_getD, List.getElem?_eq_getElem h]

/-! pack journal: the text of a journal -/
theorem dB_size (k n : Int) (t : ByteArray) : (dB k n t).size ≤ t.size + 6 := by
  unfold dB
  by_cases h1 : k = 0 ∧ n = 0 ∧ t.toList ≠ [] ∧ t.toList.all pr = true
  · rw [if_pos h1, ByteArray.size_append]
    show 4 + t.size ≤ _; omega
  · rw [if_neg h1]
    by_cases h2 : k = 1 ∧ t.toList = [] ∧ 0 ≤ n ∧ n ≤ 9
    · rw [if_pos h2, ByteArray.size_append]
      have hd := digit_len ⟨n.toNat, by omega⟩
      show 5 + (Lib.decDigits n.toNat).toArray.size ≤ _
      simp only [List.size_toArray]
      simp only at hd
      omega
    · rw [if_neg h2]
      by_cases h3 : k = 2 ∧ n = 0 ∧ t.toList = []
      · rw [if_pos h3]; show 4 ≤ _; omega
      · rw [if_neg h3]; exact Nat.zero_le _
def jT (acc : ByteArray) : List S26 → ByteArray
  | [] => acc
  | x :: r => if (dB x.f0 x.f1 x.f2).toList = [] then ⟨#[]⟩ else jT ((acc ++ dB x.f0 x.f1 x.f2) ++ (⟨#[10]⟩ : ByteArray)) r
theorem ten_size : (⟨#[10]⟩ : ByteArray).size = 1 := rfl
theorem sJournal_l0 (L : List S26) (hl : L.length ≤ 2000000) (hz : ∀ x ∈ L, x.f2.size ≤ 4000000000000) : ∀ (r i : Nat) (acc : ByteArray), i + r = L.length → acc.size + r * 4000000000007 ≤ 9000000000000000000 → Ev (fun k => spec_JournalText.l0 k L acc (i : Int)) (jT acc (L.drop i))
  | 0, i, acc, h, ha => Ev.step (fun _ => spec_JournalText.l0.eq_2 _ _ _ _) (ev_neg (by omega) (ev_now (by rw [List.drop_of_length_le (by omega)]; rfl)))
  | r + 1, i, acc, h, ha => by
    have hd := rd26_drop L i (by omega)
    have hx := hz _ (List.mem_of_mem_drop (i := i) (by rw [hd]; exact List.mem_cons_self))
    have hs := dB_size (rd_T26 L (i : Int)).f0 (rd_T26 L (i : Int)).f1 (rd_T26 L (i : Int)).f2
    refine Ev.step (fun _ => spec_JournalText.l0.eq_2 _ _ _ _) (ev_pos (by omega) (ev_pos (by omega) (Ev.bind (sDeed _ _ _ (by omega)) ?_)))
    rw [hd]
    unfold jT
    by_cases h1 : (dB (rd_T26 L (i : Int)).f0 (rd_T26 L (i : Int)).f1 (rd_T26 L (i : Int)).f2).toList = []
    · rw [if_pos h1]; exact ev_pos h1 (ev_now rfl)
    · rw [if_neg h1]
      refine ev_neg h1 (Ev.bind (sDeed _ _ _ (by omega)) (ev_pos (by omega) (ev_pos (by omega) ?_)))
      rw [w64 (by omega) (by omega)]
      exact sJournal_l0 L hl hz r (i + 1) _ (by omega) (by rw [ByteArray.size_append, ByteArray.size_append, ten_size]; omega)
theorem sJournal (L : List S26) (hl : L.length ≤ 2000000) (hz : ∀ x ∈ L, x.f2.size ≤ 4000000000000) : Ev (fun k => spec_JournalText.f k L) (jT ⟨#[]⟩ L) := by
  unfold spec_JournalText.f
  exact sJournal_l0 L hl hz L.length 0 _ (by omega) (by show 0 + _ ≤ _; omega)
theorem iJournal_l0 (L : List S26) (hl : L.length ≤ 2000000) (hz : ∀ x ∈ L, x.f2.size ≤ 4000000000000) : ∀ (r i : Nat) (acc : ByteArray), i + r = L.length → acc.size + r * 4000000000007 ≤ 9000000000000000000 → Ev (fun k => impl_JournalText.l0 k acc L (L.length : Int) (i : Int)) (jT acc (L.drop i))
  | 0, i, acc, h, ha => Ev.step (fun _ => impl_JournalText.l0.eq_2 _ _ _ _ _) (ev_neg (by omega) (ev_now (by rw [List.drop_of_length_le (by omega)]; rfl)))
  | r + 1, i, acc, h, ha => by
    have hd := rd26_drop L i (by omega)
    have hx := hz _ (List.mem_of_mem_drop (i := i) (by rw [hd]; exact List.mem_cons_self))
    have hs := dB_size (rd_T26 L (i : Int)).f0 (rd_T26 L (i : Int)).f1 (rd_T26 L (i : Int)).f2
    refine Ev.step (fun _ => impl_JournalText.l0.eq_2 _ _ _ _ _) (ev_pos (by omega) (ev_pos (by omega) (ev_pos (by omega) (Ev.bind (iDeed _ _ _ (by omega)) ?_))))
    rw [hd]
    unfold jT
    by_cases h1 : (dB (rd_T26 L (i : Int)).f0 (rd_T26 L (i : Int)).f1 (rd_T26 L (i : Int)).f2).toList = []
    · rw [if_pos h1]; exact ev_pos h1 (ev_now rfl)
    · rw [if_neg h1]
      refine ev_neg h1 (ev_pos (by omega) (ev_pos (by omega) ?_))
      rw [w64 (by omega) (by omega), ← ByteArray.append_assoc]
      exact iJournal_l0 L hl hz r (i + 1) _ (by omega) (by rw [ByteArray.size_append, ByteArray.size_append, ten_size]; omega)
theorem iJournal (L : List S26) (hl : L.length ≤ 2000000) (hz : ∀ x ∈ L, x.f2.size ≤ 4000000000000) : Ev (fun k => impl_JournalText.f k L) (jT ⟨#[]⟩ L) := by
  unfold impl_JournalText.f
  exact iJournal_l0 L hl hz L.length 0 _ (by omega) (by show 0 + _ ≤ _; omega)

/-! pack weigh: texts of sentences -/
def wS (f : Nat) : List UInt8 := ([[97, 108, 108, 32], [115, 111, 109, 101, 32], [110, 111, 116, 32, 102, 101, 119, 101, 114, 32], [109, 111, 114, 101, 32], [109, 111, 115, 116, 32], [97, 116, 32, 109, 111, 115, 116, 32, 104, 97, 108, 102, 32]] : List (List UInt8)).getD f []
def wM (f : Nat) : List UInt8 := if f = 2 ∨ f = 3 then [32, 116, 104, 97, 110, 32] else [32, 97, 114, 101, 32]
def wT (o : Nat) : List UInt8 := ([[97], [110, 111, 110, 45, 97], [98], [110, 111, 110, 45, 98]] : List (List UInt8)).getD o []
def wL (f o t : Nat) : List UInt8 := wS f ++ wT o ++ wM f ++ wT t
def wB (f o t : Nat) : ByteArray := ⟨(wL f o t).toArray⟩
theorem wB_l (f o t : Nat) : (wB f o t).toList = wL f o t := by rw [tl]; simp [wB]
def iL (i : Nat) : List UInt8 := wL (i / 16) (i / 4 % 4) (i % 4)
def fnd (P : Nat → Bool) : Nat → Nat → Option Nat
  | 0, _ => none
  | d + 1, i => if P i then some i else fnd P d (i + 1)
def res : Option Nat → Int × Int × Int × Bool
  | none => (0, 0, 0, false)
  | some i => (((i / 16 : Nat) : Int), ((i / 4 % 4 : Nat) : Int), ((i % 4 : Nat) : Int), true)
def isT (x : ByteArray) (i : Nat) : Bool := iL i == x.toList
def rdW (x : ByteArray) : Option Nat := fnd (isT x) 96 0

/-! pack weigh_s -/
theorem swt_all : ∀ f : Fin 6, ∀ o t : Fin 4, spec_WeighText.f (f.val : Int) (o.val : Int) (t.val : Int) = some (wB f.val o.val t.val) := by decide +kernel
theorem swt {f o t : Nat} (hf : f < 6) (ho : o < 4) (ht : t < 4) : spec_WeighText.f (f : Int) (o : Int) (t : Int) = some (wB f o t) := swt_all ⟨f, hf⟩ ⟨o, ho⟩ ⟨t, ht⟩

/-! pack wok: which sentences are right -/
def wOk (f o t : Int) : Bool := decide (0 ≤ f ∧ f ≤ 5 ∧ 0 ≤ o ∧ o ≤ 3 ∧ 0 ≤ t ∧ t ≤ 3)
theorem wOk_nat {f o t : Int} (h : wOk f o t = true) : ∃ x y z : Nat, x < 6 ∧ y < 4 ∧ z < 4 ∧ f = x ∧ o = y ∧ t = z := by
  have h := of_decide_eq_true h
  exact ⟨f.toNat, o.toNat, t.toNat, by omega, by omega, by omega, by omega, by omega, by omega⟩

theorem sWeigh (f o t : Int) : spec_WeighOk.f f o t = some (wOk f o t) := by
  unfold spec_WeighOk.f spec_l1In.f wOk
  simp only [ge_iff_le]
  by_cases h1 : 0 ≤ f <;> by_cases h2 : f ≤ 5 <;> by_cases h3 : 0 ≤ o <;> by_cases h4 : o ≤ 3 <;> by_cases h5 : 0 ≤ t <;> by_cases h6 : t ≤ 3 <;> simp [h1, h2, h3, h4, h5, h6]
def wX (f o t : Int) : ByteArray := if wOk f o t then wB f.toNat o.toNat t.toNat else ⟨#[]⟩
theorem sWT (f o t : Int) : spec_WeighText.f f o t = some (wX f o t) := by
  unfold wX
  cases h : wOk f o t with
  | true =>
    obtain ⟨x, y, z, hx, hy, hz, rfl, rfl, rfl⟩ := wOk_nat h
    exact swt hx hy hz
  | false =>
    unfold spec_WeighText.f
    rw [sWeigh, h]; rfl

/-! pack drawweigh: drawn sentences -/
theorem weigh_ok {b : List Int} (hb : Rdr b) {p n : Int} (hp0 : 0 ≤ p) (hp1 : p ≤ 900000) (hn : 0 ≤ n) (hn1 : n ≤ 1000000) :
    ∃ f o t p', 0 ≤ f ∧ f ≤ 6 ∧ 0 ≤ o ∧ o ≤ 4 ∧ -1 ≤ t ∧ t ≤ 3 ∧ (n = 0 → wOk f o t = true) ∧ p ≤ p' ∧ p' ≤ p + 5 ∧ Ev (fun k => spec_l20Weigh.f k b p n) (f, o, t, p') := by
  obtain ⟨f, f0, f1, h1⟩ := pick_ok (p := p) (n := 6) hb (by omega) (by omega) (by omega)
  obtain ⟨o, o0, o1, h2⟩ := pick_ok (p := p + 1) (n := 4) hb (by omega) (by omega) (by omega)
  obtain ⟨t, t0, t1, h3⟩ := pick_ok (p := p + 1 + 1) (n := 4) hb (by omega) (by omega) (by omega)
  obtain ⟨v, p', g0, g1, g2, h4⟩ := odd_ok (p := p + 1 + 1 + 1) (n := n) hb (by omega) (by omega) (by omega) (by omega)
  obtain ⟨u, u0, u1, h5⟩ := pick_ok (p := p') (n := 3) hb (by omega) (by omega) (by omega)
  unfold spec_l20Weigh.f
  cases v with
  | false => exact ⟨f, o, t, p', by omega, by omega, by omega, by omega, by omega, by omega, fun _ => decide_eq_true (by omega), by omega, by omega, Ev.bind h1 (Ev.bind h2 (Ev.bind h3 (Ev.bind h4 (ev_neg (by simp) (Ev.now _)))))⟩
  | true =>
    have hn0 : n = 0 → False := fun e => by have := g2 e; simp at this
    by_cases c0 : u = 0
    · exact ⟨6, o, t, p' + 1, by omega, by omega, by omega, by omega, by omega, by omega, fun e => (hn0 e).elim, by omega, by omega, Ev.bind h1 (Ev.bind h2 (Ev.bind h3 (Ev.bind h4 (ev_pos rfl (Ev.bind h5 (ev_pos c0 (Ev.now _)))))))⟩
    · by_cases c1 : u = 1
      · exact ⟨f, 4, t, p' + 1, by omega, by omega, by omega, by omega, by omega, by omega, fun e => (hn0 e).elim, by omega, by omega, Ev.bind h1 (Ev.bind h2 (Ev.bind h3 (Ev.bind h4 (ev_pos rfl (Ev.bind h5 (ev_neg c0 (ev_pos c1 (Ev.now _))))))))⟩
      · exact ⟨f, o, -1, p' + 1, by omega, by omega, by omega, by omega, by omega, by omega, fun e => (hn0 e).elim, by omega, by omega, Ev.bind h1 (Ev.bind h2 (Ev.bind h3 (Ev.bind h4 (ev_pos rfl (Ev.bind h5 (ev_neg c0 (ev_neg c1 (Ev.now _))))))))⟩

/-! pack rdw_s: the reference's reading -/
theorem srw_loop (x : ByteArray) (d : Nat) : ∀ i : Nat, i + d = 95 →
    Ev (fun k => spec_ReadWeigh.l2 k x ((i / 16 : Nat) : Int) ((i / 4 % 4 : Nat) : Int) ((i % 4 : Nat) : Int)) (res (fnd (isT x) (d + 1) i)) := by
  induction d with
  | zero =>
    intro i hi
    obtain rfl : i = 95 := by omega
    refine Ev.step (fun _ => spec_ReadWeigh.l2.eq_2 _ _ _ _ _) (ev_pos (by omega) (ev_bind (swt (by omega) (by omega) (by omega)) ?_))
    rw [wB_l]
    unfold fnd
    by_cases h : iL 95 = x.toList
    · rw [if_pos (show isT x 95 = true by unfold isT; rw [h]; simp)]
      exact ev_pos h (ev_now rfl)
    · rw [if_neg (show ¬ isT x 95 = true by unfold isT; simpa using h)]
      refine ev_neg h (Ev.step (fun _ => spec_ReadWeigh.l2.eq_2 _ _ _ _ _) (ev_neg (by decide +kernel) (Ev.step (fun _ => spec_ReadWeigh.l1.eq_2 _ _ _ _) (ev_neg (by decide +kernel) (Ev.step (fun _ => spec_ReadWeigh.l0.eq_2 _ _ _) (ev_neg (by decide +kernel) (ev_now rfl)))))))
  | succ d ih =>
    intro i hi
    refine Ev.step (fun _ => spec_ReadWeigh.l2.eq_2 _ _ _ _ _) (ev_pos (by omega) (ev_bind (swt (by omega) (by omega) (by omega)) ?_))
    rw [wB_l]
    unfold fnd
    by_cases h : iL i = x.toList
    · rw [if_pos (show isT x i = true by unfold isT; rw [h]; simp)]
      exact ev_pos h (ev_now rfl)
    · rw [if_neg (show ¬ isT x i = true by unfold isT; simpa using h)]
      have IH := ih (i + 1) (by omega)
      refine ev_neg h ?_
      rw [w64 (by omega) (by omega)]
      by_cases h3 : i % 4 = 3
      · rw [show (((i % 4 : Nat) : Int) + 1) = 4 by omega]
        refine Ev.step (fun _ => spec_ReadWeigh.l2.eq_2 _ _ _ _ _) (ev_neg (by decide) ?_)
        rw [w64 (by omega) (by omega)]
        by_cases h4 : i / 4 % 4 = 3
        · rw [show (((i / 4 % 4 : Nat) : Int) + 1) = 4 by omega]
          refine Ev.step (fun _ => spec_ReadWeigh.l1.eq_2 _ _ _ _) (ev_neg (by decide) ?_)
          rw [w64 (by omega) (by omega)]
          refine Ev.step (fun _ => spec_ReadWeigh.l0.eq_2 _ _ _) (ev_pos (by omega) (Ev.step (fun _ => spec_ReadWeigh.l1.eq_2 _ _ _ _) (ev_pos (by decide) ?_)))
          rw [show (i + 1) / 16 = i / 16 + 1 by omega, show (i + 1) / 4 % 4 = 0 by omega, show (i + 1) % 4 = 0 by omega] at IH
          exact IH
        · refine Ev.step (fun _ => spec_ReadWeigh.l1.eq_2 _ _ _ _) (ev_pos (by omega) ?_)
          rw [show (i + 1) / 16 = i / 16 by omega, show (i + 1) / 4 % 4 = i / 4 % 4 + 1 by omega, show (i + 1) % 4 = 0 by omega] at IH
          exact IH
      · rw [show (i + 1) / 16 = i / 16 by omega, show (i + 1) / 4 % 4 = i / 4 % 4 by omega, show (i + 1) % 4 = i % 4 + 1 by omega] at IH
        exact IH
theorem srw (x : ByteArray) : Ev (fun k => spec_ReadWeigh.f k x) (res (rdW x)) := by
  unfold spec_ReadWeigh.f
  refine Ev.step (fun _ => spec_ReadWeigh.l0.eq_2 _ _ _) (ev_pos (by decide) (Ev.step (fun _ => spec_ReadWeigh.l1.eq_2 _ _ _ _) (ev_pos (by decide) (srw_loop x 95 0 (by omega)))))

/-! pack rows: lists of sentences, which of them may lie on a desk -/
def eqS (x y : S71) : Bool := x.f0 == y.f0 && (x.f1 == y.f1 && x.f2 == y.f2)
theorem eqS_comm (x y : S71) : eqS x y = eqS y x := by
  have h (a b : Int) : (a == b) = (b == a) := by rw [Bool.eq_iff_iff, beq_iff_eq, beq_iff_eq]; exact eq_comm
  unfold eqS; rw [h x.f0, h x.f1, h x.f2]
theorem rdS_take (l : List S71) (i j : Nat) (h : j < i) (hi : i ≤ l.length) : (l.take i).drop j = rd_T71 l (j : Int) :: (l.take i).drop (j + 1) := by
  rw [List.drop_eq_getElem_cons (by rw [List.length_take]; omega)]
  simp [rd_T71, List.getD_eq_getElem?_getD, List.getElem?_eq_getElem (show j < l.length by omega)]
def rowR (L : List S71) : Nat → Nat → Bool
  | 0, _ => decide (L.length < 6)
  | r + 1, i => wOk (rd_T71 L (i : Int)).f0 (rd_T71 L (i : Int)).f1 (rd_T71 L (i : Int)).f2 && (!((L.take i).any (eqS (rd_T71 L (i : Int)))) && rowR L r (i + 1))
def rowB (L : List S71) : Bool := rowR L L.length 0
theorem l9_l1 (L : List S71) (hl : L.length ≤ 1000000000) (i : Nat) (hi : i < L.length) (res : Bool) (hE : Ev (fun k => spec_l9Row.l0 k L ((i + 1 : Nat) : Int)) res) :
    ∀ q j : Nat, j + q = i → Ev (fun k => spec_l9Row.l1 k L (i : Int) (j : Int)) (!(((L.take i).drop j).any (eqS (rd_T71 L (i : Int)))) && res)
  | 0, j, h => by
    refine Ev.step (fun _ => spec_l9Row.l1.eq_2 _ _ _ _) (ev_neg (by omega) ?_)
    rw [w64 (by omega) (by omega), List.drop_of_length_le (by rw [List.length_take]; omega)]
    exact hE
  | q + 1, j, h => by
    refine Ev.step (fun _ => spec_l9Row.l1.eq_2 _ _ _ _) (ev_pos (by omega) (ev_pos (by omega) (ev_pos (by omega) (ev_pos (by omega) (ev_pos (by omega) ?_)))))
    rw [rdS_take L i j (by omega) (by omega), List.any_cons, eqS_comm (rd_T71 L (i : Int)) (rd_T71 L (j : Int))]
    by_cases he : eqS (rd_T71 L (j : Int)) (rd_T71 L (i : Int)) = true
    · rw [he]; exact ev_pos he (ev_now rfl)
    · rw [Bool.eq_false_iff.mpr he]
      refine ev_neg he ?_
      rw [w64 (by omega) (by omega)]
      exact l9_l1 L hl i hi res hE q (j + 1) (by omega)
theorem l9_l0 (L : List S71) (hl : L.length ≤ 1000000000) : ∀ r i : Nat, i + r = L.length → Ev (fun k => spec_l9Row.l0 k L (i : Int)) (rowR L r i)
  | 0, i, h => Ev.step (fun _ => spec_l9Row.l0.eq_2 _ _ _) (ev_neg (by omega) (ev_now (by unfold rowR; exact decide_eq_decide.mpr (by omega))))
  | r + 1, i, h => by
    refine Ev.step (fun _ => spec_l9Row.l0.eq_2 _ _ _) (ev_pos (by omega) (ev_pos (by omega) (ev_bind (sWeigh _ _ _) ?_)))
    unfold rowR
    cases wOk (rd_T71 L (i : Int)).f0 (rd_T71 L (i : Int)).f1 (rd_T71 L (i : Int)).f2 with
    | false => exact ev_neg (by simp) (ev_now rfl)
    | true => exact ev_pos rfl (l9_l1 L hl i (by omega) _ (l9_l0 L hl r (i + 1) (by omega)) i 0 (by omega))
theorem l9_ok (L : List S71) (hl : L.length ≤ 1000000000) : Ev (fun k => spec_l9Row.f k L) (rowB L) := l9_l0 L hl L.length 0 (by omega)

/-! pack rdl: what lies in a list of lists -/
theorem rdL_drop (l : List (List S71)) (i : Nat) (h : i < l.length) : l.drop i = rd_L6 l (i : Int) :: l.drop (i + 1) := by
  rw [List.drop_eq_getElem_cons h]
  simp [rd_L6, List.getD_eq_getElem?_getD, List.getElem?_eq_getElem h]
theorem rdL_mem (l : List (List S71)) (i : Nat) (h : i < l.length) : rd_L6 l (i : Int) ∈ l := by
  have := rdL_drop l i h
  exact List.mem_of_mem_drop (i := i) (by rw [this]; exact List.mem_cons_self)

/-! pack valid: which desks are valid -/
def deskOk (N : List S71) (P : List (List S71)) : Bool := rowB N && (decide (P.length ≤ 10) && P.all rowB)

/-! pack valid_s: which desks are valid, by the reference -/
theorem specValid_l0 (N : List S71) (P : List (List S71)) (hl : N.length ≤ 1000000000) (hpl : P.length ≤ 1000000000) (hp : ∀ x ∈ P, x.length ≤ 1000000000) : ∀ r i : Nat, i + r = P.length →
    Ev (fun k => spec_DeskValid.l0 k (i : Int) N P) ((P.drop i).all rowB && (rowB N && decide (P.length ≤ 10)))
  | 0, i, h => by
    rw [List.drop_of_length_le (by omega)]
    refine Ev.step (fun _ => spec_DeskValid.l0.eq_2 _ _ _ _) (ev_neg (by omega) (Ev.bind (l9_ok N hl) ?_))
    cases rowB N with
    | false => exact ev_neg (by simp) (ev_now rfl)
    | true => exact ev_pos rfl (ev_now (by simp; omega))
  | r + 1, i, h => by
    rw [rdL_drop P i (by omega), List.all_cons]
    refine Ev.step (fun _ => spec_DeskValid.l0.eq_2 _ _ _ _) (ev_pos (by omega) (ev_pos (by omega) (Ev.bind (l9_ok _ (hp _ (rdL_mem P i (by omega)))) ?_)))
    cases rowB (rd_L6 P (i : Int)) with
    | false => exact ev_neg (by simp) (ev_now rfl)
    | true =>
      refine ev_pos rfl ?_
      rw [w64 (by omega) (by omega)]
      exact specValid_l0 N P hl hpl hp r (i + 1) (by omega)
theorem spec_DeskValid_ok (N : List S71) (P : List (List S71)) (hl : N.length ≤ 1000000000) (hpl : P.length ≤ 1000000000) (hp : ∀ x ∈ P, x.length ≤ 1000000000) : Ev (fun k => spec_DeskValid.f k N P) (deskOk N P) := by
  unfold spec_DeskValid.f
  refine ev_eq ?_ (specValid_l0 N P hl hpl hp P.length 0 (by omega))
  unfold deskOk
  rw [List.drop_zero]
  cases rowB N <;> cases P.all rowB <;> cases decide (P.length ≤ 10) <;> rfl

/-! pack deskdo: what the reference's DeskDo and the drawn deeds and desks come to -/
theorem copy_l0 (N : List S71) (P : List (List S71)) (M : List S71) (hP : P.length ≤ 1000) (hp : ∀ x ∈ P, x.length ≤ 1000) : ∀ (r i : Nat) (acc : List (List S71)), i + r = P.length → acc.length = i →
    Ev (fun k => spec_l9Copy.l0 k (i : Int) N P M acc) (M, acc ++ P.drop i)
  | 0, i, acc, h, ha => by
    rw [List.drop_of_length_le (by omega), List.append_nil]
    exact Ev.step (fun _ => spec_l9Copy.l0.eq_2 _ _ _ _ _ _) (ev_neg (by omega) (ev_now rfl))
  | r + 1, i, acc, h, ha => by
    have hm := hp _ (rdL_mem P i (by omega))
    refine Ev.step (fun _ => spec_l9Copy.l0.eq_2 _ _ _ _ _ _) (ev_pos (by omega) (ev_bind rfl (ev_pos (by omega) (ev_pos (by simp only [List.length_nil]; omega) (ev_pos (by omega) ?_)))))
    rw [w64 (by omega) (by omega), rdL_drop P i (by omega)]
    refine ev_eq ?_ (copy_l0 N P M hP hp r (i + 1) (acc ++ [[] ++ rd_L6 P (i : Int)]) (by omega) (by simp; omega))
    rw [List.append_assoc]; rfl
theorem copy_ok (N : List S71) (P : List (List S71)) (hN : N.length ≤ 1000) (hP : P.length ≤ 1000) (hp : ∀ x ∈ P, x.length ≤ 1000) : Ev (fun k => spec_l9Copy.f k N P) (N, P) := by
  unfold spec_l9Copy.f
  exact ev_bind rfl (ev_pos (by simp only [List.length_nil]; omega) (copy_l0 N P ([] ++ N) hP hp P.length 0 [] (by omega) rfl))
theorem push_ok (N : List S71) (P : List (List S71)) (M : List S71) (hP : P.length ≤ 1000) {A : Option (List S71 × List (List S71) × Bool)} :
    Ev (fun _ => if P.length < 5864062014805 then ((some (P ++ [N] : List (List S71))).bind fun y => if (y.length : Int) > 10 then (if 1 ≤ (y.length : Int) then some (M, y.drop 1, true) else A) else some (M, y, true)) else A) (M, (if P.length + 1 > 10 then (P ++ [N]).drop 1 else P ++ [N]), true) := by
  refine ev_pos (by omega) (ev_bind rfl ?_)
  by_cases h : P.length + 1 > 10
  · rw [if_pos h]; exact ev_pos (by simp; omega) (ev_pos (by simp; omega) (ev_now rfl))
  · rw [if_neg h]; exact ev_neg (by simp; omega) (ev_now rfl)
theorem push_in (N : List S71) (P : List (List S71)) : ∀ x ∈ (if P.length + 1 > 10 then (P ++ [N]).drop 1 else P ++ [N]), x ∈ P ∨ x = N := fun x hx => by
  by_cases h : P.length + 1 > 10
  · rw [if_pos h] at hx
    have := List.mem_of_mem_drop hx
    simpa using this
  · rw [if_neg h] at hx; simpa using hx
theorem push_len (N : List S71) (P : List (List S71)) : (if P.length + 1 > 10 then (P ++ [N]).drop 1 else P ++ [N]).length ≤ P.length + 1 := by
  by_cases h : P.length + 1 > 10
  · rw [if_pos h]; simp
  · rw [if_neg h]; simp
def Grew (N : List S71) (P : List (List S71)) (r : List S71 × List (List S71) × Bool) : Prop := r.1.length ≤ N.length + 1 ∧ r.2.1.length ≤ P.length + 1 ∧ (∀ x ∈ r.2.1, x ∈ P ∨ x = N)
theorem grew_same (N : List S71) (P : List (List S71)) (b : Bool) : Grew N P (N, P, b) := ⟨by simp, by simp, fun x hx => .inl hx⟩
theorem ddo_j2 (N : List S71) (P : List (List S71)) (hN : N.length ≤ 1000) (hP : P.length ≤ 1000) (kd n : Int) (t : ByteArray) (b : Bool) (hb : b = true → 0 ≤ n ∧ n ≤ (N.length : Int) - 1) :
    ∃ r, Ev (fun k => spec_DeskDo.j2 k b N P kd n t N P) r ∧ Grew N P r := by
  by_cases h : b = true
  · obtain ⟨h0, h1⟩ := hb h
    have e1 : wrap64 (n + 1) = n + 1 := w64 (by omega) (by omega)
    refine ⟨([] ++ N.take n.toNat ++ N.drop (n + 1).toNat, (if P.length + 1 > 10 then (P ++ [N]).drop 1 else P ++ [N]), true), Ev.step (fun _ => spec_DeskDo.j2.eq_2 _ _ _ _ _ _ _ _ _) (ev_pos h (ev_bind rfl (ev_pos h0 (ev_pos (by omega) (ev_bind rfl (ev_pos (by simp only [List.length_nil, List.length_take]; omega) (ev_bind rfl (ev_pos (by omega) (ev_pos (by omega) (ev_bind rfl (ev_pos (by simp only [List.length_nil, List.length_append, List.length_take, List.length_drop]; omega) ?_))))))))))), ?_⟩
    · rw [e1]
      refine ev_bind rfl ?_
      exact push_ok N P _ hP
    · refine ⟨?_, push_len N P, push_in N P⟩
      simp only [List.length_nil, List.length_append, List.length_take, List.length_drop]; omega
  · exact ⟨_, Ev.step (fun _ => spec_DeskDo.j2.eq_2 _ _ _ _ _ _ _ _ _) (ev_neg h (ev_now rfl)), grew_same N P false⟩
theorem ddo_j1F (N : List S71) (P : List (List S71)) (hN : N.length ≤ 1000) (hP : P.length ≤ 1000) (kd n : Int) (t : ByteArray) (f o u : Int) :
    ∃ r, Ev (fun k => spec_DeskDo.j1 k N false N P kd n t N P f o u) r ∧ Grew N P r := by
  have e1 : wrap64 ((N.length : Int) - 1) = (N.length : Int) - 1 := w64 (by omega) (by omega)
  by_cases h1 : kd = 1
  · by_cases h2 : t.toList = []
    · obtain ⟨r, hr, hg⟩ := ddo_j2 N P hN hP kd n t (decide (0 ≤ n) && decide (n ≤ (N.length : Int) - 1)) (fun e => by simpa using e)
      refine ⟨r, Ev.step (fun _ => spec_DeskDo.j1.eq_2 _ _ _ _ _ _ _ _ _ _ _ _ _) (ev_neg (by simp) (ev_pos h1 (ev_pos h2 (ev_bind (a := decide (0 ≤ n) && decide (n ≤ (N.length : Int) - 1)) ?_ hr)))), hg⟩
      rw [e1]
      unfold spec_l1In.f
      by_cases h : n ≥ 0
      · rw [if_pos h, decide_eq_true (p := 0 ≤ n) h, Bool.true_and]
      · rw [if_neg h, decide_eq_false (p := 0 ≤ n) h, Bool.false_and]
    · obtain ⟨r, hr, hg⟩ := ddo_j2 N P hN hP kd n t false (fun e => by cases e)
      exact ⟨r, Ev.step (fun _ => spec_DeskDo.j1.eq_2 _ _ _ _ _ _ _ _ _ _ _ _ _) (ev_neg (by simp) (ev_pos h1 (ev_neg h2 hr))), hg⟩
  · obtain ⟨r, hr, hg⟩ := ddo_j2 N P hN hP kd n t false (fun e => by cases e)
    exact ⟨r, Ev.step (fun _ => spec_DeskDo.j1.eq_2 _ _ _ _ _ _ _ _ _ _ _ _ _) (ev_neg (by simp) (ev_neg h1 hr)), hg⟩
theorem ddo_j1T (N : List S71) (P : List (List S71)) (hN : N.length ≤ 1000) (hP : P.length ≤ 1000) (kd n : Int) (t : ByteArray) (f o u : Int) :
    ∃ r, Ev (fun k => spec_DeskDo.j1 k N true N P kd n t N P f o u) r ∧ Grew N P r := by
  have hr := l9_ok (N ++ [(⟨f, o, u⟩ : S71)]) (by simp; omega)
  cases hb : rowB (N ++ [(⟨f, o, u⟩ : S71)]) with
  | true =>
    rw [hb] at hr
    refine ⟨(N ++ [(⟨f, o, u⟩ : S71)], (if P.length + 1 > 10 then (P ++ [N]).drop 1 else P ++ [N]), true), Ev.step (fun _ => spec_DeskDo.j1.eq_2 _ _ _ _ _ _ _ _ _ _ _ _ _) (ev_pos rfl (ev_pos (by omega) (ev_bind rfl (Ev.bind hr (ev_pos rfl (push_ok N P _ hP)))))), ⟨by simp, push_len N P, push_in N P⟩⟩
  | false =>
    rw [hb] at hr
    exact ⟨(N, P, false), Ev.step (fun _ => spec_DeskDo.j1.eq_2 _ _ _ _ _ _ _ _ _ _ _ _ _) (ev_pos rfl (ev_pos (by omega) (ev_bind rfl (Ev.bind hr (ev_neg (by simp) (ev_now rfl)))))), grew_same N P false⟩
theorem ddo_j1 (N : List S71) (P : List (List S71)) (hN : N.length ≤ 1000) (hP : P.length ≤ 1000) (kd n : Int) (t : ByteArray) (b : Bool) (f o u : Int) :
    ∃ r, Ev (fun k => spec_DeskDo.j1 k N b N P kd n t N P f o u) r ∧ Grew N P r := by
  cases b with
  | true => exact ddo_j1T N P hN hP kd n t f o u
  | false => exact ddo_j1F N P hN hP kd n t f o u
theorem ddo_j0 (N : List S71) (P : List (List S71)) (hN : N.length ≤ 1000) (hP : P.length ≤ 1000) (kd n : Int) (t : ByteArray) (told b : Bool) (hb : b = true → 0 < P.length) (f o u : Int) :
    ∃ r, Ev (fun k => spec_DeskDo.j0 k N told b N P kd n t N P f o u) r ∧ (Grew N P r ∨ (r.1 ∈ P ∧ r.2.1 = P.take (P.length - 1) ∧ r.2.2 = true)) := by
  by_cases h : b = true
  · refine ⟨_, Ev.step (fun _ => spec_DeskDo.j0.eq_2 _ _ _ _ _ _ _ _ _ _ _ _ _ _) (ev_pos h (ev_pos (hb h) (ev_now rfl))), .inr ⟨?_, rfl, rfl⟩⟩
    have hl := hb h
    show P.getD (P.length - 1) [] ∈ P
    rw [List.getD_eq_getElem?_getD, List.getElem?_eq_getElem (show P.length - 1 < P.length by omega)]
    exact List.getElem_mem _
  · by_cases h0 : kd = 0
    · by_cases h1 : n = 0
      · obtain ⟨r, hr, hg⟩ := ddo_j1 N P hN hP kd n t told f o u
        exact ⟨r, Ev.step (fun _ => spec_DeskDo.j0.eq_2 _ _ _ _ _ _ _ _ _ _ _ _ _ _) (ev_neg h (ev_pos h0 (ev_pos h1 hr))), .inl hg⟩
      · obtain ⟨r, hr, hg⟩ := ddo_j1F N P hN hP kd n t f o u
        exact ⟨r, Ev.step (fun _ => spec_DeskDo.j0.eq_2 _ _ _ _ _ _ _ _ _ _ _ _ _ _) (ev_neg h (ev_pos h0 (ev_neg h1 hr))), .inl hg⟩
    · obtain ⟨r, hr, hg⟩ := ddo_j1F N P hN hP kd n t f o u
      exact ⟨r, Ev.step (fun _ => spec_DeskDo.j0.eq_2 _ _ _ _ _ _ _ _ _ _ _ _ _ _) (ev_neg h (ev_neg h0 hr)), .inl hg⟩
def Small (m : Nat) (N : List S71) (P : List (List S71)) : Prop := N.length ≤ m ∧ P.length ≤ m ∧ ∀ x ∈ P, x.length ≤ m
theorem ddo_ex (m : Nat) (hm : m ≤ 999) (N : List S71) (P : List (List S71)) (h : Small m N P) (kd n : Int) (t : ByteArray) : ∃ N' P' ok, Ev (fun k => spec_DeskDo.f k N P kd n t) (N', P', ok) ∧ Small (m + 1) N' P' := by
  obtain ⟨h1, h2, h3⟩ := h
  have hV := spec_DeskValid_ok N P (by omega) (by omega) (fun x hx => by have := h3 x hx; omega)
  have hC := copy_ok N P (by omega) (by omega) (fun x hx => by have := h3 x hx; omega)
  have hW := srw t
  unfold spec_DeskDo.f
  cases hk : deskOk N P with
  | false =>
    rw [hk] at hV
    exact ⟨[], [], false, Ev.bind hV (ev_neg (by simp) (ev_now rfl)), by simp, by simp, by simp⟩
  | true =>
    rw [hk] at hV
    have hdone : ∀ r : List S71 × List (List S71) × Bool, (Grew N P r ∨ (r.1 ∈ P ∧ r.2.1 = P.take (P.length - 1) ∧ r.2.2 = true)) → Small (m + 1) r.1 r.2.1 := fun r hr => by
      rcases hr with ⟨g1, g2, g3⟩ | ⟨g1, g2, _⟩
      · refine ⟨by omega, by omega, fun x hx => ?_⟩
        rcases g3 x hx with h | h
        · have := h3 x h; omega
        · rw [h]; omega
      · rw [g2]
        refine ⟨by have := h3 _ g1; omega, by rw [List.length_take]; omega, fun x hx => ?_⟩
        have := h3 x (List.mem_of_mem_take hx)
        omega
    by_cases hb : (kd == 2 && (n == 0 && (t.toList == ([] : List UInt8)))) = true
    · obtain ⟨r, hr, hg⟩ := ddo_j0 N P (by omega) (by omega) kd n t (res (rdW t)).2.2.2 (decide ((P.length : Int) > 0)) (fun e => by have := of_decide_eq_true e; omega) (res (rdW t)).1 (res (rdW t)).2.1 (res (rdW t)).2.2.1
      exact ⟨r.1, r.2.1, r.2.2, Ev.bind hV (ev_pos rfl (Ev.bind hC (ev_bind rfl (ev_pos (by simp only [List.length_nil]; omega) (ev_bind rfl (Ev.bind hW (ev_pos hb hr))))))), hdone r hg⟩
    · obtain ⟨r, hr, hg⟩ := ddo_j0 N P (by omega) (by omega) kd n t (res (rdW t)).2.2.2 false (fun e => by cases e) (res (rdW t)).1 (res (rdW t)).2.1 (res (rdW t)).2.2.1
      exact ⟨r.1, r.2.1, r.2.2, Ev.bind hV (ev_pos rfl (Ev.bind hC (ev_bind rfl (ev_pos (by simp only [List.length_nil]; omega) (ev_bind rfl (Ev.bind hW (ev_neg hb hr))))))), hdone r hg⟩

/-! pack drawdesk: drawn deeds and desks -/
theorem wB_all : ∀ f : Fin 6, ∀ o t : Fin 4, (wB f.val o.val t.val).size ≤ 100 := by decide +kernel
theorem wX_size (f o t : Int) : (wX f o t).size ≤ 100 := by
  unfold wX
  cases h : wOk f o t with
  | true =>
    obtain ⟨x, y, z, hx, hy, hz, rfl, rfl, rfl⟩ := wOk_nat h
    exact wB_all ⟨x, hx⟩ ⟨y, hy⟩ ⟨z, hz⟩
  | false => exact Nat.zero_le _
theorem s_size : (⟨#[115]⟩ : ByteArray).size = 1 := rfl
theorem deed_j0 {b : List Int} (hb : Rdr b) {p : Int} (hp0 : 0 ≤ p) (hp1 : p ≤ 900000) (kd n : Int) (t : ByteArray) (h0 : 0 ≤ n) (h1 : n ≤ 100000) (ht : t.size ≤ 1000) :
    ∃ n' t' p', -5 ≤ n' ∧ n' ≤ n + 20 ∧ t'.size ≤ t.size + 1 ∧ p ≤ p' ∧ p' ≤ p + 3 ∧ Ev (fun k => spec_l20Deed.j0 k b p kd n t) (kd, n', t', p') := by
  obtain ⟨v, q, g0, g1, _, h2⟩ := odd_ok (p := p) (n := 40) hb (by omega) (by omega) (by omega) (by omega)
  cases v with
  | true =>
    obtain ⟨u, u0, u1, h3⟩ := pick_ok (p := q) (n := 20) hb (by omega) (by omega) (by omega)
    obtain ⟨v2, q2, k0, k1, _, h4⟩ := odd_ok (p := q + 1) (n := 40) hb (by omega) (by omega) (by omega) (by omega)
    have e : wrap64 (wrap64 (n + u) - 5) = n + u - 5 := by rw [w64 (n := n + u) (by omega) (by omega), w64 (by omega) (by omega)]
    cases v2 with
    | true => exact ⟨n + u - 5, t ++ (⟨#[115]⟩ : ByteArray), q2, by omega, by omega, by rw [ByteArray.size_append, s_size]; omega, by omega, by omega, Ev.step (fun _ => spec_l20Deed.j0.eq_2 _ _ _ _ _ _) (Ev.bind h2 (ev_pos rfl (Ev.bind h3 (Ev.bind h4 (ev_pos rfl (ev_pos (by omega) (ev_now (by rw [e]))))))))⟩
    | false => exact ⟨n + u - 5, t, q2, by omega, by omega, by omega, by omega, by omega, Ev.step (fun _ => spec_l20Deed.j0.eq_2 _ _ _ _ _ _) (Ev.bind h2 (ev_pos rfl (Ev.bind h3 (Ev.bind h4 (ev_neg (by simp) (ev_now (by rw [e])))))))⟩
  | false =>
    obtain ⟨v2, q2, k0, k1, _, h4⟩ := odd_ok (p := q) (n := 40) hb (by omega) (by omega) (by omega) (by omega)
    cases v2 with
    | true => exact ⟨n, t ++ (⟨#[115]⟩ : ByteArray), q2, by omega, by omega, by rw [ByteArray.size_append, s_size]; omega, by omega, by omega, Ev.step (fun _ => spec_l20Deed.j0.eq_2 _ _ _ _ _ _) (Ev.bind h2 (ev_neg (by simp) (Ev.bind h4 (ev_pos rfl (ev_pos (by omega) (ev_now rfl))))))⟩
    | false => exact ⟨n, t, q2, by omega, by omega, by omega, by omega, by omega, Ev.step (fun _ => spec_l20Deed.j0.eq_2 _ _ _ _ _ _) (Ev.bind h2 (ev_neg (by simp) (Ev.bind h4 (ev_neg (by simp) (ev_now rfl)))))⟩
theorem deed_ok {b : List Int} (hb : Rdr b) {p : Int} (hp0 : 0 ≤ p) (hp1 : p ≤ 800000) (N : List S71) (P : List (List S71)) (hN : N.length ≤ 1000) :
    ∃ kd n t p', -5 ≤ n ∧ n ≤ (N.length : Int) + 20 ∧ t.size ≤ 101 ∧ p ≤ p' ∧ p' ≤ p + 10 ∧ Ev (fun k => spec_l20Deed.f k b p N P) (kd, n, t, p') := by
  obtain ⟨v1, a0, a1, h1⟩ := pick_ok (p := p) (n := 6) hb (by omega) (by omega) (by omega)
  obtain ⟨v2, b0, b1, h2⟩ := pick_ok (p := p + 1) (n := 60) hb (by omega) (by omega) (by omega)
  unfold spec_l20Deed.f
  generalize hK : wrap64 (rd [0, 0, 0, 0, 1, 2] v1 + wrap64 (wrap64 (Int.tdiv v2 59) * 3)) = K at *
  have go : ∀ r, Ev (fun k => if K = 0 then (spec_l20Weigh.f k b (p + 1 + 1) 0).bind fun bt => (spec_WeighText.f bt.1 bt.2.1 bt.2.2.1).bind fun t => spec_l20Deed.j0 k b bt.2.2.2 K 0 t
      else if K = 1 then (spec_l20Rd_pick.f k b (p + 1 + 1) (wrap64 ((N.length : Int) + 1))).bind fun bt => spec_l20Deed.j0 k b bt.2 K bt.1 ⟨#[]⟩
      else spec_l20Deed.j0 k b (p + 1 + 1) K 0 ⟨#[]⟩) r → Ev (fun k => (some [0, 0, 0, 0, 1, 2] : Option (List Int)).bind fun y => (spec_l20Rd_pick.f k b p 6).bind fun bt1 => if 0 ≤ bt1.1 then if bt1.1 < (y.length : Int) then (spec_l20Rd_pick.f k b bt1.2 60).bind fun bt2 =>
        if wrap64 (rd y bt1.1 + wrap64 (wrap64 (Int.tdiv bt2.1 59) * 3)) = 0 then (spec_l20Weigh.f k b bt2.2 0).bind fun bt => (spec_WeighText.f bt.1 bt.2.1 bt.2.2.1).bind fun t => spec_l20Deed.j0 k b bt.2.2.2 (wrap64 (rd y bt1.1 + wrap64 (wrap64 (Int.tdiv bt2.1 59) * 3))) 0 t
        else if wrap64 (rd y bt1.1 + wrap64 (wrap64 (Int.tdiv bt2.1 59) * 3)) = 1 then (spec_l20Rd_pick.f k b bt2.2 (wrap64 ((N.length : Int) + 1))).bind fun bt => spec_l20Deed.j0 k b bt.2 (wrap64 (rd y bt1.1 + wrap64 (wrap64 (Int.tdiv bt2.1 59) * 3))) bt.1 ⟨#[]⟩
        else spec_l20Deed.j0 k b bt2.2 (wrap64 (rd y bt1.1 + wrap64 (wrap64 (Int.tdiv bt2.1 59) * 3))) 0 ⟨#[]⟩ else none else none) r := fun r hr => by
    refine ev_bind rfl (Ev.bind h1 (ev_pos a0 (ev_pos (by simp only [List.length_cons, List.length_nil]; omega) (Ev.bind h2 ?_))))
    simp only [hK]
    exact hr
  by_cases c0 : K = 0
  · obtain ⟨f, o, t, q, _, _, _, _, _, _, _, g0, g1, h3⟩ := weigh_ok hb (p := p + 1 + 1) (n := 0) (by omega) (by omega) (by omega) (by omega)
    have hs := wX_size f o t
    obtain ⟨n', t', p', k0, k1, k2, k3, k4, h4⟩ := deed_j0 hb (p := q) (by omega) (by omega) K 0 (wX f o t) (by omega) (by omega) (by omega)
    exact ⟨K, n', t', p', by omega, by omega, by omega, by omega, by omega, go _ (ev_pos c0 (Ev.bind h3 (ev_bind (sWT f o t) h4)))⟩
  · by_cases c1 : K = 1
    · have e : wrap64 ((N.length : Int) + 1) = (N.length : Int) + 1 := w64 (by omega) (by omega)
      obtain ⟨v3, d0, d1, h3⟩ := pick_ok (p := p + 1 + 1) (n := (N.length : Int) + 1) hb (by omega) (by omega) (by omega)
      obtain ⟨n', t', p', k0, k1, k2, k3, k4, h4⟩ := deed_j0 hb (p := p + 1 + 1 + 1) (by omega) (by omega) K v3 ⟨#[]⟩ (by omega) (by omega) (by show 0 ≤ 1000; omega)
      have k2' : t'.size ≤ 0 + 1 := k2
      exact ⟨K, n', t', p', by omega, by omega, by omega, by omega, by omega, go _ (ev_neg c0 (ev_pos c1 (by rw [e]; exact Ev.bind h3 h4)))⟩
    · obtain ⟨n', t', p', k0, k1, k2, k3, k4, h4⟩ := deed_j0 hb (p := p + 1 + 1) (by omega) (by omega) K 0 ⟨#[]⟩ (by omega) (by omega) (by show 0 ≤ 1000; omega)
      have k2' : t'.size ≤ 0 + 1 := k2
      exact ⟨K, n', t', p', by omega, by omega, by omega, by omega, by omega, go _ (ev_neg c0 (ev_neg c1 h4))⟩
theorem small_mono {m m' : Nat} (h : m ≤ m') {N : List S71} {P : List (List S71)} (hs : Small m N P) : Small m' N P := ⟨by have := hs.1; omega, by have := hs.2.1; omega, fun x hx => by have := hs.2.2 x hx; omega⟩
theorem desk_l0 {b : List Int} (hb : Rdr b) {n : Int} (hn : 0 ≤ n) (hn1 : n ≤ 1000) : ∀ (r m : Nat) (p : Int) (N : List S71) (P : List (List S71)), 0 ≤ p → p + 20 * r ≤ 700000 → m + r ≤ 100 → Small m N P →
    ∃ N' P' p', p ≤ p' ∧ p' ≤ p + 20 * r + 5 ∧ Small (m + r + 10) N' P' ∧ Ev (fun k => spec_l20Desk.l0 k n (r : Int) b p N P) (N', P', p')
  | 0, m, p, N, P, hp0, hp1, hm, hs => by
    obtain ⟨v, q, g0, g1, _, h2⟩ := odd_ok (p := p) (n := n) hb (by omega) (by omega) (by omega) (by omega)
    cases v with
    | false => exact ⟨N, P, q, by omega, by omega, small_mono (by omega) hs, Ev.step (fun _ => spec_l20Desk.l0.eq_2 _ _ _ _ _ _ _) (ev_neg (by omega) (Ev.bind h2 (ev_neg (by simp) (ev_now rfl))))⟩
    | true =>
      obtain ⟨u, u0, u1, h3⟩ := pick_ok (p := q) (n := 3) hb (by omega) (by omega) (by omega)
      obtain ⟨s1, s2, s3⟩ := hs
      by_cases c0 : u = 0
      · exact ⟨N ++ [⟨9, 0, 0⟩], P, q + 1, by omega, by omega, ⟨by simp; omega, by omega, fun x hx => by have := s3 x hx; omega⟩, Ev.step (fun _ => spec_l20Desk.l0.eq_2 _ _ _ _ _ _ _) (ev_neg (by omega) (Ev.bind h2 (ev_pos rfl (Ev.bind h3 (ev_pos c0 (ev_pos (by omega) (ev_now rfl)))))))⟩
      · by_cases c1 : u = 1
        · exact ⟨N, P ++ [[⟨0, 0, 0⟩, ⟨0, 0, 0⟩]], q + 1, by omega, by omega, ⟨by omega, by simp; omega, fun x hx => by
            rcases List.mem_append.1 hx with h | h
            · have := s3 x h; omega
            · rw [List.mem_singleton.1 h]; simp only [List.length_cons, List.length_nil]; omega⟩, Ev.step (fun _ => spec_l20Desk.l0.eq_2 _ _ _ _ _ _ _) (ev_neg (by omega) (Ev.bind h2 (ev_pos rfl (Ev.bind h3 (ev_neg c0 (ev_pos c1 (ev_pos (by omega) (ev_now rfl))))))))⟩
        · exact ⟨List.replicate 6 z71, P, q + 1, by omega, by omega, ⟨by rw [List.length_replicate]; omega, by omega, fun x hx => by have := s3 x hx; omega⟩, Ev.step (fun _ => spec_l20Desk.l0.eq_2 _ _ _ _ _ _ _) (ev_neg (by omega) (Ev.bind h2 (ev_pos rfl (Ev.bind h3 (ev_neg c0 (ev_neg c1 (ev_pos (by omega) (ev_now rfl))))))))⟩
  | r + 1, m, p, N, P, hp0, hp1, hm, hs => by
    obtain ⟨kd, n1, t, q, _, _, _, g0, g1, h1⟩ := deed_ok hb (p := p) hp0 (by omega) N P (by have := hs.1; omega)
    obtain ⟨N1, P1, ok, h2, hs1⟩ := ddo_ex m (by omega) N P hs kd n1 t
    have er : wrap64 (((r + 1 : Nat) : Int) - 1) = (r : Int) := by rw [w64 (by omega) (by omega)]; omega
    cases ok with
    | true =>
      obtain ⟨N', P', p', k0, k1, ks, h3⟩ := desk_l0 hb hn hn1 r (m + 1) q N1 P1 (by omega) (by omega) (by omega) hs1
      refine ⟨N', P', p', by omega, by omega, small_mono (by omega) ks, Ev.step (fun _ => spec_l20Desk.l0.eq_2 _ _ _ _ _ _ _) (ev_pos (by omega) (Ev.bind h1 (Ev.bind h2 (ev_pos rfl ?_))))⟩
      rw [er]; exact h3
    | false =>
      obtain ⟨N', P', p', k0, k1, ks, h3⟩ := desk_l0 hb hn hn1 r (m + 1) q N P (by omega) (by omega) (by omega) (small_mono (by omega) hs)
      refine ⟨N', P', p', by omega, by omega, small_mono (by omega) ks, Ev.step (fun _ => spec_l20Desk.l0.eq_2 _ _ _ _ _ _ _) (ev_pos (by omega) (Ev.bind h1 (Ev.bind h2 (ev_neg (by simp) ?_))))⟩
      rw [er]; exact h3
theorem desk_ok {b : List Int} (hb : Rdr b) {n p : Int} (hn : 0 ≤ n) (hn1 : n ≤ 1000) (hp0 : 0 ≤ p) (hp1 : p ≤ 1000) : ∃ N P p', p ≤ p' ∧ p' ≤ p + 200 ∧ Small 20 N P ∧ Ev (fun k => spec_l20Desk.f k b p n) (N, P, p') := by
  obtain ⟨v, v0, v1, hv⟩ := pick_ok (p := p) (n := 7) hb (by omega) (by omega) (by omega)
  obtain ⟨r, rfl⟩ := Int.eq_ofNat_of_zero_le v0
  obtain ⟨N, P, p', k0, k1, ks, h⟩ := desk_l0 hb hn hn1 r 0 (p + 1) [] [] (by omega) (by omega) (by omega) ⟨by simp, by simp, by simp⟩
  refine ⟨N, P, p', by omega, by omega, small_mono (by omega) ks, ?_⟩
  unfold spec_l20Desk.f
  refine Ev.bind (a := ([], [])) ?_ (Ev.bind hv h)
  unfold spec_DeskNew.f
  exact Ev.bind (l9_ok [] (by simp)) (ev_pos rfl (ev_bind rfl (ev_pos (by simp) (ev_now rfl))))

theorem alive_t : laws_alive.f = some true := by decide +kernel

/-! pack nopr: texts of deeds bear printable bytes alone -/
theorem dig_pr : ∀ d : Fin 10, (Lib.decDigits d.val).all pr = true := by decide +kernel
theorem dB_pr (k n : Int) (t : ByteArray) : (dB k n t).toList.all pr = true := by
  unfold dB
  by_cases h1 : k = 0 ∧ n = 0 ∧ t.toList ≠ [] ∧ t.toList.all pr = true
  · rw [if_pos h1, tl]
    have h2 : t.data.toList.all pr = true := by rw [← tl]; exact h1.2.2.2
    show (([115, 97, 121, 32] : List UInt8) ++ t.data.toList).all pr = true
    rw [List.all_append, h2]; rfl
  · rw [if_neg h1]
    by_cases h2 : k = 1 ∧ t.toList = [] ∧ 0 ≤ n ∧ n ≤ 9
    · rw [if_pos h2, tl]
      have hd := dig_pr ⟨n.toNat, by omega⟩
      show (([100, 114, 111, 112, 32] : List UInt8) ++ Lib.decDigits n.toNat).all pr = true
      rw [List.all_append, hd]; rfl
    · rw [if_neg h2]
      by_cases h3 : k = 2 ∧ n = 0 ∧ t.toList = []
      · rw [if_pos h3, tl]; rfl
      · rw [if_neg h3, tl]; rfl

/-! pack cutnl: a journal's text, read again -/
theorem idx_app (l2 : List UInt8) : ∀ l1 : List UInt8, (∀ x ∈ l1, x ≠ 10) → Lib.indexByte (l1 ++ 10 :: l2) 10 = (l1.length : Int)
  | [], _ => by simp [Lib.indexByte]
  | b :: r, h => by
    have hb := h b List.mem_cons_self
    have ih := idx_app l2 r (fun x hx => h x (List.mem_cons_of_mem _ hx))
    show Lib.indexByte (b :: (r ++ 10 :: l2)) 10 = _
    unfold Lib.indexByte
    rw [if_neg (by simpa using hb), ih, if_neg (by rw [beq_iff_eq]; omega)]
    simp
theorem cut_line (d rest : ByteArray) (h : ∀ x ∈ d.toList, x ≠ 10) : Go.Proofs.YtnnaiaiddjkjnaaDoorW.Shelf.cutAt ((d ++ (⟨#[10]⟩ : ByteArray)) ++ rest) 10 = (d, rest, true) := by
  obtain ⟨⟨l⟩⟩ := d
  obtain ⟨⟨r⟩⟩ := rest
  have hl : ∀ x ∈ l, x ≠ 10 := fun x hx => h x (by rw [tl]; exact hx)
  have hd : (((⟨⟨l⟩⟩ : ByteArray) ++ (⟨#[10]⟩ : ByteArray)) ++ (⟨⟨r⟩⟩ : ByteArray)).data.toList = l ++ 10 :: r := by simp
  have hs : (((⟨⟨l⟩⟩ : ByteArray) ++ (⟨#[10]⟩ : ByteArray)) ++ (⟨⟨r⟩⟩ : ByteArray)).size = l.length + 1 + r.length := by simp; rfl
  have hi := idx_app r l hl
  unfold Go.Proofs.YtnnaiaiddjkjnaaDoorW.Shelf.cutAt
  rw [hd, hi, if_pos (by omega), Int.toNat_natCast]
  refine Prod.ext (ba_ext ?_) (Prod.ext (ba_ext ?_) rfl)
  · rw [extract_list, tl, hd, tl]; simp
  · rw [extract_list, tl, hd, hs, tl]
    rw [List.take_of_length_le (by simp; omega), show l.length + 1 = (l ++ [10]).length by simp, show l ++ 10 :: r = (l ++ [10]) ++ r by simp, List.drop_left]
def cat : List S26 → ByteArray
  | [] => ⟨#[]⟩
  | x :: r => (dB x.f0 x.f1 x.f2 ++ (⟨#[10]⟩ : ByteArray)) ++ cat r
theorem jT_cat : ∀ (L : List S26) (acc : ByteArray), (∀ x ∈ L, (dB x.f0 x.f1 x.f2).toList ≠ []) → jT acc L = acc ++ cat L
  | [], acc, _ => by show acc = acc ++ ⟨#[]⟩; exact (ByteArray.append_empty).symm
  | x :: r, acc, h => by
    unfold jT
    rw [if_neg (h x List.mem_cons_self), jT_cat r _ (fun y hy => h y (List.mem_cons_of_mem _ hy))]
    show _ = acc ++ ((dB x.f0 x.f1 x.f2 ++ (⟨#[10]⟩ : ByteArray)) ++ cat r)
    rw [← ByteArray.append_assoc, ← ByteArray.append_assoc]
theorem jT_none : ∀ (L : List S26) (acc : ByteArray), ¬ (∀ x ∈ L, (dB x.f0 x.f1 x.f2).toList ≠ []) → jT acc L = ⟨#[]⟩
  | [], acc, h => absurd (by simp) h
  | x :: r, acc, h => by
    unfold jT
    by_cases hx : (dB x.f0 x.f1 x.f2).toList = []
    · rw [if_pos hx]
    · rw [if_neg hx]
      refine jT_none r _ (fun hr => h (fun y hy => ?_))
      rcases List.mem_cons.1 hy with rfl | hy
      · exact hx
      · exact hr y hy
theorem dB_no10 (k n : Int) (t : ByteArray) : ∀ x ∈ (dB k n t).toList, x ≠ 10 := fun x hx e => by
  have := List.all_eq_true.1 (dB_pr k n t) x hx
  rw [e] at this
  exact absurd this (by decide)
theorem app_extract (p r : ByteArray) : (p ++ r).extract p.size (p ++ r).size = r := by
  refine ba_ext ?_
  rw [extract_list, List.take_of_length_le (by rw [tl_len]; omega), tl, tl]
  have : p.size = p.data.toList.length := by simp
  rw [this]
  simp
theorem rj_cat (s : ByteArray) (hs : s.size ≤ 1000000000000) : ∀ (L X : List S26) (p : ByteArray), X.length + L.length ≤ 1000000 → (∀ x ∈ L, (dB x.f0 x.f1 x.f2).toList ≠ []) → s = p ++ cat L →
    Ev (fun k => impl_ReadJournal.l0 k s X (p.size : Int)) (X ++ L, (s.size : Int))
  | [], X, p, hX, _, e => by
    have es : s = p := by rw [e]; exact ByteArray.append_empty
    have hz : s.extract p.size s.size = ⟨#[]⟩ := by rw [es]; refine ba_nil ?_; rw [extract_list, List.drop_of_length_le (by rw [List.length_take, tl_len]; omega)]
    refine Ev.step (fun _ => impl_ReadJournal.l0.eq_2 _ _ _ _) (ev_pos (by omega) (ev_pos (by rw [es]; omega) ?_))
    rw [Int.toNat_natCast, hz]
    refine ev_bind (cut_ok _ (by show 0 ≤ _; omega) 10) ?_
    have hc : Go.Proofs.YtnnaiaiddjkjnaaDoorW.Shelf.cutAt (⟨#[]⟩ : ByteArray) 10 = (⟨#[]⟩, ⟨#[]⟩, false) := by decide +kernel
    rw [hc]
    exact Ev.bind (iRead _ (by show 0 ≤ _; omega)) (ev_neg (by simp) (ev_now (by rw [List.append_nil, es])))
  | x :: r, X, p, hX, h, e => by
    have hx := h x List.mem_cons_self
    have hsz : s.size = p.size + ((dB x.f0 x.f1 x.f2).size + 1 + (cat r).size) := by
      rw [e]; show (p ++ ((dB x.f0 x.f1 x.f2 ++ (⟨#[10]⟩ : ByteArray)) ++ cat r)).size = _
      rw [ByteArray.size_append, ByteArray.size_append, ByteArray.size_append]; rfl
    have he : s.extract p.size s.size = (dB x.f0 x.f1 x.f2 ++ (⟨#[10]⟩ : ByteArray)) ++ cat r := by rw [e]; exact app_extract p _
    have ih := rj_cat s hs r (X ++ [x]) (p ++ (dB x.f0 x.f1 x.f2 ++ (⟨#[10]⟩ : ByteArray))) (by simp at hX ⊢; omega) (fun y hy => h y (List.mem_cons_of_mem _ hy)) (by rw [e]; exact ByteArray.append_assoc.symm)
    have hp : (p ++ (dB x.f0 x.f1 x.f2 ++ (⟨#[10]⟩ : ByteArray))).size = p.size + ((dB x.f0 x.f1 x.f2).size + 1) := by rw [ByteArray.size_append, ByteArray.size_append]; rfl
    rw [hp] at ih
    simp only [List.length_cons] at hX
    refine Ev.step (fun _ => impl_ReadJournal.l0.eq_2 _ _ _ _) (ev_pos (by omega) (ev_pos (by omega) ?_))
    rw [Int.toNat_natCast, he]
    refine ev_bind (cut_ok _ (by rw [← he, ByteArray.size_extract]; omega) 10) ?_
    rw [cut_line _ _ (dB_no10 _ _ _)]
    have hR := iRead (dB x.f0 x.f1 x.f2) (by omega)
    rw [rd_of x.f0 x.f1 x.f2 _ rfl hx] at hR
    refine Ev.bind hR (ev_pos rfl (ev_pos rfl (ev_pos (by omega) ?_)))
    dsimp only
    rw [w64 (n := ((dB x.f0 x.f1 x.f2).size : Int) + 1) (by omega) (by omega), w64 (by omega) (by omega)]
    rw [show (p.size : Int) + (((dB x.f0 x.f1 x.f2).size : Int) + 1) = ((p.size + ((dB x.f0 x.f1 x.f2).size + 1) : Nat) : Int) by omega]
    refine ev_eq ?_ ih
    rw [List.append_assoc]; rfl

/-! pack drawjournal: drawn deeds -/
theorem deeds_l0 {b : List Int} (hb : Rdr b) : ∀ (r m : Nat) (p : Int) (X : List S26) (N : List S71) (P : List (List S71)), 0 ≤ p → p + 20 * r ≤ 600000 → m + r ≤ 100 → X.length + r ≤ 1000 → Small m N P → (∀ x ∈ X, x.f2.size ≤ 101) →
    ∃ L p', p ≤ p' ∧ p' ≤ p + 20 * r ∧ L.length = X.length + r ∧ (∀ x ∈ L, x.f2.size ≤ 101) ∧ Ev (fun k => spec_l20Deeds.l0 k X (r : Int) b p N P) (L, p')
  | 0, m, p, X, N, P, hp0, hp1, hm, hX, hs, hx => ⟨X, p, by omega, by omega, by omega, hx, Ev.step (fun _ => spec_l20Deeds.l0.eq_2 _ _ _ _ _ _ _) (ev_neg (by omega) (ev_now rfl))⟩
  | r + 1, m, p, X, N, P, hp0, hp1, hm, hX, hs, hx => by
    obtain ⟨kd, n1, t, q, _, _, hz, g0, g1, h1⟩ := deed_ok hb (p := p) hp0 (by omega) N P (by have := hs.1; omega)
    obtain ⟨N1, P1, ok, h2, hs1⟩ := ddo_ex m (by omega) N P hs kd n1 t
    have er : wrap64 (((r + 1 : Nat) : Int) - 1) = (r : Int) := by rw [w64 (by omega) (by omega)]; omega
    have hx' : ∀ x ∈ X ++ [(⟨kd, n1, t⟩ : S26)], x.f2.size ≤ 101 := fun x h => by
      rcases List.mem_append.1 h with h | h
      · exact hx x h
      · rw [List.mem_singleton.1 h]; exact hz
    cases ok with
    | true =>
      obtain ⟨L, p', k0, k1, kl, kx, h3⟩ := deeds_l0 hb r (m + 1) q (X ++ [⟨kd, n1, t⟩]) N1 P1 (by omega) (by omega) (by omega) (by simp; omega) hs1 hx'
      refine ⟨L, p', by omega, by omega, by simp at kl; omega, kx, Ev.step (fun _ => spec_l20Deeds.l0.eq_2 _ _ _ _ _ _ _) (ev_pos (by omega) (Ev.bind h1 (Ev.bind h2 (ev_pos rfl (ev_pos (by omega) ?_)))))⟩
      rw [er]; exact h3
    | false =>
      obtain ⟨L, p', k0, k1, kl, kx, h3⟩ := deeds_l0 hb r (m + 1) q (X ++ [⟨kd, n1, t⟩]) N P (by omega) (by omega) (by omega) (by simp; omega) (small_mono (by omega) hs) hx'
      refine ⟨L, p', by omega, by omega, by simp at kl; omega, kx, Ev.step (fun _ => spec_l20Deeds.l0.eq_2 _ _ _ _ _ _ _) (ev_pos (by omega) (Ev.bind h1 (Ev.bind h2 (ev_neg (by simp) (ev_pos (by omega) ?_)))))⟩
      rw [er]; exact h3
theorem written_l0 {b : List Int} (p : Int) (D : List S26) (hD : ∀ x ∈ D, x.f2.size ≤ 101) (hl : D.length ≤ 1000) : ∀ (r i : Nat) (X : List S26), i + r = D.length → X.length ≤ i → (∀ x ∈ X, x.f2.size ≤ 101) →
    ∃ L, L.length ≤ D.length ∧ (∀ x ∈ L, x.f2.size ≤ 101) ∧ Ev (fun k => spec_l20Written.l0 k X D (i : Int) b p) (L, p)
  | 0, i, X, h, hX, hx => ⟨X, by omega, hx, Ev.step (fun _ => spec_l20Written.l0.eq_2 _ _ _ _ _ _) (ev_neg (by omega) (ev_now rfl))⟩
  | r + 1, i, X, h, hX, hx => by
    have hd := rd26_drop D i (by omega)
    have hz := hD _ (List.mem_of_mem_drop (i := i) (by rw [hd]; exact List.mem_cons_self))
    have hS := sDeed (rd_T26 D (i : Int)).f0 (rd_T26 D (i : Int)).f1 (rd_T26 D (i : Int)).f2 (by omega)
    by_cases he : (dB (rd_T26 D (i : Int)).f0 (rd_T26 D (i : Int)).f1 (rd_T26 D (i : Int)).f2).toList = []
    · obtain ⟨L, a, c, hE⟩ := written_l0 p D hD hl r (i + 1) X (by omega) (by omega) hx
      refine ⟨L, a, c, Ev.step (fun _ => spec_l20Written.l0.eq_2 _ _ _ _ _ _) (ev_pos (by omega) (ev_pos (by omega) (Ev.bind hS (ev_pos he ?_))))⟩
      rw [w64 (by omega) (by omega)]; exact hE
    · obtain ⟨L, a, c, hE⟩ := written_l0 p D hD hl r (i + 1) (X ++ [⟨(rd_T26 D (i : Int)).f0, (rd_T26 D (i : Int)).f1, (rd_T26 D (i : Int)).f2⟩]) (by omega) (by simp; omega) (fun x h => by
        rcases List.mem_append.1 h with h | h
        · exact hx x h
        · rw [List.mem_singleton.1 h]; exact hz)
      refine ⟨L, a, c, Ev.step (fun _ => spec_l20Written.l0.eq_2 _ _ _ _ _ _) (ev_pos (by omega) (ev_pos (by omega) (Ev.bind hS (ev_neg he (ev_pos (by omega) ?_)))))⟩
      rw [w64 (by omega) (by omega)]; exact hE
theorem journal_ok {l b : List Int} (ho : spec_l20Open.f l = some (b, 0)) (hb : Rdr b) : ∃ L : List S26, L.length ≤ 20 ∧ (∀ x ∈ L, x.f2.size ≤ 101) ∧ Ev (fun k => spec_DrawJournalText.f k l) L := by
  obtain ⟨N, P, p', _, _, hs, hE⟩ := desk_ok hb (n := 0) (p := 0) (by omega) (by omega) (by omega) (by omega)
  obtain ⟨v, v0, v1, hv⟩ := pick_ok (p := p') (n := 7) hb (by omega) (by omega) (by omega)
  obtain ⟨r, rfl⟩ := Int.eq_ofNat_of_zero_le v0
  obtain ⟨D, q, _, _, dl, dx, hD⟩ := deeds_l0 hb r 20 (p' + 1) [] N P (by omega) (by omega) (by omega) (by simp; omega) hs (by simp)
  obtain ⟨L, a, c, hL⟩ := written_l0 (b := b) q D dx (by simp at dl; omega) D.length 0 [] (by omega) (by simp) (by simp)
  obtain ⟨u, q2, _, _, _, hu⟩ := odd_ok (p := q) (n := 12) hb (by omega) (by omega) (by omega) (by omega)
  simp only [List.length_nil] at dl
  have hW : Ev (fun k => spec_l20Written.f k b 0) (L, q) := by
    unfold spec_l20Written.f
    refine Ev.bind hE (Ev.bind (a := (D, q)) ?_ hL)
    unfold spec_l20Deeds.f
    exact Ev.bind hv hD
  unfold spec_DrawJournalText.f
  cases u with
  | true => exact ⟨L ++ [⟨9, 0, ⟨#[]⟩⟩], by simp; omega, fun x h => by
      rcases List.mem_append.1 h with h | h
      · exact c x h
      · rw [List.mem_singleton.1 h]; exact Nat.zero_le _, ev_bind ho (Ev.bind hW (Ev.bind hu (ev_pos rfl (ev_pos (show L.length < _ by omega) (ev_now rfl)))))⟩
  | false => exact ⟨L, by omega, c, ev_bind ho (Ev.bind hW (Ev.bind hu (ev_neg (by simp) (ev_now rfl))))⟩

theorem sameDeeds_l0 (L : List S26) (hl : L.length ≤ 1000000) : ∀ (r i : Nat), i + r = L.length → Ev (fun k => laws_sameDeeds.l0 k L L (i : Int)) true
  | 0, i, h => Ev.step (fun _ => laws_sameDeeds.l0.eq_2 _ _ _ _) (ev_neg (by omega) (ev_now rfl))
  | r + 1, i, h => by
    refine Ev.step (fun _ => laws_sameDeeds.l0.eq_2 _ _ _ _) (ev_pos (by omega) (ev_pos (by omega) (ev_pos (by omega) (ev_neg (by simp) ?_))))
    rw [w64 (by omega) (by omega)]
    exact sameDeeds_l0 L hl r (i + 1) (by omega)
theorem sameDeeds_self (L : List S26) (hl : L.length ≤ 1000000) : Ev (fun k => laws_sameDeeds.f k L L) true := by
  unfold laws_sameDeeds.f
  exact ev_pos rfl (sameDeeds_l0 L hl L.length 0 (by omega))
theorem cat_size : ∀ (L : List S26), (∀ x ∈ L, x.f2.size ≤ 101) → (cat L).size ≤ 200 * L.length
  | [], _ => Nat.zero_le _
  | x :: r, h => by
    have ih := cat_size r (fun y hy => h y (List.mem_cons_of_mem _ hy))
    have h1 := dB_size x.f0 x.f1 x.f2
    have h2 := h x List.mem_cons_self
    show ((dB x.f0 x.f1 x.f2 ++ (⟨#[10]⟩ : ByteArray)) ++ cat r).size ≤ 200 * (r.length + 1)
    rw [ByteArray.size_append, ByteArray.size_append]
    show (dB x.f0 x.f1 x.f2).size + 1 + (cat r).size ≤ _
    omega
theorem FnJournalText : laws_FnJournalText.Pure := by
  intro l _ _ hw
  refine Ev.rounds (g := fun k => laws_FnJournalText.f k l) ?_
  unfold laws_FnJournalText.f
  by_cases h : (l.length : Int) > 1048576
  · exact ev_pos h (ev_now rfl)
  · obtain ⟨b, ho, hb⟩ := open_ok hw
    obtain ⟨L, hl, hx, hD⟩ := journal_ok ho hb
    have hz : ∀ x ∈ L, x.f2.size ≤ 4000000000000 := fun x h => by have := hx x h; omega
    refine ev_neg h (Ev.bind hD (Ev.bind (iJournal L (by omega) hz) (Ev.bind (sJournal L (by omega) hz) (ev_pos rfl ?_))))
    by_cases ha : ∀ x ∈ L, (dB x.f0 x.f1 x.f2).toList ≠ []
    · rw [jT_cat L _ ha]
      have hc : (⟨#[]⟩ : ByteArray) ++ cat L = cat L := ByteArray.empty_append
      rw [hc]
      by_cases he : (cat L).toList = []
      · exact ev_pos he (ev_bind alive_t (ev_now rfl))
      · have hs := cat_size L hx
        have hR := rj_cat (cat L) (by omega) L [] ⟨#[]⟩ (by simp; omega) ha hc.symm
        have hI : Ev (fun k => impl_ReadJournal.f k (cat L)) (L, ((cat L).size : Int)) := hR
        exact ev_neg he (Ev.bind hI (Ev.bind (sameDeeds_self L (by omega)) (ev_pos rfl (ev_now (by simp)))))
    · rw [jT_none L _ ha]
      exact ev_pos (by simp [ByteArray.toList_eq]) (ev_bind alive_t (ev_now rfl))

end Go.Proofs.YtnnaiaiddjkjnaaDoor.Pure
