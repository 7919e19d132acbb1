/- For every text the program's ReadJournal gives the reference's deeds and number of bytes, in memory of its own; no condition. -/
import Derived.Test.YtnnaiaiddjkjnaaDoorPFnExactReadJournalx7
namespace Go.Proofs.YtnnaiaiddjkjnaaDoor.Pure
open Go.RowKit Go.Proofs.YtnnaiaiddjkjnaaDoor.PFnExactReadJournal Go.Proofs.YtnnaiaiddjkjnaaDoorW.PrintWords Go.Proofs.YtnnaiaiddjkjnaaDoorW.PrintLast
set_option linter.unusedVariables false
set_option linter.unusedSimpArgs false

/-! pack arith: numbers that do not wrap, and steps of 'from some number of rounds on' -/
theorem w64 {n : Int} (h0 : -9223372036854775808 ≤ n) (h1 : n ≤ 9223372036854775807) : wrap64 n = n := by unfold wrap64; omega
theorem ev_pos {α : Type} {c : Prop} [Decidable c] {a b : Nat → Option α} {r : α} (h : c) (H : Ev a r) : Ev (fun k => if c then a k else b k) r :=
  Ev.congr (fun _ => if_pos h) H
theorem ev_neg {α : Type} {c : Prop} [Decidable c] {a b : Nat → Option α} {r : α} (h : ¬ c) (H : Ev b r) : Ev (fun k => if c then a k else b k) r :=
  Ev.congr (fun _ => if_neg h) H
theorem ev_now {α : Type} {a r : α} (h : a = r) : Ev (fun _ => some a) r := h ▸ Ev.now a
theorem ev_of {α : Type} {o : Option α} {r : α} (h : o = some r) : Ev (fun _ => o) r := ⟨0, fun _ _ => h⟩
theorem ev_bind {α β : Type} {o : Option α} {f : Nat → α → Option β} {a : α} {r : β} (h : o = some a) (k : Ev (fun n => f n a) r) : Ev (fun n => o.bind (f n)) r :=
  Ev.congr (fun n => by rw [h]; rfl) k
theorem ev_eq {α : Type} {g : Nat → Option α} {r r' : α} (h : r = r') (k : Ev g r) : Ev g r' := h ▸ k

/-! pack deed: the text of a deed -/
theorem tl (b : ByteArray) : b.toList = b.data.toList := ByteArray.toList_eq b
def pr (b : UInt8) : Bool := decide (32 ≤ b.toNat) && decide (b.toNat ≤ 126)
theorem bt_drop (s : ByteArray) (i : Nat) (h : i < s.size) : ∃ b : UInt8, s.toList.drop i = b :: s.toList.drop (i + 1) ∧ bt s (i : Int) = (b.toNat : Int) := by
  rw [tl]
  have hl : i < s.data.toList.length := by simpa using h
  refine ⟨s.data.toList[i], List.drop_eq_getElem_cons hl, ?_⟩
  unfold bt
  rw [dif_pos (by simpa using h)]
  simp only [Int.toNat_natCast]
  rfl
theorem tl_len (s : ByteArray) : s.toList.length = s.size := by rw [tl]; simp
theorem iPrint_l0 (s : ByteArray) (hs : s.size ≤ 9000000000000000000) : ∀ r i : Nat, i + r = s.size → Ev (fun k => impl_isPrintable.l0 k s (s.size : Int) (i : Int)) ((s.toList.drop i).all pr)
  | 0, i, h => Ev.step (fun _ => impl_isPrintable.l0.eq_2 _ _ _ _) (ev_neg (by omega) (ev_now (by rw [List.drop_of_length_le (by rw [tl_len]; omega)]; rfl)))
  | r + 1, i, h => by
    obtain ⟨b, hb, hv⟩ := bt_drop s i (by omega)
    refine Ev.step (fun _ => impl_isPrintable.l0.eq_2 _ _ _ _) (ev_pos (by omega) (ev_pos (by omega) (ev_pos (by omega) ?_)))
    rw [hb, List.all_cons, hv]
    by_cases h1 : (b.toNat : Int) < 32
    · rw [show pr b = false by unfold pr; rw [decide_eq_false (by omega)]; rfl]; exact ev_pos h1 (ev_now rfl)
    · by_cases h2 : (b.toNat : Int) > 126
      · rw [show pr b = false by unfold pr; rw [decide_eq_false (p := b.toNat ≤ 126) (by omega), Bool.and_false]]; exact ev_neg h1 (ev_pos h2 (ev_now rfl))
      · rw [show pr b = true by unfold pr; rw [decide_eq_true (p := 32 ≤ b.toNat) (by omega), decide_eq_true (p := b.toNat ≤ 126) (by omega)]; rfl, Bool.true_and]
        refine ev_neg h1 (ev_neg h2 ?_)
        rw [w64 (by omega) (by omega)]
        exact iPrint_l0 s hs r (i + 1) (by omega)
theorem iPrint (s : ByteArray) (hs : s.size ≤ 9000000000000000000) : Ev (fun k => impl_isPrintable.f k s) (s.toList.all pr) := iPrint_l0 s hs s.size 0 (by omega)
theorem sPlain_l0 (s : ByteArray) (hs : s.size ≤ 9000000000000000000) : ∀ r i : Nat, i + r = s.size → Ev (fun k => spec_l9Plain.l0 k s (i : Int)) ((s.toList.drop i).all pr && decide (s.size > 0))
  | 0, i, h => Ev.step (fun _ => spec_l9Plain.l0.eq_2 _ _ _) (ev_neg (by omega) (ev_now (by rw [List.drop_of_length_le (by rw [tl_len]; omega)]; simp)))
  | r + 1, i, h => by
    obtain ⟨b, hb, hv⟩ := bt_drop s i (by omega)
    refine Ev.step (fun _ => spec_l9Plain.l0.eq_2 _ _ _) (ev_pos (by omega) (ev_pos (by omega) ?_))
    rw [hb, List.all_cons, hv]
    by_cases h1 : (b.toNat : Int) < 32
    · rw [show pr b = false by unfold pr; rw [decide_eq_false (by omega)]; rfl]; exact ev_pos h1 (ev_now rfl)
    · by_cases h2 : (b.toNat : Int) > 126
      · rw [show pr b = false by unfold pr; rw [decide_eq_false (p := b.toNat ≤ 126) (by omega), Bool.and_false]]; exact ev_neg h1 (ev_pos h2 (ev_now rfl))
      · rw [show pr b = true by unfold pr; rw [decide_eq_true (p := 32 ≤ b.toNat) (by omega), decide_eq_true (p := b.toNat ≤ 126) (by omega)]; rfl, Bool.true_and]
        refine ev_neg h1 (ev_neg h2 ?_)
        rw [w64 (by omega) (by omega)]
        exact sPlain_l0 s hs r (i + 1) (by omega)
theorem sPlain (s : ByteArray) (hs : s.size ≤ 9000000000000000000) : Ev (fun k => spec_l9Plain.f k s) (s.toList.all pr && decide (s.size > 0)) := sPlain_l0 s hs s.size 0 (by omega)
/-- The text of a deed. -/
def dB (k n : Int) (t : ByteArray) : ByteArray :=
  if k = 0 ∧ n = 0 ∧ t.toList ≠ [] ∧ t.toList.all pr = true then (⟨#[115, 97, 121, 32]⟩ : ByteArray) ++ t
  else if k = 1 ∧ t.toList = [] ∧ 0 ≤ n ∧ n ≤ 9 then (⟨#[100, 114, 111, 112, 32]⟩ : ByteArray) ++ ⟨(Lib.decDigits n.toNat).toArray⟩
  else if k = 2 ∧ n = 0 ∧ t.toList = [] then ⟨#[98, 97, 99, 107]⟩ else ⟨#[]⟩
theorem nil_iff (t : ByteArray) : t.toList = [] ↔ t.size = 0 := by rw [← tl_len]; exact List.length_eq_zero_iff.symm
theorem backB (k n : Int) (t : ByteArray) : ((k == 2 && (n == 0 && (t.toList == ([] : List UInt8)))) = true) ↔ (k = 2 ∧ n = 0 ∧ t.toList = []) := by simp
theorem digit_len : ∀ d : Fin 10, (Lib.decDigits d.val).length = 1 := fun d => by unfold Lib.decDigits; rw [dif_pos d.isLt]; rfl
theorem iDeed_j1F (k n : Int) (t : ByteArray) : Ev (fun r => impl_deedText.j1 r false k n t) (if k = 2 ∧ n = 0 ∧ t.toList = [] then ⟨#[98, 97, 99, 107]⟩ else ⟨#[]⟩) := by
  refine Ev.step (fun _ => impl_deedText.j1.eq_2 _ _ _ _ _) (ev_neg (by simp) ?_)
  by_cases h : k = 2 ∧ n = 0 ∧ t.toList = []
  · rw [if_pos h]; exact ev_pos ((backB k n t).2 h) (ev_now rfl)
  · rw [if_neg h]; exact ev_neg (fun e => h ((backB k n t).1 e)) (ev_now rfl)
theorem iDeed_j0F (k n : Int) (t : ByteArray) : Ev (fun r => impl_deedText.j0 r false k n t) (if k = 1 ∧ t.toList = [] ∧ 0 ≤ n ∧ n ≤ 9 then (⟨#[100, 114, 111, 112, 32]⟩ : ByteArray) ++ ⟨(Lib.decDigits n.toNat).toArray⟩ else if k = 2 ∧ n = 0 ∧ t.toList = [] then ⟨#[98, 97, 99, 107]⟩ else ⟨#[]⟩) := by
  refine Ev.step (fun _ => impl_deedText.j0.eq_2 _ _ _ _ _) (ev_neg (by simp) ?_)
  by_cases h1 : k = 1
  · refine ev_pos h1 ?_
    by_cases h2 : t.toList = []
    · refine ev_pos h2 ?_
      by_cases h3 : n ≥ 0
      · refine ev_pos h3 ?_
        by_cases h4 : n ≤ 9
        · rw [if_pos ⟨h1, h2, h3, h4⟩, decide_eq_true h4]
          have hd := digit_len ⟨n.toNat, by omega⟩
          refine Ev.step (fun _ => impl_deedText.j1.eq_2 _ _ _ _ _) (ev_pos rfl (ev_bind (a := ⟨(Lib.decDigits n.toNat).toArray⟩) (show (if 0 ≤ n ∧ n < 100 then some (⟨(Lib.decDigits n.toNat).toArray⟩ : ByteArray) else none) = some _ from if_pos ⟨h3, by omega⟩) (ev_pos ?_ (ev_now rfl))))
          show 5 + (Lib.decDigits n.toNat).toArray.size ≤ _
          simp only [List.size_toArray]
          simp only at hd
          omega
        · rw [if_neg (fun e => h4 e.2.2.2), decide_eq_false h4]; exact iDeed_j1F k n t
      · rw [if_neg (fun e => h3 e.2.2.1)]; exact ev_neg h3 (iDeed_j1F k n t)
    · rw [if_neg (fun e => h2 e.2.1)]; exact ev_neg h2 (iDeed_j1F k n t)
  · rw [if_neg (fun e => h1 e.1)]; exact ev_neg h1 (iDeed_j1F k n t)
theorem iDeed (k n : Int) (t : ByteArray) (ht : t.size ≤ 9000000000000000000) : Ev (fun r => impl_deedText.f r k n t) (dB k n t) := by
  unfold impl_deedText.f dB
  by_cases h1 : k = 0
  · refine ev_pos h1 ?_
    by_cases h2 : n = 0
    · refine ev_pos h2 ?_
      by_cases h3 : t.toList = []
      · rw [if_neg (fun e => e.2.2.1 h3)]; exact ev_pos h3 (iDeed_j0F k n t)
      · refine ev_neg h3 (Ev.bind (iPrint t ht) ?_)
        by_cases h4 : t.toList.all pr = true
        · rw [if_pos ⟨h1, h2, h3, h4⟩, h4]
          exact Ev.step (fun _ => impl_deedText.j0.eq_2 _ _ _ _ _) (ev_pos rfl (ev_pos (by omega) (ev_now rfl)))
        · rw [if_neg (fun e => h4 e.2.2.2), Bool.eq_false_iff.mpr h4]; exact iDeed_j0F k n t
    · rw [if_neg (fun e => h2 e.2.1)]; exact ev_neg h2 (iDeed_j0F k n t)
  · rw [if_neg (fun e => h1 e.1)]; exact ev_neg h1 (iDeed_j0F k n t)

/-! pack deed_s: the text of a deed, by the reference -/
theorem s1In (n : Int) : spec_l1In.f n 0 9 = some (decide (0 ≤ n) && decide (n ≤ 9)) := by
  unfold spec_l1In.f
  by_cases h : n ≥ 0
  · rw [if_pos h, decide_eq_true (p := 0 ≤ n) h, Bool.true_and]
  · rw [if_neg h, decide_eq_false (p := 0 ≤ n) h, Bool.false_and]
theorem digit_all : ∀ d : Fin 10, strOfNums [(wrap64 (48 + (d.val : Int))) % 256] = ⟨#[UInt8.ofNat (48 + d.val)]⟩ := by decide +kernel
theorem decDigits_one (d : Nat) (h : d < 10) : Lib.decDigits d = [UInt8.ofNat (48 + d)] := by unfold Lib.decDigits; rw [dif_pos h]
theorem sNum (n : Int) (h0 : 0 ≤ n) (h1 : n ≤ 9) : Ev (fun r => spec_l1Number.f r n) ⟨(Lib.decDigits n.toNat).toArray⟩ := by
  obtain ⟨d, rfl⟩ := Int.eq_ofNat_of_zero_le h0
  refine Ev.step (fun _ => spec_l1Number.f.eq_2 _ _) (ev_pos (by omega) (ev_now ?_))
  rw [Int.toNat_natCast, decDigits_one d (by omega)]
  exact digit_all ⟨d, by omega⟩
theorem sDeed_j1F (k n : Int) (t : ByteArray) : Ev (fun r => spec_DeedText.j1 r false k n t) (if k = 2 ∧ n = 0 ∧ t.toList = [] then ⟨#[98, 97, 99, 107]⟩ else ⟨#[]⟩) := by
  refine Ev.step (fun _ => spec_DeedText.j1.eq_2 _ _ _ _ _) (ev_neg (by simp) ?_)
  by_cases h : k = 2 ∧ n = 0 ∧ t.toList = []
  · rw [if_pos h]; exact ev_pos ((backB k n t).2 h) (ev_now rfl)
  · rw [if_neg h]; exact ev_neg (fun e => h ((backB k n t).1 e)) (ev_now rfl)
theorem sDeed_j0F (k n : Int) (t : ByteArray) : Ev (fun r => spec_DeedText.j0 r false k n t) (if k = 1 ∧ t.toList = [] ∧ 0 ≤ n ∧ n ≤ 9 then (⟨#[100, 114, 111, 112, 32]⟩ : ByteArray) ++ ⟨(Lib.decDigits n.toNat).toArray⟩ else if k = 2 ∧ n = 0 ∧ t.toList = [] then ⟨#[98, 97, 99, 107]⟩ else ⟨#[]⟩) := by
  refine Ev.step (fun _ => spec_DeedText.j0.eq_2 _ _ _ _ _) (ev_neg (by simp) ?_)
  by_cases h1 : k = 1
  · refine ev_pos h1 ?_
    by_cases h2 : t.toList = []
    · refine ev_pos h2 (ev_bind (s1In n) ?_)
      by_cases h3 : 0 ≤ n
      · by_cases h4 : n ≤ 9
        · rw [if_pos ⟨h1, h2, h3, h4⟩, decide_eq_true h3, decide_eq_true h4]
          have hd := digit_len ⟨n.toNat, by omega⟩
          refine Ev.step (fun _ => spec_DeedText.j1.eq_2 _ _ _ _ _) (ev_pos rfl (Ev.bind (sNum n h3 h4) (ev_pos ?_ (ev_now rfl))))
          show 5 + (Lib.decDigits n.toNat).toArray.size ≤ _
          simp only [List.size_toArray]
          simp only at hd
          omega
        · rw [if_neg (fun e => h4 e.2.2.2), decide_eq_false h4, Bool.and_false]; exact sDeed_j1F k n t
      · rw [if_neg (fun e => h3 e.2.2.1), decide_eq_false h3, Bool.false_and]; exact sDeed_j1F k n t
    · rw [if_neg (fun e => h2 e.2.1)]; exact ev_neg h2 (sDeed_j1F k n t)
  · rw [if_neg (fun e => h1 e.1)]; exact ev_neg h1 (sDeed_j1F k n t)
theorem sDeed (k n : Int) (t : ByteArray) (ht : t.size ≤ 9000000000000000000) : Ev (fun r => spec_DeedText.f r k n t) (dB k n t) := by
  unfold spec_DeedText.f dB
  by_cases h1 : k = 0
  · refine ev_pos h1 ?_
    by_cases h2 : n = 0
    · refine ev_pos h2 (Ev.bind (sPlain t ht) ?_)
      by_cases h3 : t.toList = []
      · rw [if_neg (fun e => e.2.2.1 h3), decide_eq_false (p := t.size > 0) (by have := (nil_iff t).1 h3; omega), Bool.and_false]; exact sDeed_j0F k n t
      · rw [decide_eq_true (p := t.size > 0) (by have h5 : t.size ≠ 0 := fun e => h3 ((nil_iff t).2 e); omega), Bool.and_true]
        by_cases h4 : t.toList.all pr = true
        · rw [if_pos ⟨h1, h2, h3, h4⟩, h4]
          exact Ev.step (fun _ => spec_DeedText.j0.eq_2 _ _ _ _ _) (ev_pos rfl (ev_pos (by omega) (ev_now rfl)))
        · rw [if_neg (fun e => h4 e.2.2.2), Bool.eq_false_iff.mpr h4]; exact sDeed_j0F k n t
    · rw [if_neg (fun e => h2 e.2.1)]; exact ev_neg h2 (sDeed_j0F k n t)
  · rw [if_neg (fun e => h1 e.1)]; exact ev_neg h1 (sDeed_j0F k n t)

/-! pack rd: which deed a text tells -/
theorem ba_ext {a b : ByteArray} (h : a.toList = b.toList) : a = b := by
  obtain ⟨⟨x⟩⟩ := a
  obtain ⟨⟨y⟩⟩ := b
  simp [ByteArray.toList_eq] at h
  rw [h]
theorem ba_nil {a : ByteArray} (h : a.toList = []) : a = ⟨#[]⟩ := ba_ext (h.trans (by simp [ByteArray.toList_eq]))
theorem extract_list (s : ByteArray) (a b : Nat) : (s.extract a b).toList = (s.toList.take b).drop a := by
  simp [ByteArray.toList_eq, ByteArray.data_extract, Array.toList_extract, List.extract_eq_take_drop, List.drop_take]
/-- What a text may be the text of: the word ahead of the first space tells it. -/
def candB (s r : ByteArray) (b : Bool) : Int × Int × ByteArray :=
  if b = true then (1, wrap64 (wrap64 (bt r 0) - 48), ⟨#[]⟩) else if s.toList = [98, 97, 99, 107] then (2, 0, ⟨#[]⟩) else (0, 0, ⟨#[]⟩)
def cand (s : ByteArray) : Int × Int × ByteArray :=
  if (Go.Proofs.YtnnaiaiddjkjnaaDoorW.Shelf.cutAt s 32).1.toList = [115, 97, 121] then (0, 0, (Go.Proofs.YtnnaiaiddjkjnaaDoorW.Shelf.cutAt s 32).2.1)
  else candB s (Go.Proofs.YtnnaiaiddjkjnaaDoorW.Shelf.cutAt s 32).2.1 (if (Go.Proofs.YtnnaiaiddjkjnaaDoorW.Shelf.cutAt s 32).1.toList = [100, 114, 111, 112] then ((Go.Proofs.YtnnaiaiddjkjnaaDoorW.Shelf.cutAt s 32).2.1.size : Int) == 1 else false)
theorem cand_say (t : ByteArray) : cand ((⟨#[115, 97, 121, 32]⟩ : ByteArray) ++ t) = (0, 0, t) := by
  obtain ⟨⟨l⟩⟩ := t
  have hi : Lib.indexByte (115 :: 97 :: 121 :: 32 :: l) 32 = 3 := by simp [Lib.indexByte]
  have hd : ((⟨#[115, 97, 121, 32]⟩ : ByteArray) ++ ⟨⟨l⟩⟩).data.toList = 115 :: 97 :: 121 :: 32 :: l := by simp
  have hs : ((⟨#[115, 97, 121, 32]⟩ : ByteArray) ++ ⟨⟨l⟩⟩).size = 4 + l.length := by simp; rfl
  have hc : Go.Proofs.YtnnaiaiddjkjnaaDoorW.Shelf.cutAt ((⟨#[115, 97, 121, 32]⟩ : ByteArray) ++ ⟨⟨l⟩⟩) 32 = (⟨#[115, 97, 121]⟩, ⟨⟨l⟩⟩, true) := by
    unfold Go.Proofs.YtnnaiaiddjkjnaaDoorW.Shelf.cutAt
    rw [hd, hi, if_pos (by omega)]
    refine Prod.ext (ba_ext ?_) (Prod.ext (ba_ext ?_) rfl)
    · rw [extract_list, ByteArray.toList_eq, hd]; simp [ByteArray.toList_eq]
    · rw [extract_list, ByteArray.toList_eq, hd, hs]; simp [ByteArray.toList_eq]; rw [List.take_of_length_le (by simp; omega)]; rfl
  unfold cand
  rw [hc, if_pos (by simp [ByteArray.toList_eq])]
theorem cand_drop : ∀ d : Fin 10, cand ((⟨#[100, 114, 111, 112, 32]⟩ : ByteArray) ++ ⟨(Lib.decDigits d.val).toArray⟩) = (1, (d.val : Int), ⟨#[]⟩) := by
  decide +kernel
theorem cand_back : cand ⟨#[98, 97, 99, 107]⟩ = (2, 0, ⟨#[]⟩) := by decide +kernel
theorem dB_cand (k n : Int) (t s : ByteArray) (h : dB k n t = s) (hs : s.toList ≠ []) : cand s = (k, n, t) := by
  subst h
  unfold dB at hs ⊢
  by_cases h1 : k = 0 ∧ n = 0 ∧ t.toList ≠ [] ∧ t.toList.all pr = true
  · rw [if_pos h1, cand_say, h1.1, h1.2.1]
  · rw [if_neg h1] at hs ⊢
    by_cases h2 : k = 1 ∧ t.toList = [] ∧ 0 ≤ n ∧ n ≤ 9
    · rw [if_pos h2, ba_nil h2.2.1, h2.1]
      have := cand_drop ⟨n.toNat, by omega⟩
      rw [this]
      show (1, (n.toNat : Int), _) = _
      rw [Int.toNat_of_nonneg h2.2.2.1]
    · rw [if_neg h2] at hs ⊢
      by_cases h3 : k = 2 ∧ n = 0 ∧ t.toList = []
      · rw [if_pos h3, cand_back, h3.1, h3.2.1, ba_nil h3.2.2]
      · rw [if_neg h3] at hs; exact absurd (by simp [ByteArray.toList_eq]) hs
/-- The answer, if a deed is the only one that the text may tell. -/
def rdOf (s : ByteArray) (k n : Int) (t : ByteArray) : Int × Int × ByteArray × Bool := if s.toList ≠ [] ∧ dB k n t = s then (k, n, t, true) else (0, 0, ⟨#[]⟩, false)
def rd (s : ByteArray) : Int × Int × ByteArray × Bool := rdOf s (cand s).1 (cand s).2.1 (cand s).2.2
/-- Whatever a text tells has this text, and the other way round. -/
theorem rd_of (k n : Int) (t s : ByteArray) (h : dB k n t = s) (hs : s.toList ≠ []) : rd s = (k, n, t, true) := by
  unfold rd rdOf
  rw [dB_cand k n t s h hs]
  exact if_pos ⟨hs, h⟩
theorem rd_cases (s : ByteArray) : rd s = (0, 0, ⟨#[]⟩, false) ∨ ∃ k n t, rd s = (k, n, t, true) ∧ dB k n t = s ∧ s.toList ≠ [] := by
  unfold rd rdOf
  by_cases h : s.toList ≠ [] ∧ dB (cand s).1 (cand s).2.1 (cand s).2.2 = s
  · rw [if_pos h]; exact .inr ⟨_, _, _, rfl, h.2, h.1⟩
  · rw [if_neg h]; exact .inl rfl
theorem rd_none (s : ByteArray) (h : ∀ k n t, dB k n t = s → s.toList = []) : rd s = (0, 0, ⟨#[]⟩, false) := by
  rcases rd_cases s with h1 | ⟨k, n, t, h1, h2, h3⟩
  · exact h1
  · exact absurd (h k n t h2) h3

/-! pack rd_i: the program's reading of a deed -/
theorem cut_ok (s : ByteArray) (hs : s.size ≤ 9000000000000000000) (c : UInt8) : strings_Cut.f s ⟨#[c]⟩ = some (Go.Proofs.YtnnaiaiddjkjnaaDoorW.Shelf.cutAt s c) := by
  unfold strings_Cut.f
  simp only []
  exact if_pos (by omega)
theorem cut_size (s : ByteArray) (c : UInt8) : (Go.Proofs.YtnnaiaiddjkjnaaDoorW.Shelf.cutAt s c).2.1.size ≤ s.size := by
  rcases Go.Proofs.YtnnaiaiddjkjnaaDoorW.Shelf.cut_cases s c with ⟨_, h⟩ | ⟨i, _, hi, h⟩
  · rw [h]; exact Nat.zero_le _
  · rw [h, ByteArray.size_extract]; omega
theorem iTail (s : ByteArray) (a b : Int) (t : ByteArray) (ht : t.size ≤ 9000000000000000000) :
    Ev (fun k => if s.toList = ([] : List UInt8) then some (0, 0, (⟨#[]⟩ : ByteArray), false) else (impl_deedText.f k a b t).bind fun u => if u.toList = s.toList then some (a, b, t, true) else some (0, 0, (⟨#[]⟩ : ByteArray), false)) (rdOf s a b t) := by
  unfold rdOf
  by_cases h : s.toList = []
  · rw [if_neg (fun e => e.1 h)]; exact ev_pos h (ev_now rfl)
  · refine ev_neg h (Ev.bind (iDeed a b t ht) ?_)
    by_cases h2 : dB a b t = s
    · rw [if_pos (show s.toList ≠ [] ∧ dB a b t = s from ⟨h, h2⟩)]; exact ev_pos (congrArg ByteArray.toList h2) (ev_now rfl)
    · rw [if_neg (fun e : s.toList ≠ [] ∧ dB a b t = s => h2 e.2)]; exact ev_neg (fun e => h2 (ba_ext e)) (ev_now rfl)
theorem iRead_j0 (s r : ByteArray) (b : Bool) (hb : b = true → 0 < (r.size : Int)) : Ev (fun k => impl_readDeed.j0 k s r b 0 0 ⟨#[]⟩) (rdOf s (candB s r b).1 (candB s r b).2.1 (candB s r b).2.2) := by
  refine Ev.step (fun _ => impl_readDeed.j0.eq_2 _ _ _ _ _ _ _) ?_
  unfold candB
  by_cases h2 : b = true
  · rw [if_pos h2]
    exact ev_pos h2 (ev_pos (hb h2) (iTail s 1 _ ⟨#[]⟩ (Nat.zero_le _)))
  · rw [if_neg h2]
    refine ev_neg h2 ?_
    by_cases h3 : s.toList = [98, 97, 99, 107]
    · rw [if_pos h3]; exact ev_pos h3 (iTail s 2 0 ⟨#[]⟩ (Nat.zero_le _))
    · rw [if_neg h3]; exact ev_neg h3 (iTail s 0 0 ⟨#[]⟩ (Nat.zero_le _))
theorem iRead (s : ByteArray) (hs : s.size ≤ 9000000000000000000) : Ev (fun k => impl_readDeed.f k s) (rd s) := by
  unfold impl_readDeed.f rd
  refine ev_bind (cut_ok s hs 32) ?_
  have hz := cut_size s 32
  unfold cand
  generalize Go.Proofs.YtnnaiaiddjkjnaaDoorW.Shelf.cutAt s 32 = c at *
  by_cases h1 : c.1.toList = [115, 97, 121]
  · rw [if_pos h1]; exact ev_pos h1 (iTail s 0 0 c.2.1 (by omega))
  · rw [if_neg h1]
    refine ev_neg h1 ?_
    by_cases h2 : c.1.toList = [100, 114, 111, 112]
    · rw [if_pos h2]; exact ev_pos h2 (iRead_j0 s c.2.1 _ (fun e => by have := eq_of_beq e; omega))
    · rw [if_neg h2]; exact ev_neg h2 (iRead_j0 s c.2.1 false (fun e => by cases e))

/-! pack rd_s: the reference's reading of a deed -/
theorem rd26_drop (l : List S26) (i : Nat) (h : i < l.length) : l.drop i = rd_T26 l (i : Int) :: l.drop (i + 1) := by
  rw [List.drop_eq_getElem_cons h]
  simp [rd_T26, List.getD_eq_getElem?_getD, List.getElem?_eq_getElem h]
def rdL (s : ByteArray) : List S26 → Int × Int × ByteArray × Bool
  | [] => (0, 0, ⟨#[]⟩, false)
  | x :: r => if s.toList ≠ [] ∧ dB x.f0 x.f1 x.f2 = s then (x.f0, x.f1, x.f2, true) else rdL s r
theorem sRead_l1 (s : ByteArray) (X : List S26) (hX : ∀ x ∈ X, x.f2.size ≤ 9000000000000000000) (hl : X.length ≤ 1000000000) : ∀ r i : Nat, i + r = X.length → Ev (fun k => spec_ReadDeed.l1 k s X (i : Int)) (rdL s (X.drop i))
  | 0, i, h => Ev.step (fun _ => spec_ReadDeed.l1.eq_2 _ _ _ _) (ev_neg (by omega) (ev_now (by rw [List.drop_of_length_le (by omega)]; rfl)))
  | r + 1, i, h => by
    have hd := rd26_drop X i (by omega)
    have hm : rd_T26 X (i : Int) ∈ X := List.mem_of_mem_drop (i := i) (by rw [hd]; exact List.mem_cons_self)
    have ih := sRead_l1 s X hX hl r (i + 1) (by omega)
    refine Ev.step (fun _ => spec_ReadDeed.l1.eq_2 _ _ _ _) (ev_pos (by omega) ?_)
    rw [hd, w64 (by omega) (by omega)]
    unfold rdL
    by_cases h1 : s.toList = []
    · rw [if_neg (fun e => e.1 h1)]; exact ev_pos h1 ih
    · refine ev_neg h1 (ev_pos (by omega) (Ev.bind (sDeed _ _ _ (hX _ hm)) ?_))
      by_cases h2 : dB (rd_T26 X (i : Int)).f0 (rd_T26 X (i : Int)).f1 (rd_T26 X (i : Int)).f2 = s
      · rw [if_pos ⟨h1, h2⟩]; exact ev_pos (by rw [h2]) (ev_now rfl)
      · rw [if_neg (fun e => h2 e.2)]; exact ev_neg (fun e => h2 (ba_ext e)) ih
def drops (i : Nat) : Nat → List S26
  | 0 => []
  | r + 1 => ⟨1, (i : Int), ⟨#[]⟩⟩ :: drops (i + 1) r
theorem drops_mem : ∀ (r i n : Nat), i ≤ n → n < i + r → (⟨1, (n : Int), ⟨#[]⟩⟩ : S26) ∈ drops i r
  | 0, i, n, h, h2 => absurd h2 (by omega)
  | r + 1, i, n, h, h2 => by
    by_cases e : i = n
    · subst e; exact List.mem_cons_self
    · exact List.mem_cons_of_mem _ (drops_mem r (i + 1) n (by omega) (by omega))
theorem drops_size : ∀ (r i : Nat), ∀ x ∈ drops i r, x.f2.size ≤ 9000000000000000000
  | 0, i, x, h => absurd h (by simp [drops])
  | r + 1, i, x, h => by
    rcases List.mem_cons.1 h with rfl | h
    · exact Nat.zero_le _
    · exact drops_size r (i + 1) x h
theorem drops_len : ∀ (r i : Nat), (drops i r).length = r
  | 0, i => rfl
  | r + 1, i => by show (drops (i + 1) r).length + 1 = r + 1; rw [drops_len r (i + 1)]
theorem sRead_l0 (s : ByteArray) : ∀ (r i : Nat) (X : List S26), (∀ x ∈ X, x.f2.size ≤ 9000000000000000000) → X.length + r ≤ 1000000 → i + r = 10 → Ev (fun k => spec_ReadDeed.l0 k s X (i : Int)) (rdL s (X ++ drops i r))
  | 0, i, X, hX, hl, h => by
    refine Ev.step (fun _ => spec_ReadDeed.l0.eq_2 _ _ _ _) (ev_neg (by omega) ?_)
    have := sRead_l1 s X hX (by omega) X.length 0 (by omega)
    exact ev_eq (by show _ = rdL s (X ++ []); rw [List.append_nil, List.drop_zero]) this
  | r + 1, i, X, hX, hl, h => by
    refine Ev.step (fun _ => spec_ReadDeed.l0.eq_2 _ _ _ _) (ev_pos (by omega) (ev_pos (by omega) ?_))
    rw [w64 (by omega) (by omega)]
    refine ev_eq ?_ (sRead_l0 s r (i + 1) (X ++ [⟨1, (i : Int), ⟨#[]⟩⟩]) (fun x hx => ?_) (by simp; omega) (by omega))
    · rw [List.append_assoc]; rfl
    · rcases List.mem_append.1 hx with hx | hx
      · exact hX x hx
      · rw [List.mem_singleton.1 hx]; exact Nat.zero_le _
theorem rdL_none (s : ByteArray) : ∀ X : List S26, (∀ x ∈ X, ¬(s.toList ≠ [] ∧ dB x.f0 x.f1 x.f2 = s)) → rdL s X = (0, 0, ⟨#[]⟩, false)
  | [], _ => rfl
  | x :: r, h => by
    unfold rdL
    rw [if_neg (h x List.mem_cons_self)]
    exact rdL_none s r (fun y hy => h y (List.mem_cons_of_mem _ hy))
theorem rdL_some (s : ByteArray) (k n : Int) (t : ByteArray) (hs : s.toList ≠ []) (hd : dB k n t = s) : ∀ X : List S26, (⟨k, n, t⟩ : S26) ∈ X → rdL s X = (k, n, t, true)
  | [], h => absurd h (by simp)
  | x :: r, h => by
    unfold rdL
    by_cases h1 : s.toList ≠ [] ∧ dB x.f0 x.f1 x.f2 = s
    · rw [if_pos h1]
      have e := (dB_cand _ _ _ s h1.2 hs).symm.trans (dB_cand k n t s hd hs)
      simp only [Prod.mk.injEq] at e
      rw [e.1, e.2.1, e.2.2]
    · rw [if_neg h1]
      rcases List.mem_cons.1 h with e | h
      · subst e; exact absurd ⟨hs, hd⟩ h1
      · exact rdL_some s k n t hs hd r h
theorem rdL_rd (s : ByteArray) (X : List S26) (h : ∀ k n t, dB k n t = s → s.toList ≠ [] → (⟨k, n, t⟩ : S26) ∈ X) : rdL s X = rd s := by
  rcases rd_cases s with e | ⟨k, n, t, e, hd, hs⟩
  · rw [e]
    refine rdL_none s X (fun x _ hx => ?_)
    have := rd_of _ _ _ s hx.2 hx.1
    rw [e] at this
    simp at this
  · rw [e]; exact rdL_some s k n t hs hd X (h k n t hd hs)
theorem say_len (t : ByteArray) : ((⟨#[115, 97, 121, 32]⟩ : ByteArray) ++ t).size = 4 + t.size := by rw [ByteArray.size_append]; rfl
theorem say_rest (t : ByteArray) : ((⟨#[115, 97, 121, 32]⟩ : ByteArray) ++ t).extract 4 ((⟨#[115, 97, 121, 32]⟩ : ByteArray) ++ t).size = t := by
  refine ba_ext ?_
  rw [extract_list, List.take_of_length_le (by rw [tl_len]; omega)]
  simp [ByteArray.toList_eq]
theorem sReadDeed (s : ByteArray) (hs : s.size ≤ 9000000000000000000) : Ev (fun k => spec_ReadDeed.f k s) (rd s) := by
  unfold spec_ReadDeed.f
  refine ev_bind rfl ?_
  have hdrop : ∀ n : Int, 0 ≤ n → n ≤ 9 → (⟨1, n, ⟨#[]⟩⟩ : S26) ∈ drops 0 10 := fun n h0 h9 => by
    obtain ⟨d, rfl⟩ := Int.eq_ofNat_of_zero_le h0
    exact drops_mem 10 0 d (by omega) (by omega)
  by_cases h : (s.size : Int) > 4
  · refine ev_pos h (ev_pos (by omega) (ev_pos (by decide) (Ev.step (fun _ => spec_ReadDeed.j0.eq_2 _ _ _) (ev_eq (rdL_rd s _ ?_) (sRead_l0 s 10 0 _ ?_ (by simp) rfl)))))
    · intro k n t hd hne
      unfold dB at hd
      by_cases h1 : k = 0 ∧ n = 0 ∧ t.toList ≠ [] ∧ t.toList.all pr = true
      · rw [if_pos h1] at hd
        subst hd
        rw [say_rest, h1.1, h1.2.1]
        simp
      · rw [if_neg h1] at hd
        by_cases h2 : k = 1 ∧ t.toList = [] ∧ 0 ≤ n ∧ n ≤ 9
        · rw [h2.1, ba_nil h2.2.1]; exact List.mem_append_right _ (hdrop n h2.2.2.1 h2.2.2.2)
        · rw [if_neg h2] at hd
          by_cases h3 : k = 2 ∧ n = 0 ∧ t.toList = []
          · rw [h3.1, h3.2.1, ba_nil h3.2.2]; simp
          · rw [if_neg h3] at hd; subst hd; exact absurd (by simp [ByteArray.toList_eq]) hne
    · intro x hx
      simp at hx
      rcases hx with rfl | rfl
      · exact Nat.zero_le _
      · show (s.extract 4 s.size).size ≤ _; rw [ByteArray.size_extract]; omega
  · refine ev_neg h (Ev.step (fun _ => spec_ReadDeed.j0.eq_2 _ _ _) (ev_eq (rdL_rd s _ ?_) (sRead_l0 s 10 0 _ ?_ (by simp) rfl)))
    · intro k n t hd hne
      unfold dB at hd
      by_cases h1 : k = 0 ∧ n = 0 ∧ t.toList ≠ [] ∧ t.toList.all pr = true
      · rw [if_pos h1] at hd
        have h5 : t.size ≠ 0 := fun e => h1.2.2.1 ((nil_iff t).2 e)
        rw [← hd, say_len] at h
        omega
      · rw [if_neg h1] at hd
        by_cases h2 : k = 1 ∧ t.toList = [] ∧ 0 ≤ n ∧ n ≤ 9
        · rw [h2.1, ba_nil h2.2.1]; exact List.mem_append_right _ (hdrop n h2.2.2.1 h2.2.2.2)
        · rw [if_neg h2] at hd
          by_cases h3 : k = 2 ∧ n = 0 ∧ t.toList = []
          · rw [h3.1, h3.2.1, ba_nil h3.2.2]; simp
          · rw [if_neg h3] at hd; subst hd; exact absurd (by simp [ByteArray.toList_eq]) hne
    · intro x hx
      simp at hx
      rw [hx]; exact Nat.zero_le _

/-! pack eqdeeds: deeds compared with themselves -/
theorem eqDeed_self (k n : Int) (t : ByteArray) : laws_eqDeed.f k n t k n t = some true := by
  unfold laws_eqDeed.f
  rw [if_pos rfl, if_pos rfl, if_pos rfl]
theorem eqDeedS_l0 (L : List S26) (hl : L.length ≤ 1000000000) : ∀ (r i : Nat), i + r = L.length → Ev (fun k => laws_eqDeedS.l0 k L L (i : Int)) true
  | 0, i, h => Ev.step (fun _ => laws_eqDeedS.l0.eq_2 _ _ _ _) (ev_neg (by omega) (ev_now rfl))
  | r + 1, i, h => by
    refine Ev.step (fun _ => laws_eqDeedS.l0.eq_2 _ _ _ _) (ev_pos (by omega) (ev_pos (by omega) (ev_pos (by omega) (ev_bind (eqDeed_self _ _ _) (ev_pos rfl ?_)))))
    rw [w64 (by omega) (by omega)]
    exact eqDeedS_l0 L hl r (i + 1) (by omega)
theorem eqDeedS_self (L : List S26) (hl : L.length ≤ 1000000000) : Ev (fun k => laws_eqDeedS.f k L L) true := by
  unfold laws_eqDeedS.f
  exact ev_pos rfl (eqDeedS_l0 L hl L.length 0 (by omega))

/-! pack mtext: a mark's text, and deeds that bear marks -/
theorem strOf_one (n : Int) : (strOfNums ([n] : List Int)).size = 1 := rfl
theorem mtext_l0 : ∀ (b : Nat) (x : Int) (acc : ByteArray), 0 ≤ x → x ≤ b → b ≤ 100000000 → acc.size + b ≤ 1000000000 → ∃ t, Ev (fun k => laws_markText.l0 k x acc) t
  | 0, x, acc, h0, h1, _, h2 => ⟨_, Ev.step (fun _ => laws_markText.l0.eq_2 _ _ _) (ev_neg (by omega) (ev_pos (by omega) (ev_now rfl)))⟩
  | b + 1, x, acc, h0, h1, hb, h2 => by
    by_cases h : x > 0
    · have hd : Int.tdiv x 10 = x / 10 := Int.tdiv_eq_ediv_of_nonneg h0
      obtain ⟨t, ht⟩ := mtext_l0 b (x / 10) (strOfNums ([(wrap64 (48 + (Int.tmod x 10))) % 256] : List Int) ++ acc) (by omega) (by omega) (by omega) (by rw [ByteArray.size_append, strOf_one]; omega)
      refine ⟨t, Ev.step (fun _ => laws_markText.l0.eq_2 _ _ _) (ev_pos h (ev_bind rfl (ev_pos (by rw [strOf_one]; omega) ?_)))⟩
      rw [hd, w64 (by omega) (by omega)]
      exact ht
    · exact ⟨_, Ev.step (fun _ => laws_markText.l0.eq_2 _ _ _) (ev_neg h (ev_pos (by omega) (ev_now rfl)))⟩
theorem mtext (x : Int) (h0 : 0 ≤ x) (h1 : x ≤ 100000000) : ∃ t, Ev (fun k => laws_markText.f k x) t := by
  unfold laws_markText.f
  by_cases h : x ≤ 0
  · exact ⟨_, ev_pos h (ev_now rfl)⟩
  · obtain ⟨t, ht⟩ := mtext_l0 x.toNat x ⟨#[]⟩ h0 (by omega) (by omega) (by show 0 + _ ≤ _; omega)
    exact ⟨t, ev_neg h ht⟩
theorem rd26_set (X : List S26) (i : Nat) (a : S26) (h : i < X.length) : rd_T26 (X.set i a) (i : Int) = a := by
  simp [rd_T26, List.getD_eq_getElem?_getD, h]
theorem rd26_take (X M : List S26) (i : Nat) (h : i < X.length) (hl : M.length = X.length) (ht : M.take (i + 1) = X.take (i + 1)) : rd_T26 M (i : Int) = rd_T26 X (i : Int) := by
  have h1 : (M.take (i + 1))[i]? = (X.take (i + 1))[i]? := by rw [ht]
  rw [List.getElem?_take_of_lt (by omega), List.getElem?_take_of_lt (by omega)] at h1
  simp only [rd_T26, List.getD_eq_getElem?_getD, Int.toNat_natCast]
  rw [h1]
theorem markD_l0 : ∀ (r i : Nat) (X : List S26) (v : Int), i + r = X.length → X.length ≤ 2000000 → 0 ≤ v → v + 3 * r ≤ 50000000 →
    ∃ M, Ev (fun k => laws_markDeedS.l0 k X v (i : Int)) (v + 3 * r, M) ∧ M.length = X.length ∧ M.take i = X.take i ∧ Ev (fun k => laws_heldDeedS.l0 k M v (i : Int)) (v + 3 * r)
  | 0, i, X, v, h, hx, h0, h1 => ⟨X, Ev.step (fun _ => laws_markDeedS.l0.eq_2 _ _ _ _) (ev_neg (by omega) (ev_now (by simp))), rfl, rfl, Ev.step (fun _ => laws_heldDeedS.l0.eq_2 _ _ _ _) (ev_neg (by omega) (ev_now (by simp)))⟩
  | r + 1, i, X, v, h, hx, h0, h1 => by
    obtain ⟨t, ht⟩ := mtext (v + 2) (by omega) (by omega)
    have e1 : wrap64 (v + 1) = v + 1 := w64 (by omega) (by omega)
    have e2 : wrap64 (v + 1 + 1) = v + 2 := by rw [w64 (by omega) (by omega)]; omega
    have e3 : wrap64 (v + 2 + 1) = v + 3 := by rw [w64 (by omega) (by omega)]; omega
    have e4 : wrap64 ((i : Int) + 1) = ((i + 1 : Nat) : Int) := by rw [w64 (by omega) (by omega)]; rfl
    have hi : i < X.length := by omega
    have hX : ∃ X' : List S26, X' = ((X.set i ⟨v, (rd_T26 X (i : Int)).f1, (rd_T26 X (i : Int)).f2⟩).set i ⟨v, v + 1, (rd_T26 X (i : Int)).f2⟩).set i ⟨v, v + 1, t⟩ := ⟨_, rfl⟩
    obtain ⟨X', hX'⟩ := hX
    have hl' : X'.length = X.length := by rw [hX']; simp
    have hr' : rd_T26 X' (i : Int) = ⟨v, v + 1, t⟩ := by rw [hX']; exact rd26_set _ _ _ (by simpa using hi)
    have ht' : X'.take i = X.take i := by rw [hX']; simp [List.take_set_of_le]
    obtain ⟨M, m1, m2, m3, m4⟩ := markD_l0 r (i + 1) X' (v + 3) (by omega) (by omega) (by omega) (by omega)
    have hm : rd_T26 M (i : Int) = ⟨v, v + 1, t⟩ := (rd26_take X' M i (by omega) m2 m3).trans hr'
    have hc : v + 3 * ((r + 1 : Nat) : Int) = v + 3 + 3 * (r : Int) := by omega
    refine ⟨M, ?_, m2.trans hl', ?_, ?_⟩
    · refine Ev.step (fun _ => laws_markDeedS.l0.eq_2 _ _ _ _) (ev_pos (by omega) (ev_pos (by omega) (ev_bind rfl (ev_bind rfl ?_))))
      rw [e1, e2, e3, e4, hc, Int.toNat_natCast]
      rw [rd26_set X i _ hi]
      refine Ev.bind ht ?_
      rw [rd26_set (X.set i _) i _ (by simpa using hi)]
      rw [← hX']
      exact m1
    · have := congrArg (List.take i) m3
      rw [List.take_take, List.take_take, Nat.min_eq_left (by omega)] at this
      rw [this, ht']
    · refine Ev.step (fun _ => laws_heldDeedS.l0.eq_2 _ _ _ _) (ev_pos (by omega) (ev_pos (by omega) ?_))
      rw [hm, e1, e2, e3, e4, hc]
      exact ev_pos rfl (ev_pos rfl (Ev.bind ht (ev_pos rfl m4)))
theorem markD (X : List S26) (hx : X.length ≤ 2000000) : ∃ M u, Ev (fun k => laws_markDeedS.f k X 1) (u, M) ∧ ¬ u < 0 ∧ Ev (fun k => laws_heldDeedS.f k M 1) u := by
  obtain ⟨M, m1, _, _, m4⟩ := markD_l0 X.length 0 X 1 (by omega) hx (by omega) (by omega)
  exact ⟨M, _, m1, by omega, m4⟩

/-! pack rj: the deeds of the lines with which a text begins -/
theorem bt_eq10 (s : ByteArray) (i : Nat) (h : i < s.size) : bt s (i : Int) = 10 ↔ s.data.toList[i]? = some 10 := by
  obtain ⟨b, hb, hv⟩ := bt_drop s i h
  rw [hv]
  rw [tl] at hb
  have h2 : s.data.toList[i]? = some b := by
    have := congrArg (fun l => l[0]?) hb
    simpa using this
  rw [h2]
  constructor
  · intro e; rw [show b = 10 from UInt8.toNat_inj.1 (by show b.toNat = 10; omega)]
  · intro e; rw [Option.some.inj e]; rfl
theorem ext_get (s : ByteArray) (a i : Nat) (ha : a + i < s.size) : (s.extract a s.size).data.toList[i]? = s.data.toList[a + i]? := by
  rw [← tl, ← tl, extract_list, List.getElem?_drop, List.getElem?_take_of_lt ha]
theorem ext_ext (s : ByteArray) (a i : Nat) (h : a + i ≤ s.size) : (s.extract a s.size).extract 0 i = s.extract a (a + i) := by
  refine ba_ext ?_
  rw [extract_list, extract_list, extract_list, List.drop_zero, List.take_of_length_le (l := s.toList) (by rw [tl_len]; omega), List.take_drop]
theorem sScan (s : ByteArray) (hs : s.size ≤ 9000000000000000000) (X : List S26) (a : Int) : ∀ (r i j : Nat) (v : List S26 × Int), i + r = j → j ≤ s.size → (∀ m, i ≤ m → m < j → s.data.toList[m]? ≠ some 10) → Ev (fun k => spec_ReadJournal.l0 k s X a (j : Int)) v → Ev (fun k => spec_ReadJournal.l0 k s X a (i : Int)) v
  | 0, i, j, v, h, _, _, H => by obtain rfl : i = j := by omega
                                 exact H
  | r + 1, i, j, v, h, hj, hn, H => by
    have ih := sScan s hs X a r (i + 1) j v (by omega) hj (fun m h1 h2 => hn m (by omega) h2) H
    refine Ev.step (fun _ => spec_ReadJournal.l0.eq_2 _ _ _ _ _) (ev_pos (by omega) (ev_pos (by omega) (ev_neg (fun e => hn i (by omega) (by omega) ((bt_eq10 s i (by omega)).1 e)) ?_)))
    rw [w64 (by omega) (by omega)]
    exact ih
theorem rj_both (s : ByteArray) (hs : s.size ≤ 1000000000000) : ∀ (n a : Nat) (X : List S26), a ≤ s.size → s.size - a ≤ n → X.length ≤ a →
    ∃ v : List S26 × Int, Ev (fun k => impl_ReadJournal.l0 k s X (a : Int)) v ∧ Ev (fun k => spec_ReadJournal.l0 k s X (a : Int) (a : Int)) v ∧ v.1.length ≤ s.size
  | n, a, X, ha, hn, hX => by
    have hz : (s.extract a s.size).size = s.size - a := by rw [ByteArray.size_extract]; omega
    have e1 := cut_ok (s.extract a s.size) (by omega) 10
    rcases Go.Proofs.YtnnaiaiddjkjnaaDoorW.Shelf.cut_cases (s.extract a s.size) 10 with ⟨hi, hc⟩ | ⟨i, hi, hr, hc⟩
    · refine ⟨(X, (a : Int)), ?_, ?_, by show X.length ≤ _; omega⟩
      · refine Ev.step (fun _ => impl_ReadJournal.l0.eq_2 _ _ _ _) (ev_pos (by omega) (ev_pos (by omega) ?_))
        rw [Int.toNat_natCast]
        refine ev_bind e1 ?_
        rw [hc]
        exact Ev.bind (iRead _ (by show (s.extract a s.size).size ≤ _; omega)) (ev_neg (by simp) (ev_now rfl))
      · refine sScan s (by omega) X a (s.size - a) a s.size _ (by omega) (by omega) (fun m h1 h2 => ?_) (Ev.step (fun _ => spec_ReadJournal.l0.eq_2 _ _ _ _ _) (ev_neg (by omega) (ev_now rfl)))
        have := Lib.indexByte_none hi (m - a)
        rw [ext_get s a (m - a) (by omega), show a + (m - a) = m by omega] at this
        exact this
    · rw [hz] at hr
      obtain ⟨g1, g2⟩ := Lib.indexByte_some hi
      rw [ext_get s a i (by omega)] at g1
      have hline : (Go.Proofs.YtnnaiaiddjkjnaaDoorW.Shelf.cutAt (s.extract a s.size) 10).1 = s.extract a (a + i) := by rw [hc]; exact ext_ext s a i (by omega)
      have hlz : (s.extract a (a + i)).size = i := by rw [ByteArray.size_extract]; omega
      have hok : (Go.Proofs.YtnnaiaiddjkjnaaDoorW.Shelf.cutAt (s.extract a s.size) 10).2.2 = true := by rw [hc]
      have hT := bt_eq10 s (a + i) (by omega)
      have hR := iRead (s.extract a (a + i)) (by omega)
      have hS := sReadDeed (s.extract a (a + i)) (by omega)
      have step : ∀ v, Ev (fun k => spec_ReadJournal.l0 k s X (a : Int) ((a + i : Nat) : Int)) v → Ev (fun k => spec_ReadJournal.l0 k s X (a : Int) (a : Int)) v := fun v H => sScan s (by omega) X a i a (a + i) v rfl (by omega) (fun m h1 h2 => by
        have := g2 (m - a) (by omega)
        rw [ext_get s a (m - a) (by omega), show a + (m - a) = m by omega] at this
        exact this) H
      by_cases hd : (rd (s.extract a (a + i))).2.2.2 = true
      · match n, hn with
        | 0, hn => exact absurd hn (by omega)
        | n + 1, hn =>
          obtain ⟨v, v1, v2, v3⟩ := rj_both s hs n (a + i + 1) (X ++ [⟨(rd (s.extract a (a + i))).1, (rd (s.extract a (a + i))).2.1, (rd (s.extract a (a + i))).2.2.1⟩]) (by omega) (by omega) (by simp; omega)
          refine ⟨v, ?_, step v ?_, v3⟩
          · refine Ev.step (fun _ => impl_ReadJournal.l0.eq_2 _ _ _ _) (ev_pos (by omega) (ev_pos (by omega) ?_))
            rw [Int.toNat_natCast]
            refine ev_bind e1 ?_
            rw [hline]
            refine Ev.bind hR (ev_pos hok (ev_pos hd (ev_pos (by omega) ?_)))
            rw [hlz, w64 (n := (i : Int) + 1) (by omega) (by omega), w64 (by omega) (by omega)]
            rw [show (a : Int) + ((i : Int) + 1) = ((a + i + 1 : Nat) : Int) by omega]
            exact v1
          · refine Ev.step (fun _ => spec_ReadJournal.l0.eq_2 _ _ _ _ _) (ev_pos (by omega) (ev_pos (by omega) (ev_pos (hT.2 g1) (ev_pos (by omega) (ev_pos (by omega) (ev_pos (by omega) ?_))))))
            rw [Int.toNat_natCast, Int.toNat_natCast]
            refine Ev.bind hS (ev_pos hd (ev_pos (by omega) ?_))
            rw [w64 (by omega) (by omega)]
            exact v2
      · refine ⟨(X, (a : Int)), ?_, step _ ?_, by show X.length ≤ _; omega⟩
        · refine Ev.step (fun _ => impl_ReadJournal.l0.eq_2 _ _ _ _) (ev_pos (by omega) (ev_pos (by omega) ?_))
          rw [Int.toNat_natCast]
          refine ev_bind e1 ?_
          rw [hline]
          exact Ev.bind hR (ev_pos hok (ev_neg hd (ev_now rfl)))
        · refine Ev.step (fun _ => spec_ReadJournal.l0.eq_2 _ _ _ _ _) (ev_pos (by omega) (ev_pos (by omega) (ev_pos (hT.2 g1) (ev_pos (by omega) (ev_pos (by omega) (ev_pos (by omega) ?_))))))
          rw [Int.toNat_natCast, Int.toNat_natCast]
          exact Ev.bind hS (ev_neg hd (ev_now rfl))
  termination_by n => n

theorem FnExactReadJournal : laws_FnExactReadJournal.Pure := fun s hs => by
  refine Ev.rounds (g := fun k => laws_FnExactReadJournal.f k s) ?_
  unfold laws_FnExactReadJournal.f
  by_cases h : (s.size : Int) > 1048576
  · exact ev_pos h (ev_now rfl)
  · obtain ⟨⟨L, p⟩, v1, v2, v3⟩ := rj_both s (by omega) s.size 0 [] (by omega) (by omega) (by simp)
    simp only at v3
    have hI : Ev (fun k => impl_ReadJournal.f k s) (L, p) := v1
    have hS : Ev (fun k => spec_ReadJournal.f k s) (L, p) := v2
    have hE := eqDeedS_self L (by omega)
    obtain ⟨M, u, m1, m2, m3⟩ := markD L (by omega)
    refine ev_neg h (Ev.bind hS (Ev.bind hI (Ev.bind hE (ev_pos rfl (Ev.step (fun _ => laws_FnExactReadJournal.j0.eq_2 _ _ _ _ _ _) (ev_neg (by simp) ?_))))))
    refine Ev.bind m1 (Ev.bind m3 (ev_neg m2 (ev_pos rfl (Ev.bind hI (Ev.bind hE (ev_pos rfl (Ev.step (fun _ => laws_FnExactReadJournal.j1.eq_2 _ _ _ _) (ev_neg (by simp) ?_))))))))
    exact Ev.bind m3 (ev_neg m2 (ev_pos rfl (ev_now rfl)))

end Go.Proofs.YtnnaiaiddjkjnaaDoor.Pure
