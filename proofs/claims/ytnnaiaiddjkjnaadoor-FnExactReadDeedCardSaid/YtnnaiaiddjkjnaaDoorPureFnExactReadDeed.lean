/- For every text the program's ReadDeed gives the reference's deed; no condition. -/
import Derived.Test.YtnnaiaiddjkjnaaDoorPFnExactReadDeedx5
namespace Go.Proofs.YtnnaiaiddjkjnaaDoor.Pure
open Go.RowKit Go.Proofs.YtnnaiaiddjkjnaaDoor.PFnExactReadDeed Go.Proofs.YtnnaiaiddjkjnaaDoorW.PrintWords Go.Proofs.YtnnaiaiddjkjnaaDoorW.PrintLast
set_option linter.unusedVariables false
set_option linter.unusedSimpArgs false

/-! pack arith: numbers that do not wrap, and steps of 'from some number of rounds on' -/
theorem w64 {n : Int} (h0 : -9223372036854775808 ≤ n) (h1 : n ≤ 9223372036854775807) : wrap64 n = n := by unfold wrap64; omega
theorem ev_pos {α : Type} {c : Prop} [Decidable c] {a b : Nat → Option α} {r : α} (h : c) (H : Ev a r) : Ev (fun k => if c then a k else b k) r :=
  Ev.congr (fun _ => if_pos h) H
theorem ev_neg {α : Type} {c : Prop} [Decidable c] {a b : Nat → Option α} {r : α} (h : ¬ c) (H : Ev b r) : Ev (fun k => if c then a k else b k) r :=
  Ev.congr (fun _ => if_neg h) H
theorem ev_now {α : Type} {a r : α} (h : a = r) : Ev (fun _ => some a) r := h ▸ Ev.now a
theorem ev_of {α : Type} {o : Option α} {r : α} (h : o = some r) : Ev (fun _ => o) r := ⟨0, fun _ _ => h⟩
theorem ev_bind {α β : Type} {o : Option α} {f : Nat → α → Option β} {a : α} {r : β} (h : o = some a) (k : Ev (fun n => f n a) r) : Ev (fun n => o.bind (f n)) r :=
  Ev.congr (fun n => by rw [h]; rfl) k
theorem ev_eq {α : Type} {g : Nat → Option α} {r r' : α} (h : r = r') (k : Ev g r) : Ev g r' := h ▸ k

/-! pack deed: the text of a deed -/
theorem tl (b : ByteArray) : b.toList = b.data.toList := ByteArray.toList_eq b
def pr (b : UInt8) : Bool := decide (32 ≤ b.toNat) && decide (b.toNat ≤ 126)
theorem bt_drop (s : ByteArray) (i : Nat) (h : i < s.size) : ∃ b : UInt8, s.toList.drop i = b :: s.toList.drop (i + 1) ∧ bt s (i : Int) = (b.toNat : Int) := by
  rw [tl]
  have hl : i < s.data.toList.length := by simpa using h
  refine ⟨s.data.toList[i], List.drop_eq_getElem_cons hl, ?_⟩
  unfold bt
  rw [dif_pos (by simpa using h)]
  simp only [Int.toNat_natCast]
  rfl
theorem tl_len (s : ByteArray) : s.toList.length = s.size := by rw [tl]; simp
theorem iPrint_l0 (s : ByteArray) (hs : s.size ≤ 9000000000000000000) : ∀ r i : Nat, i + r = s.size → Ev (fun k => impl_isPrintable.l0 k s (s.size : Int) (i : Int)) ((s.toList.drop i).all pr)
  | 0, i, h => Ev.step (fun _ => impl_isPrintable.l0.eq_2 _ _ _ _) (ev_neg (by omega) (ev_now (by rw [List.drop_of_length_le (by rw [tl_len]; omega)]; rfl)))
  | r + 1, i, h => by
    obtain ⟨b, hb, hv⟩ := bt_drop s i (by omega)
    refine Ev.step (fun _ => impl_isPrintable.l0.eq_2 _ _ _ _) (ev_pos (by omega) (ev_pos (by omega) (ev_pos (by omega) ?_)))
    rw [hb, List.all_cons, hv]
    by_cases h1 : (b.toNat : Int) < 32
    · rw [show pr b = false by unfold pr; rw [decide_eq_false (by omega)]; rfl]; exact ev_pos h1 (ev_now rfl)
    · by_cases h2 : (b.toNat : Int) > 126
      · rw [show pr b = false by unfold pr; rw [decide_eq_false (p := b.toNat ≤ 126) (by omega), Bool.and_false]]; exact ev_neg h1 (ev_pos h2 (ev_now rfl))
      · rw [show pr b = true by unfold pr; rw [decide_eq_true (p := 32 ≤ b.toNat) (by omega), decide_eq_true (p := b.toNat ≤ 126) (by omega)]; rfl, Bool.true_and]
        refine ev_neg h1 (ev_neg h2 ?_)
        rw [w64 (by omega) (by omega)]
        exact iPrint_l0 s hs r (i + 1) (by omega)
theorem iPrint (s : ByteArray) (hs : s.size ≤ 9000000000000000000) : Ev (fun k => impl_isPrintable.f k s) (s.toList.all pr) := iPrint_l0 s hs s.size 0 (by omega)
theorem sPlain_l0 (s : ByteArray) (hs : s.size ≤ 9000000000000000000) : ∀ r i : Nat, i + r = s.size → Ev (fun k => spec_l9Plain.l0 k s (i : Int)) ((s.toList.drop i).all pr && decide (s.size > 0))
  | 0, i, h => Ev.step (fun _ => spec_l9Plain.l0.eq_2 _ _ _) (ev_neg (by omega) (ev_now (by rw [List.drop_of_length_le (by rw [tl_len]; omega)]; simp)))
  | r + 1, i, h => by
    obtain ⟨b, hb, hv⟩ := bt_drop s i (by omega)
    refine Ev.step (fun _ => spec_l9Plain.l0.eq_2 _ _ _) (ev_pos (by omega) (ev_pos (by omega) ?_))
    rw [hb, List.all_cons, hv]
    by_cases h1 : (b.toNat : Int) < 32
    · rw [show pr b = false by unfold pr; rw [decide_eq_false (by omega)]; rfl]; exact ev_pos h1 (ev_now rfl)
    · by_cases h2 : (b.toNat : Int) > 126
      · rw [show pr b = false by unfold pr; rw [decide_eq_false (p := b.toNat ≤ 126) (by omega), Bool.and_false]]; exact ev_neg h1 (ev_pos h2 (ev_now rfl))
      · rw [show pr b = true by unfold pr; rw [decide_eq_true (p := 32 ≤ b.toNat) (by omega), decide_eq_true (p := b.toNat ≤ 126) (by omega)]; rfl, Bool.true_and]
        refine ev_neg h1 (ev_neg h2 ?_)
        rw [w64 (by omega) (by omega)]
        exact sPlain_l0 s hs r (i + 1) (by omega)
theorem sPlain (s : ByteArray) (hs : s.size ≤ 9000000000000000000) : Ev (fun k => spec_l9Plain.f k s) (s.toList.all pr && decide (s.size > 0)) := sPlain_l0 s hs s.size 0 (by omega)
/-- The text of a deed. -/
def dB (k n : Int) (t : ByteArray) : ByteArray :=
  if k = 0 ∧ n = 0 ∧ t.toList ≠ [] ∧ t.toList.all pr = true then (⟨#[115, 97, 121, 32]⟩ : ByteArray) ++ t
  else if k = 1 ∧ t.toList = [] ∧ 0 ≤ n ∧ n ≤ 9 then (⟨#[100, 114, 111, 112, 32]⟩ : ByteArray) ++ ⟨(Lib.decDigits n.toNat).toArray⟩
  else if k = 2 ∧ n = 0 ∧ t.toList = [] then ⟨#[98, 97, 99, 107]⟩ else ⟨#[]⟩
theorem nil_iff (t : ByteArray) : t.toList = [] ↔ t.size = 0 := by rw [← tl_len]; exact List.length_eq_zero_iff.symm
theorem backB (k n : Int) (t : ByteArray) : ((k == 2 && (n == 0 && (t.toList == ([] : List UInt8)))) = true) ↔ (k = 2 ∧ n = 0 ∧ t.toList = []) := by simp
theorem digit_len : ∀ d : Fin 10, (Lib.decDigits d.val).length = 1 := fun d => by unfold Lib.decDigits; rw [dif_pos d.isLt]; rfl
theorem iDeed_j1F (k n : Int) (t : ByteArray) : Ev (fun r => impl_deedText.j1 r false k n t) (if k = 2 ∧ n = 0 ∧ t.toList = [] then ⟨#[98, 97, 99, 107]⟩ else ⟨#[]⟩) := by
  refine Ev.step (fun _ => impl_deedText.j1.eq_2 _ _ _ _ _) (ev_neg (by simp) ?_)
  by_cases h : k = 2 ∧ n = 0 ∧ t.toList = []
  · rw [if_pos h]; exact ev_pos ((backB k n t).2 h) (ev_now rfl)
  · rw [if_neg h]; exact ev_neg (fun e => h ((backB k n t).1 e)) (ev_now rfl)
theorem iDeed_j0F (k n : Int) (t : ByteArray) : Ev (fun r => impl_deedText.j0 r false k n t) (if k = 1 ∧ t.toList = [] ∧ 0 ≤ n ∧ n ≤ 9 then (⟨#[100, 114, 111, 112, 32]⟩ : ByteArray) ++ ⟨(Lib.decDigits n.toNat).toArray⟩ else if k = 2 ∧ n = 0 ∧ t.toList = [] then ⟨#[98, 97, 99, 107]⟩ else ⟨#[]⟩) := by
  refine Ev.step (fun _ => impl_deedText.j0.eq_2 _ _ _ _ _) (ev_neg (by simp) ?_)
  by_cases h1 : k = 1
  · refine ev_pos h1 ?_
    by_cases h2 : t.toList = []
    · refine ev_pos h2 ?_
      by_cases h3 : n ≥ 0
      · refine ev_pos h3 ?_
        by_cases h4 : n ≤ 9
        · rw [if_pos ⟨h1, h2, h3, h4⟩, decide_eq_true h4]
          have hd := digit_len ⟨n.toNat, by omega⟩
          refine Ev.step (fun _ => impl_deedText.j1.eq_2 _ _ _ _ _) (ev_pos rfl (ev_bind (a := ⟨(Lib.decDigits n.toNat).toArray⟩) (show (if 0 ≤ n ∧ n < 100 then some (⟨(Lib.decDigits n.toNat).toArray⟩ : ByteArray) else none) = some _ from if_pos ⟨h3, by omega⟩) (ev_pos ?_ (ev_now rfl))))
          show 5 + (Lib.decDigits n.toNat).toArray.size ≤ _
          simp only [List.size_toArray]
          simp only at hd
          omega
        · rw [if_neg (fun e => h4 e.2.2.2), decide_eq_false h4]; exact iDeed_j1F k n t
      · rw [if_neg (fun e => h3 e.2.2.1)]; exact ev_neg h3 (iDeed_j1F k n t)
    · rw [if_neg (fun e => h2 e.2.1)]; exact ev_neg h2 (iDeed_j1F k n t)
  · rw [if_neg (fun e => h1 e.1)]; exact ev_neg h1 (iDeed_j1F k n t)
theorem iDeed (k n : Int) (t : ByteArray) (ht : t.size ≤ 9000000000000000000) : Ev (fun r => impl_deedText.f r k n t) (dB k n t) := by
  unfold impl_deedText.f dB
  by_cases h1 : k = 0
  · refine ev_pos h1 ?_
    by_cases h2 : n = 0
    · refine ev_pos h2 ?_
      by_cases h3 : t.toList = []
      · rw [if_neg (fun e => e.2.2.1 h3)]; exact ev_pos h3 (iDeed_j0F k n t)
      · refine ev_neg h3 (Ev.bind (iPrint t ht) ?_)
        by_cases h4 : t.toList.all pr = true
        · rw [if_pos ⟨h1, h2, h3, h4⟩, h4]
          exact Ev.step (fun _ => impl_deedText.j0.eq_2 _ _ _ _ _) (ev_pos rfl (ev_pos (by omega) (ev_now rfl)))
        · rw [if_neg (fun e => h4 e.2.2.2), Bool.eq_false_iff.mpr h4]; exact iDeed_j0F k n t
    · rw [if_neg (fun e => h2 e.2.1)]; exact ev_neg h2 (iDeed_j0F k n t)
  · rw [if_neg (fun e => h1 e.1)]; exact ev_neg h1 (iDeed_j0F k n t)

/-! pack deed_s: the text of a deed, by the reference -/
theorem s1In (n : Int) : spec_l1In.f n 0 9 = some (decide (0 ≤ n) && decide (n ≤ 9)) := by
  unfold spec_l1In.f
  by_cases h : n ≥ 0
  · rw [if_pos h, decide_eq_true (p := 0 ≤ n) h, Bool.true_and]
  · rw [if_neg h, decide_eq_false (p := 0 ≤ n) h, Bool.false_and]
theorem digit_all : ∀ d : Fin 10, strOfNums [(wrap64 (48 + (d.val : Int))) % 256] = ⟨#[UInt8.ofNat (48 + d.val)]⟩ := by decide +kernel
theorem decDigits_one (d : Nat) (h : d < 10) : Lib.decDigits d = [UInt8.ofNat (48 + d)] := by unfold Lib.decDigits; rw [dif_pos h]
theorem sNum (n : Int) (h0 : 0 ≤ n) (h1 : n ≤ 9) : Ev (fun r => spec_l1Number.f r n) ⟨(Lib.decDigits n.toNat).toArray⟩ := by
  obtain ⟨d, rfl⟩ := Int.eq_ofNat_of_zero_le h0
  refine Ev.step (fun _ => spec_l1Number.f.eq_2 _ _) (ev_pos (by omega) (ev_now ?_))
  rw [Int.toNat_natCast, decDigits_one d (by omega)]
  exact digit_all ⟨d, by omega⟩
theorem sDeed_j1F (k n : Int) (t : ByteArray) : Ev (fun r => spec_DeedText.j1 r false k n t) (if k = 2 ∧ n = 0 ∧ t.toList = [] then ⟨#[98, 97, 99, 107]⟩ else ⟨#[]⟩) := by
  refine Ev.step (fun _ => spec_DeedText.j1.eq_2 _ _ _ _ _) (ev_neg (by simp) ?_)
  by_cases h : k = 2 ∧ n = 0 ∧ t.toList = []
  · rw [if_pos h]; exact ev_pos ((backB k n t).2 h) (ev_now rfl)
  · rw [if_neg h]; exact ev_neg (fun e => h ((backB k n t).1 e)) (ev_now rfl)
theorem sDeed_j0F (k n : Int) (t : ByteArray) : Ev (fun r => spec_DeedText.j0 r false k n t) (if k = 1 ∧ t.toList = [] ∧ 0 ≤ n ∧ n ≤ 9 then (⟨#[100, 114, 111, 112, 32]⟩ : ByteArray) ++ ⟨(Lib.decDigits n.toNat).toArray⟩ else if k = 2 ∧ n = 0 ∧ t.toList = [] then ⟨#[98, 97, 99, 107]⟩ else ⟨#[]⟩) := by
  refine Ev.step (fun _ => spec_DeedText.j0.eq_2 _ _ _ _ _) (ev_neg (by simp) ?_)
  by_cases h1 : k = 1
  · refine ev_pos h1 ?_
    by_cases h2 : t.toList = []
    · refine ev_pos h2 (ev_bind (s1In n) ?_)
      by_cases h3 : 0 ≤ n
      · by_cases h4 : n ≤ 9
        · rw [if_pos ⟨h1, h2, h3, h4⟩, decide_eq_true h3, decide_eq_true h4]
          have hd := digit_len ⟨n.toNat, by omega⟩
          refine Ev.step (fun _ => spec_DeedText.j1.eq_2 _ _ _ _ _) (ev_pos rfl (Ev.bind (sNum n h3 h4) (ev_pos ?_ (ev_now rfl))))
          show 5 + (Lib.decDigits n.toNat).toArray.size ≤ _
          simp only [List.size_toArray]
          simp only at hd
          omega
        · rw [if_neg (fun e => h4 e.2.2.2), decide_eq_false h4, Bool.and_false]; exact sDeed_j1F k n t
      · rw [if_neg (fun e => h3 e.2.2.1), decide_eq_false h3, Bool.false_and]; exact sDeed_j1F k n t
    · rw [if_neg (fun e => h2 e.2.1)]; exact ev_neg h2 (sDeed_j1F k n t)
  · rw [if_neg (fun e => h1 e.1)]; exact ev_neg h1 (sDeed_j1F k n t)
theorem sDeed (k n : Int) (t : ByteArray) (ht : t.size ≤ 9000000000000000000) : Ev (fun r => spec_DeedText.f r k n t) (dB k n t) := by
  unfold spec_DeedText.f dB
  by_cases h1 : k = 0
  · refine ev_pos h1 ?_
    by_cases h2 : n = 0
    · refine ev_pos h2 (Ev.bind (sPlain t ht) ?_)
      by_cases h3 : t.toList = []
      · rw [if_neg (fun e => e.2.2.1 h3), decide_eq_false (p := t.size > 0) (by have := (nil_iff t).1 h3; omega), Bool.and_false]; exact sDeed_j0F k n t
      · rw [decide_eq_true (p := t.size > 0) (by have h5 : t.size ≠ 0 := fun e => h3 ((nil_iff t).2 e); omega), Bool.and_true]
        by_cases h4 : t.toList.all pr = true
        · rw [if_pos ⟨h1, h2, h3, h4⟩, h4]
          exact Ev.step (fun _ => spec_DeedText.j0.eq_2 _ _ _ _ _) (ev_pos rfl (ev_pos (by omega) (ev_now rfl)))
        · rw [if_neg (fun e => h4 e.2.2.2), Bool.eq_false_iff.mpr h4]; exact sDeed_j0F k n t
    · rw [if_neg (fun e => h2 e.2.1)]; exact ev_neg h2 (sDeed_j0F k n t)
  · rw [if_neg (fun e => h1 e.1)]; exact ev_neg h1 (sDeed_j0F k n t)

/-! pack rd: which deed a text tells -/
theorem ba_ext {a b : ByteArray} (h : a.toList = b.toList) : a = b := by
  obtain ⟨⟨x⟩⟩ := a
  obtain ⟨⟨y⟩⟩ := b
  simp [ByteArray.toList_eq] at h
  rw [h]
theorem ba_nil {a : ByteArray} (h : a.toList = []) : a = ⟨#[]⟩ := ba_ext (h.trans (by simp [ByteArray.toList_eq]))
theorem extract_list (s : ByteArray) (a b : Nat) : (s.extract a b).toList = (s.toList.take b).drop a := by
  simp [ByteArray.toList_eq, ByteArray.data_extract, Array.toList_extract, List.extract_eq_take_drop, List.drop_take]
/-- What a text may be the text of: the word ahead of the first space tells it. -/
def candB (s r : ByteArray) (b : Bool) : Int × Int × ByteArray :=
  if b = true then (1, wrap64 (wrap64 (bt r 0) - 48), ⟨#[]⟩) else if s.toList = [98, 97, 99, 107] then (2, 0, ⟨#[]⟩) else (0, 0, ⟨#[]⟩)
def cand (s : ByteArray) : Int × Int × ByteArray :=
  if (Go.Proofs.YtnnaiaiddjkjnaaDoorW.Shelf.cutAt s 32).1.toList = [115, 97, 121] then (0, 0, (Go.Proofs.YtnnaiaiddjkjnaaDoorW.Shelf.cutAt s 32).2.1)
  else candB s (Go.Proofs.YtnnaiaiddjkjnaaDoorW.Shelf.cutAt s 32).2.1 (if (Go.Proofs.YtnnaiaiddjkjnaaDoorW.Shelf.cutAt s 32).1.toList = [100, 114, 111, 112] then ((Go.Proofs.YtnnaiaiddjkjnaaDoorW.Shelf.cutAt s 32).2.1.size : Int) == 1 else false)
theorem cand_say (t : ByteArray) : cand ((⟨#[115, 97, 121, 32]⟩ : ByteArray) ++ t) = (0, 0, t) := by
  obtain ⟨⟨l⟩⟩ := t
  have hi : Lib.indexByte (115 :: 97 :: 121 :: 32 :: l) 32 = 3 := by simp [Lib.indexByte]
  have hd : ((⟨#[115, 97, 121, 32]⟩ : ByteArray) ++ ⟨⟨l⟩⟩).data.toList = 115 :: 97 :: 121 :: 32 :: l := by simp
  have hs : ((⟨#[115, 97, 121, 32]⟩ : ByteArray) ++ ⟨⟨l⟩⟩).size = 4 + l.length := by simp; rfl
  have hc : Go.Proofs.YtnnaiaiddjkjnaaDoorW.Shelf.cutAt ((⟨#[115, 97, 121, 32]⟩ : ByteArray) ++ ⟨⟨l⟩⟩) 32 = (⟨#[115, 97, 121]⟩, ⟨⟨l⟩⟩, true) := by
    unfold Go.Proofs.YtnnaiaiddjkjnaaDoorW.Shelf.cutAt
    rw [hd, hi, if_pos (by omega)]
    refine Prod.ext (ba_ext ?_) (Prod.ext (ba_ext ?_) rfl)
    · rw [extract_list, ByteArray.toList_eq, hd]; simp [ByteArray.toList_eq]
    · rw [extract_list, ByteArray.toList_eq, hd, hs]; simp [ByteArray.toList_eq]; rw [List.take_of_length_le (by simp; omega)]; rfl
  unfold cand
  rw [hc, if_pos (by simp [ByteArray.toList_eq])]
theorem cand_drop : ∀ d : Fin 10, cand ((⟨#[100, 114, 111, 112, 32]⟩ : ByteArray) ++ ⟨(Lib.decDigits d.val).toArray⟩) = (1, (d.val : Int), ⟨#[]⟩) := by
  decide +kernel
theorem cand_back : cand ⟨#[98, 97, 99, 107]⟩ = (2, 0, ⟨#[]⟩) := by decide +kernel
theorem dB_cand (k n : Int) (t s : ByteArray) (h : dB k n t = s) (hs : s.toList ≠ []) : cand s = (k, n, t) := by
  subst h
  unfold dB at hs ⊢
  by_cases h1 : k = 0 ∧ n = 0 ∧ t.toList ≠ [] ∧ t.toList.all pr = true
  · rw [if_pos h1, cand_say, h1.1, h1.2.1]
  · rw [if_neg h1] at hs ⊢
    by_cases h2 : k = 1 ∧ t.toList = [] ∧ 0 ≤ n ∧ n ≤ 9
    · rw [if_pos h2, ba_nil h2.2.1, h2.1]
      have := cand_drop ⟨n.toNat, by omega⟩
      rw [this]
      show (1, (n.toNat : Int), _) = _
      rw [Int.toNat_of_nonneg h2.2.2.1]
    · rw [if_neg h2] at hs ⊢
      by_cases h3 : k = 2 ∧ n = 0 ∧ t.toList = []
      · rw [if_pos h3, cand_back, h3.1, h3.2.1, ba_nil h3.2.2]
      · rw [if_neg h3] at hs; exact absurd (by simp [ByteArray.toList_eq]) hs
/-- The answer, if a deed is the only one that the text may tell. -/
def rdOf (s : ByteArray) (k n : Int) (t : ByteArray) : Int × Int × ByteArray × Bool := if s.toList ≠ [] ∧ dB k n t = s then (k, n, t, true) else (0, 0, ⟨#[]⟩, false)
def rd (s : ByteArray) : Int × Int × ByteArray × Bool := rdOf s (cand s).1 (cand s).2.1 (cand s).2.2
/-- Whatever a text tells has this text, and the other way round. -/
theorem rd_of (k n : Int) (t s : ByteArray) (h : dB k n t = s) (hs : s.toList ≠ []) : rd s = (k, n, t, true) := by
  unfold rd rdOf
  rw [dB_cand k n t s h hs]
  exact if_pos ⟨hs, h⟩
theorem rd_cases (s : ByteArray) : rd s = (0, 0, ⟨#[]⟩, false) ∨ ∃ k n t, rd s = (k, n, t, true) ∧ dB k n t = s ∧ s.toList ≠ [] := by
  unfold rd rdOf
  by_cases h : s.toList ≠ [] ∧ dB (cand s).1 (cand s).2.1 (cand s).2.2 = s
  · rw [if_pos h]; exact .inr ⟨_, _, _, rfl, h.2, h.1⟩
  · rw [if_neg h]; exact .inl rfl
theorem rd_none (s : ByteArray) (h : ∀ k n t, dB k n t = s → s.toList = []) : rd s = (0, 0, ⟨#[]⟩, false) := by
  rcases rd_cases s with h1 | ⟨k, n, t, h1, h2, h3⟩
  · exact h1
  · exact absurd (h k n t h2) h3

/-! pack rd_i: the program's reading of a deed -/
theorem cut_ok (s : ByteArray) (hs : s.size ≤ 9000000000000000000) (c : UInt8) : strings_Cut.f s ⟨#[c]⟩ = some (Go.Proofs.YtnnaiaiddjkjnaaDoorW.Shelf.cutAt s c) := by
  unfold strings_Cut.f
  simp only []
  exact if_pos (by omega)
theorem cut_size (s : ByteArray) (c : UInt8) : (Go.Proofs.YtnnaiaiddjkjnaaDoorW.Shelf.cutAt s c).2.1.size ≤ s.size := by
  rcases Go.Proofs.YtnnaiaiddjkjnaaDoorW.Shelf.cut_cases s c with ⟨_, h⟩ | ⟨i, _, hi, h⟩
  · rw [h]; exact Nat.zero_le _
  · rw [h, ByteArray.size_extract]; omega
theorem iTail (s : ByteArray) (a b : Int) (t : ByteArray) (ht : t.size ≤ 9000000000000000000) :
    Ev (fun k => if s.toList = ([] : List UInt8) then some (0, 0, (⟨#[]⟩ : ByteArray), false) else (impl_deedText.f k a b t).bind fun u => if u.toList = s.toList then some (a, b, t, true) else some (0, 0, (⟨#[]⟩ : ByteArray), false)) (rdOf s a b t) := by
  unfold rdOf
  by_cases h : s.toList = []
  · rw [if_neg (fun e => e.1 h)]; exact ev_pos h (ev_now rfl)
  · refine ev_neg h (Ev.bind (iDeed a b t ht) ?_)
    by_cases h2 : dB a b t = s
    · rw [if_pos (show s.toList ≠ [] ∧ dB a b t = s from ⟨h, h2⟩)]; exact ev_pos (congrArg ByteArray.toList h2) (ev_now rfl)
    · rw [if_neg (fun e : s.toList ≠ [] ∧ dB a b t = s => h2 e.2)]; exact ev_neg (fun e => h2 (ba_ext e)) (ev_now rfl)
theorem iRead_j0 (s r : ByteArray) (b : Bool) (hb : b = true → 0 < (r.size : Int)) : Ev (fun k => impl_readDeed.j0 k s r b 0 0 ⟨#[]⟩) (rdOf s (candB s r b).1 (candB s r b).2.1 (candB s r b).2.2) := by
  refine Ev.step (fun _ => impl_readDeed.j0.eq_2 _ _ _ _ _ _ _) ?_
  unfold candB
  by_cases h2 : b = true
  · rw [if_pos h2]
    exact ev_pos h2 (ev_pos (hb h2) (iTail s 1 _ ⟨#[]⟩ (Nat.zero_le _)))
  · rw [if_neg h2]
    refine ev_neg h2 ?_
    by_cases h3 : s.toList = [98, 97, 99, 107]
    · rw [if_pos h3]; exact ev_pos h3 (iTail s 2 0 ⟨#[]⟩ (Nat.zero_le _))
    · rw [if_neg h3]; exact ev_neg h3 (iTail s 0 0 ⟨#[]⟩ (Nat.zero_le _))
theorem iRead (s : ByteArray) (hs : s.size ≤ 9000000000000000000) : Ev (fun k => impl_readDeed.f k s) (rd s) := by
  unfold impl_readDeed.f rd
  refine ev_bind (cut_ok s hs 32) ?_
  have hz := cut_size s 32
  unfold cand
  generalize Go.Proofs.YtnnaiaiddjkjnaaDoorW.Shelf.cutAt s 32 = c at *
  by_cases h1 : c.1.toList = [115, 97, 121]
  · rw [if_pos h1]; exact ev_pos h1 (iTail s 0 0 c.2.1 (by omega))
  · rw [if_neg h1]
    refine ev_neg h1 ?_
    by_cases h2 : c.1.toList = [100, 114, 111, 112]
    · rw [if_pos h2]; exact ev_pos h2 (iRead_j0 s c.2.1 _ (fun e => by have := eq_of_beq e; omega))
    · rw [if_neg h2]; exact ev_neg h2 (iRead_j0 s c.2.1 false (fun e => by cases e))
theorem iReadDeed (s : ByteArray) (hs : s.size ≤ 9000000000000000000) : Ev (fun k => impl_ReadDeed.f k s) (rd s) := by
  unfold impl_ReadDeed.f
  exact Ev.bind (iRead s hs) (ev_now rfl)

/-! pack rd_s: the reference's reading of a deed -/
theorem rd26_drop (l : List S26) (i : Nat) (h : i < l.length) : l.drop i = rd_T26 l (i : Int) :: l.drop (i + 1) := by
  rw [List.drop_eq_getElem_cons h]
  simp [rd_T26, List.getD_eq_getElem?_getD, List.getElem?_eq_getElem h]
def rdL (s : ByteArray) : List S26 → Int × Int × ByteArray × Bool
  | [] => (0, 0, ⟨#[]⟩, false)
  | x :: r => if s.toList ≠ [] ∧ dB x.f0 x.f1 x.f2 = s then (x.f0, x.f1, x.f2, true) else rdL s r
theorem sRead_l1 (s : ByteArray) (X : List S26) (hX : ∀ x ∈ X, x.f2.size ≤ 9000000000000000000) (hl : X.length ≤ 1000000000) : ∀ r i : Nat, i + r = X.length → Ev (fun k => spec_ReadDeed.l1 k s X (i : Int)) (rdL s (X.drop i))
  | 0, i, h => Ev.step (fun _ => spec_ReadDeed.l1.eq_2 _ _ _ _) (ev_neg (by omega) (ev_now (by rw [List.drop_of_length_le (by omega)]; rfl)))
  | r + 1, i, h => by
    have hd := rd26_drop X i (by omega)
    have hm : rd_T26 X (i : Int) ∈ X := List.mem_of_mem_drop (i := i) (by rw [hd]; exact List.mem_cons_self)
    have ih := sRead_l1 s X hX hl r (i + 1) (by omega)
    refine Ev.step (fun _ => spec_ReadDeed.l1.eq_2 _ _ _ _) (ev_pos (by omega) ?_)
    rw [hd, w64 (by omega) (by omega)]
    unfold rdL
    by_cases h1 : s.toList = []
    · rw [if_neg (fun e => e.1 h1)]; exact ev_pos h1 ih
    · refine ev_neg h1 (ev_pos (by omega) (Ev.bind (sDeed _ _ _ (hX _ hm)) ?_))
      by_cases h2 : dB (rd_T26 X (i : Int)).f0 (rd_T26 X (i : Int)).f1 (rd_T26 X (i : Int)).f2 = s
      · rw [if_pos ⟨h1, h2⟩]; exact ev_pos (by rw [h2]) (ev_now rfl)
      · rw [if_neg (fun e => h2 e.2)]; exact ev_neg (fun e => h2 (ba_ext e)) ih
def drops (i : Nat) : Nat → List S26
  | 0 => []
  | r + 1 => ⟨1, (i : Int), ⟨#[]⟩⟩ :: drops (i + 1) r
theorem drops_mem : ∀ (r i n : Nat), i ≤ n → n < i + r → (⟨1, (n : Int), ⟨#[]⟩⟩ : S26) ∈ drops i r
  | 0, i, n, h, h2 => absurd h2 (by omega)
  | r + 1, i, n, h, h2 => by
    by_cases e : i = n
    · subst e; exact List.mem_cons_self
    · exact List.mem_cons_of_mem _ (drops_mem r (i + 1) n (by omega) (by omega))
theorem drops_size : ∀ (r i : Nat), ∀ x ∈ drops i r, x.f2.size ≤ 9000000000000000000
  | 0, i, x, h => absurd h (by simp [drops])
  | r + 1, i, x, h => by
    rcases List.mem_cons.1 h with rfl | h
    · exact Nat.zero_le _
    · exact drops_size r (i + 1) x h
theorem drops_len : ∀ (r i : Nat), (drops i r).length = r
  | 0, i => rfl
  | r + 1, i => by show (drops (i + 1) r).length + 1 = r + 1; rw [drops_len r (i + 1)]
theorem sRead_l0 (s : ByteArray) : ∀ (r i : Nat) (X : List S26), (∀ x ∈ X, x.f2.size ≤ 9000000000000000000) → X.length + r ≤ 1000000 → i + r = 10 → Ev (fun k => spec_ReadDeed.l0 k s X (i : Int)) (rdL s (X ++ drops i r))
  | 0, i, X, hX, hl, h => by
    refine Ev.step (fun _ => spec_ReadDeed.l0.eq_2 _ _ _ _) (ev_neg (by omega) ?_)
    have := sRead_l1 s X hX (by omega) X.length 0 (by omega)
    exact ev_eq (by show _ = rdL s (X ++ []); rw [List.append_nil, List.drop_zero]) this
  | r + 1, i, X, hX, hl, h => by
    refine Ev.step (fun _ => spec_ReadDeed.l0.eq_2 _ _ _ _) (ev_pos (by omega) (ev_pos (by omega) ?_))
    rw [w64 (by omega) (by omega)]
    refine ev_eq ?_ (sRead_l0 s r (i + 1) (X ++ [⟨1, (i : Int), ⟨#[]⟩⟩]) (fun x hx => ?_) (by simp; omega) (by omega))
    · rw [List.append_assoc]; rfl
    · rcases List.mem_append.1 hx with hx | hx
      · exact hX x hx
      · rw [List.mem_singleton.1 hx]; exact Nat.zero_le _
theorem rdL_none (s : ByteArray) : ∀ X : List S26, (∀ x ∈ X, ¬(s.toList ≠ [] ∧ dB x.f0 x.f1 x.f2 = s)) → rdL s X = (0, 0, ⟨#[]⟩, false)
  | [], _ => rfl
  | x :: r, h => by
    unfold rdL
    rw [if_neg (h x List.mem_cons_self)]
    exact rdL_none s r (fun y hy => h y (List.mem_cons_of_mem _ hy))
theorem rdL_some (s : ByteArray) (k n : Int) (t : ByteArray) (hs : s.toList ≠ []) (hd : dB k n t = s) : ∀ X : List S26, (⟨k, n, t⟩ : S26) ∈ X → rdL s X = (k, n, t, true)
  | [], h => absurd h (by simp)
  | x :: r, h => by
    unfold rdL
    by_cases h1 : s.toList ≠ [] ∧ dB x.f0 x.f1 x.f2 = s
    · rw [if_pos h1]
      have e := (dB_cand _ _ _ s h1.2 hs).symm.trans (dB_cand k n t s hd hs)
      simp only [Prod.mk.injEq] at e
      rw [e.1, e.2.1, e.2.2]
    · rw [if_neg h1]
      rcases List.mem_cons.1 h with e | h
      · subst e; exact absurd ⟨hs, hd⟩ h1
      · exact rdL_some s k n t hs hd r h
theorem rdL_rd (s : ByteArray) (X : List S26) (h : ∀ k n t, dB k n t = s → s.toList ≠ [] → (⟨k, n, t⟩ : S26) ∈ X) : rdL s X = rd s := by
  rcases rd_cases s with e | ⟨k, n, t, e, hd, hs⟩
  · rw [e]
    refine rdL_none s X (fun x _ hx => ?_)
    have := rd_of _ _ _ s hx.2 hx.1
    rw [e] at this
    simp at this
  · rw [e]; exact rdL_some s k n t hs hd X (h k n t hd hs)
theorem say_len (t : ByteArray) : ((⟨#[115, 97, 121, 32]⟩ : ByteArray) ++ t).size = 4 + t.size := by rw [ByteArray.size_append]; rfl
theorem say_rest (t : ByteArray) : ((⟨#[115, 97, 121, 32]⟩ : ByteArray) ++ t).extract 4 ((⟨#[115, 97, 121, 32]⟩ : ByteArray) ++ t).size = t := by
  refine ba_ext ?_
  rw [extract_list, List.take_of_length_le (by rw [tl_len]; omega)]
  simp [ByteArray.toList_eq]
theorem sReadDeed (s : ByteArray) (hs : s.size ≤ 9000000000000000000) : Ev (fun k => spec_ReadDeed.f k s) (rd s) := by
  unfold spec_ReadDeed.f
  refine ev_bind rfl ?_
  have hdrop : ∀ n : Int, 0 ≤ n → n ≤ 9 → (⟨1, n, ⟨#[]⟩⟩ : S26) ∈ drops 0 10 := fun n h0 h9 => by
    obtain ⟨d, rfl⟩ := Int.eq_ofNat_of_zero_le h0
    exact drops_mem 10 0 d (by omega) (by omega)
  by_cases h : (s.size : Int) > 4
  · refine ev_pos h (ev_pos (by omega) (ev_pos (by decide) (Ev.step (fun _ => spec_ReadDeed.j0.eq_2 _ _ _) (ev_eq (rdL_rd s _ ?_) (sRead_l0 s 10 0 _ ?_ (by simp) rfl)))))
    · intro k n t hd hne
      unfold dB at hd
      by_cases h1 : k = 0 ∧ n = 0 ∧ t.toList ≠ [] ∧ t.toList.all pr = true
      · rw [if_pos h1] at hd
        subst hd
        rw [say_rest, h1.1, h1.2.1]
        simp
      · rw [if_neg h1] at hd
        by_cases h2 : k = 1 ∧ t.toList = [] ∧ 0 ≤ n ∧ n ≤ 9
        · rw [h2.1, ba_nil h2.2.1]; exact List.mem_append_right _ (hdrop n h2.2.2.1 h2.2.2.2)
        · rw [if_neg h2] at hd
          by_cases h3 : k = 2 ∧ n = 0 ∧ t.toList = []
          · rw [h3.1, h3.2.1, ba_nil h3.2.2]; simp
          · rw [if_neg h3] at hd; subst hd; exact absurd (by simp [ByteArray.toList_eq]) hne
    · intro x hx
      simp at hx
      rcases hx with rfl | rfl
      · exact Nat.zero_le _
      · show (s.extract 4 s.size).size ≤ _; rw [ByteArray.size_extract]; omega
  · refine ev_neg h (Ev.step (fun _ => spec_ReadDeed.j0.eq_2 _ _ _) (ev_eq (rdL_rd s _ ?_) (sRead_l0 s 10 0 _ ?_ (by simp) rfl)))
    · intro k n t hd hne
      unfold dB at hd
      by_cases h1 : k = 0 ∧ n = 0 ∧ t.toList ≠ [] ∧ t.toList.all pr = true
      · rw [if_pos h1] at hd
        have h5 : t.size ≠ 0 := fun e => h1.2.2.1 ((nil_iff t).2 e)
        rw [← hd, say_len] at h
        omega
      · rw [if_neg h1] at hd
        by_cases h2 : k = 1 ∧ t.toList = [] ∧ 0 ≤ n ∧ n ≤ 9
        · rw [h2.1, ba_nil h2.2.1]; exact List.mem_append_right _ (hdrop n h2.2.2.1 h2.2.2.2)
        · rw [if_neg h2] at hd
          by_cases h3 : k = 2 ∧ n = 0 ∧ t.toList = []
          · rw [h3.1, h3.2.1, ba_nil h3.2.2]; simp
          · rw [if_neg h3] at hd; subst hd; exact absurd (by simp [ByteArray.toList_eq]) hne
    · intro x hx
      simp at hx
      rw [hx]; exact Nat.zero_le _

theorem eqDeed_self (k n : Int) (t : ByteArray) : laws_eqDeed.f k n t k n t = some true := by
  unfold laws_eqDeed.f
  rw [if_pos rfl, if_pos rfl, if_pos rfl]
theorem FnExactReadDeed : laws_FnExactReadDeed.Pure := fun s hs => by
  refine Ev.rounds (g := fun k => laws_FnExactReadDeed.f k s) ?_
  unfold laws_FnExactReadDeed.f
  by_cases h : (s.size : Int) > 1048576
  · exact ev_pos h (ev_now rfl)
  · exact ev_neg h (Ev.bind (sReadDeed s (by omega)) (Ev.bind (iReadDeed s (by omega)) (ev_bind (eqDeed_self _ _ _) (ev_pos rfl (ev_neg (by simp) (ev_now rfl))))))

end Go.Proofs.YtnnaiaiddjkjnaaDoor.Pure
