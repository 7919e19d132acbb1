/- For every list of deeds the program's JournalText gives the reference's text and leaves the list as it was; no condition. -/
import Derived.Test.YtnnaiaiddjkjnaaDoorRows
import Derived.Test.YtnnaiaiddjkjnaaDoorPFnExactJournalTextx
import Derived.WalkKit
import Derived.ProofKit
import Derived.OpenShut
import Derived.ShutString
import Derived.ChangeOld
import Derived.ChangeSame
import Derived.Below
import Derived.SizedLaws
import Derived.LaidMore
import Derived.Stop.Joined
import Derived.SevenTiedAt
import Derived.Test.YtnnaiaiddjkjnaaDoorTie
import Derived.Test.YtnnaiaiddjkjnaaDoorCards
import Derived.Lib.SmallJoins
import Derived.Deep.Slices
import Derived.Deep.Fields
namespace Go.Proofs.YtnnaiaiddjkjnaaDoor.Pure
open Go.RowKit Go.Proofs.YtnnaiaiddjkjnaaDoor.PFnExactJournalText Go.Proofs.YtnnaiaiddjkjnaaDoorW.PrintWords Go.Proofs.YtnnaiaiddjkjnaaDoorW.PrintLast
set_option linter.unusedVariables false
set_option linter.unusedSimpArgs false
/-! pack arith: numbers that do not wrap, and steps of 'from some number of rounds on' -/
theorem w64 {n : Int} (h0 : -9223372036854775808 ≤ n) (h1 : n ≤ 9223372036854775807) : wrap64 n = n := by unfold wrap64; omega
theorem ev_pos {α : Type} {c : Prop} [Decidable c] {a b : Nat → Option α} {r : α} (h : c) (H : Ev a r) : Ev (fun k => if c then a k else b k) r :=
  Ev.congr (fun _ => if_pos h) H
theorem ev_neg {α : Type} {c : Prop} [Decidable c] {a b : Nat → Option α} {r : α} (h : ¬ c) (H : Ev b r) : Ev (fun k => if c then a k else b k) r :=
  Ev.congr (fun _ => if_neg h) H
theorem ev_now {α : Type} {a r : α} (h : a = r) : Ev (fun _ => some a) r := h ▸ Ev.now a
theorem ev_of {α : Type} {o : Option α} {r : α} (h : o = some r) : Ev (fun _ => o) r := ⟨0, fun _ _ => h⟩
theorem ev_bind {α β : Type} {o : Option α} {f : Nat → α → Option β} {a : α} {r : β} (h : o = some a) (k : Ev (fun n => f n a) r) : Ev (fun n => o.bind (f n)) r :=
  Ev.congr (fun n => by rw [h]; rfl) k
theorem ev_eq {α : Type} {g : Nat → Option α} {r r' : α} (h : r = r') (k : Ev g r) : Ev g r' := h ▸ k

/-! pack deed: the text of a deed -/
theorem tl (b : ByteArray) : b.toList = b.data.toList := ByteArray.toList_eq b
def pr (b : UInt8) : Bool := decide (32 ≤ b.toNat) && decide (b.toNat ≤ 126)
theorem bt_drop (s : ByteArray) (i : Nat) (h : i < s.size) : ∃ b : UInt8, s.toList.drop i = b :: s.toList.drop (i + 1) ∧ bt s (i : Int) = (b.toNat : Int) := by
  rw [tl]
  have hl : i < s.data.toList.length := by simpa using h
  refine ⟨s.data.toList[i], List.drop_eq_getElem_cons hl, ?_⟩
  unfold bt
  rw [dif_pos (by simpa using h)]
  simp only [Int.toNat_natCast]
  rfl
theorem tl_len (s : ByteArray) : s.toList.length = s.size := by rw [tl]; simp
theorem iPrint_l0 (s : ByteArray) (hs : s.size ≤ 9000000000000000000) : ∀ r i : Nat, i + r = s.size → Ev (fun k => impl_isPrintable.l0 k s (s.size : Int) (i : Int)) ((s.toList.drop i).all pr)
  | 0, i, h => Ev.step (fun _ => impl_isPrintable.l0.eq_2 _ _ _ _) (ev_neg (by omega) (ev_now (by rw [List.drop_of_length_le (by rw [tl_len]; omega)]; rfl)))
  | r + 1, i, h => by
    obtain ⟨b, hb, hv⟩ := bt_drop s i (by omega)
    refine Ev.step (fun _ => impl_isPrintable.l0.eq_2 _ _ _ _) (ev_pos (by omega) (ev_pos (by omega) (ev_pos (by omega) ?_)))
    rw [hb, List.all_cons, hv]
    by_cases h1 : (b.toNat : Int) < 32
    · rw [show pr b = false by unfold pr; rw [decide_eq_false (by omega)]; rfl]; exact ev_pos h1 (ev_now rfl)
    · by_cases h2 : (b.toNat : Int) > 126
      · rw [show pr b = false by unfold pr; rw [decide_eq_false (p := b.toNat ≤ 126) (by omega), Bool.and_false]]; exact ev_neg h1 (ev_pos h2 (ev_now rfl))
      · rw [show pr b = true by unfold pr; rw [decide_eq_true (p := 32 ≤ b.toNat) (by omega), decide_eq_true (p := b.toNat ≤ 126) (by omega)]; rfl, Bool.true_and]
        refine ev_neg h1 (ev_neg h2 ?_)
        rw [w64 (by omega) (by omega)]
        exact iPrint_l0 s hs r (i + 1) (by omega)
theorem iPrint (s : ByteArray) (hs : s.size ≤ 9000000000000000000) : Ev (fun k => impl_isPrintable.f k s) (s.toList.all pr) := iPrint_l0 s hs s.size 0 (by omega)
theorem sPlain_l0 (s : ByteArray) (hs : s.size ≤ 9000000000000000000) : ∀ r i : Nat, i + r = s.size → Ev (fun k => spec_l9Plain.l0 k s (i : Int)) ((s.toList.drop i).all pr && decide (s.size > 0))
  | 0, i, h => Ev.step (fun _ => spec_l9Plain.l0.eq_2 _ _ _) (ev_neg (by omega) (ev_now (by rw [List.drop_of_length_le (by rw [tl_len]; omega)]; simp)))
  | r + 1, i, h => by
    obtain ⟨b, hb, hv⟩ := bt_drop s i (by omega)
    refine Ev.step (fun _ => spec_l9Plain.l0.eq_2 _ _ _) (ev_pos (by omega) (ev_pos (by omega) ?_))
    rw [hb, List.all_cons, hv]
    by_cases h1 : (b.toNat : Int) < 32
    · rw [show pr b = false by unfold pr; rw [decide_eq_false (by omega)]; rfl]; exact ev_pos h1 (ev_now rfl)
    · by_cases h2 : (b.toNat : Int) > 126
      · rw [show pr b = false by unfold pr; rw [decide_eq_false (p := b.toNat ≤ 126) (by omega), Bool.and_false]]; exact ev_neg h1 (ev_pos h2 (ev_now rfl))
      · rw [show pr b = true by unfold pr; rw [decide_eq_true (p := 32 ≤ b.toNat) (by omega), decide_eq_true (p := b.toNat ≤ 126) (by omega)]; rfl, Bool.true_and]
        refine ev_neg h1 (ev_neg h2 ?_)
        rw [w64 (by omega) (by omega)]
        exact sPlain_l0 s hs r (i + 1) (by omega)
theorem sPlain (s : ByteArray) (hs : s.size ≤ 9000000000000000000) : Ev (fun k => spec_l9Plain.f k s) (s.toList.all pr && decide (s.size > 0)) := sPlain_l0 s hs s.size 0 (by omega)
/-- The text of a deed. -/
def dB (k n : Int) (t : ByteArray) : ByteArray :=
  if k = 0 ∧ n = 0 ∧ t.toList ≠ [] ∧ t.toList.all pr = true then (⟨#[115, 97, 121, 32]⟩ : ByteArray) ++ t
  else if k = 1 ∧ t.toList = [] ∧ 0 ≤ n ∧ n ≤ 9 then (⟨#[100, 114, 111, 112, 32]⟩ : ByteArray) ++ ⟨(Lib.decDigits n.toNat).toArray⟩
  else if k = 2 ∧ n = 0 ∧ t.toList = [] then ⟨#[98, 97, 99, 107]⟩ else ⟨#[]⟩
theorem nil_iff (t : ByteArray) : t.toList = [] ↔ t.size = 0 := by rw [← tl_len]; exact List.length_eq_zero_iff.symm
theorem backB (k n : Int) (t : ByteArray) : ((k == 2 && (n == 0 && (t.toList == ([] : List UInt8)))) = true) ↔ (k = 2 ∧ n = 0 ∧ t.toList = []) := by simp
theorem digit_len : ∀ d : Fin 10, (Lib.decDigits d.val).length = 1 := fun d => by unfold Lib.decDigits; rw [dif_pos d.isLt]; rfl
theorem iDeed_j1F (k n : Int) (t : ByteArray) : Ev (fun r => impl_deedText.j1 r false k n t) (if k = 2 ∧ n = 0 ∧ t.toList = [] then ⟨#[98, 97, 99, 107]⟩ else ⟨#[]⟩) := by
  refine Ev.step (fun _ => impl_deedText.j1.eq_2 _ _ _ _ _) (ev_neg (by simp) ?_)
  by_cases h : k = 2 ∧ n = 0 ∧ t.toList = []
  · rw [if_pos h]; exact ev_pos ((backB k n t).2 h) (ev_now rfl)
  · rw [if_neg h]; exact ev_neg (fun e => h ((backB k n t).1 e)) (ev_now rfl)
theorem iDeed_j0F (k n : Int) (t : ByteArray) : Ev (fun r => impl_deedText.j0 r false k n t) (if k = 1 ∧ t.toList = [] ∧ 0 ≤ n ∧ n ≤ 9 then (⟨#[100, 114, 111, 112, 32]⟩ : ByteArray) ++ ⟨(Lib.decDigits n.toNat).toArray⟩ else if k = 2 ∧ n = 0 ∧ t.toList = [] then ⟨#[98, 97, 99, 107]⟩ else ⟨#[]⟩) := by
  refine Ev.step (fun _ => impl_deedText.j0.eq_2 _ _ _ _ _) (ev_neg (by simp) ?_)
  by_cases h1 : k = 1
  · refine ev_pos h1 ?_
    by_cases h2 : t.toList = []
    · refine ev_pos h2 ?_
      by_cases h3 : n ≥ 0
      · refine ev_pos h3 ?_
        by_cases h4 : n ≤ 9
        · rw [if_pos ⟨h1, h2, h3, h4⟩, decide_eq_true h4]
          have hd := digit_len ⟨n.toNat, by omega⟩
          refine Ev.step (fun _ => impl_deedText.j1.eq_2 _ _ _ _ _) (ev_pos rfl (ev_bind (a := ⟨(Lib.decDigits n.toNat).toArray⟩) (show (if 0 ≤ n ∧ n < 100 then some (⟨(Lib.decDigits n.toNat).toArray⟩ : ByteArray) else none) = some _ from if_pos ⟨h3, by omega⟩) (ev_pos ?_ (ev_now rfl))))
          show 5 + (Lib.decDigits n.toNat).toArray.size ≤ _
          simp only [List.size_toArray]
          simp only at hd
          omega
        · rw [if_neg (fun e => h4 e.2.2.2), decide_eq_false h4]; exact iDeed_j1F k n t
      · rw [if_neg (fun e => h3 e.2.2.1)]; exact ev_neg h3 (iDeed_j1F k n t)
    · rw [if_neg (fun e => h2 e.2.1)]; exact ev_neg h2 (iDeed_j1F k n t)
  · rw [if_neg (fun e => h1 e.1)]; exact ev_neg h1 (iDeed_j1F k n t)
theorem iDeed (k n : Int) (t : ByteArray) (ht : t.size ≤ 9000000000000000000) : Ev (fun r => impl_deedText.f r k n t) (dB k n t) := by
  unfold impl_deedText.f dB
  by_cases h1 : k = 0
  · refine ev_pos h1 ?_
    by_cases h2 : n = 0
    · refine ev_pos h2 ?_
      by_cases h3 : t.toList = []
      · rw [if_neg (fun e => e.2.2.1 h3)]; exact ev_pos h3 (iDeed_j0F k n t)
      · refine ev_neg h3 (Ev.bind (iPrint t ht) ?_)
        by_cases h4 : t.toList.all pr = true
        · rw [if_pos ⟨h1, h2, h3, h4⟩, h4]
          exact Ev.step (fun _ => impl_deedText.j0.eq_2 _ _ _ _ _) (ev_pos rfl (ev_pos (by omega) (ev_now rfl)))
        · rw [if_neg (fun e => h4 e.2.2.2), Bool.eq_false_iff.mpr h4]; exact iDeed_j0F k n t
    · rw [if_neg (fun e => h2 e.2.1)]; exact ev_neg h2 (iDeed_j0F k n t)
  · rw [if_neg (fun e => h1 e.1)]; exact ev_neg h1 (iDeed_j0F k n t)

/-! pack deed_s: the text of a deed, by the reference -/
theorem s1In (n : Int) : spec_l1In.f n 0 9 = some (decide (0 ≤ n) && decide (n ≤ 9)) := by
  unfold spec_l1In.f
  by_cases h : n ≥ 0
  · rw [if_pos h, decide_eq_true (p := 0 ≤ n) h, Bool.true_and]
  · rw [if_neg h, decide_eq_false (p := 0 ≤ n) h, Bool.false_and]
theorem digit_all : ∀ d : Fin 10, strOfNums [(wrap64 (48 + (d.val : Int))) % 256] = ⟨#[UInt8.ofNat (48 + d.val)]⟩ := by decide +kernel
theorem decDigits_one (d : Nat) (h : d < 10) : Lib.decDigits d = [UInt8.ofNat (48 + d)] := by unfold Lib.decDigits; rw [dif_pos h]
theorem sNum (n : Int) (h0 : 0 ≤ n) (h1 : n ≤ 9) : Ev (fun r => spec_l1Number.f r n) ⟨(Lib.decDigits n.toNat).toArray⟩ := by
  obtain ⟨d, rfl⟩ := Int.eq_ofNat_of_zero_le h0
  refine Ev.step (fun _ => spec_l1Number.f.eq_2 _ _) (ev_pos (by omega) (ev_now ?_))
  rw [Int.toNat_natCast, decDigits_one d (by omega)]
  exact digit_all ⟨d, by omega⟩
theorem sDeed_j1F (k n : Int) (t : ByteArray) : Ev (fun r => spec_DeedText.j1 r false k n t) (if k = 2 ∧ n = 0 ∧ t.toList = [] then ⟨#[98, 97, 99, 107]⟩ else ⟨#[]⟩) := by
  refine Ev.step (fun _ => spec_DeedText.j1.eq_2 _ _ _ _ _) (ev_neg (by simp) ?_)
  by_cases h : k = 2 ∧ n = 0 ∧ t.toList = []
  · rw [if_pos h]; exact ev_pos ((backB k n t).2 h) (ev_now rfl)
  · rw [if_neg h]; exact ev_neg (fun e => h ((backB k n t).1 e)) (ev_now rfl)
theorem sDeed_j0F (k n : Int) (t : ByteArray) : Ev (fun r => spec_DeedText.j0 r false k n t) (if k = 1 ∧ t.toList = [] ∧ 0 ≤ n ∧ n ≤ 9 then (⟨#[100, 114, 111, 112, 32]⟩ : ByteArray) ++ ⟨(Lib.decDigits n.toNat).toArray⟩ else if k = 2 ∧ n = 0 ∧ t.toList = [] then ⟨#[98, 97, 99, 107]⟩ else ⟨#[]⟩) := by
  refine Ev.step (fun _ => spec_DeedText.j0.eq_2 _ _ _ _ _) (ev_neg (by simp) ?_)
  by_cases h1 : k = 1
  · refine ev_pos h1 ?_
    by_cases h2 : t.toList = []
    · refine ev_pos h2 (ev_bind (s1In n) ?_)
      by_cases h3 : 0 ≤ n
      · by_cases h4 : n ≤ 9
        · rw [if_pos ⟨h1, h2, h3, h4⟩, decide_eq_true h3, decide_eq_true h4]
          have hd := digit_len ⟨n.toNat, by omega⟩
          refine Ev.step (fun _ => spec_DeedText.j1.eq_2 _ _ _ _ _) (ev_pos rfl (Ev.bind (sNum n h3 h4) (ev_pos ?_ (ev_now rfl))))
          show 5 + (Lib.decDigits n.toNat).toArray.size ≤ _
          simp only [List.size_toArray]
          simp only at hd
          omega
        · rw [if_neg (fun e => h4 e.2.2.2), decide_eq_false h4, Bool.and_false]; exact sDeed_j1F k n t
      · rw [if_neg (fun e => h3 e.2.2.1), decide_eq_false h3, Bool.false_and]; exact sDeed_j1F k n t
    · rw [if_neg (fun e => h2 e.2.1)]; exact ev_neg h2 (sDeed_j1F k n t)
  · rw [if_neg (fun e => h1 e.1)]; exact ev_neg h1 (sDeed_j1F k n t)
theorem sDeed (k n : Int) (t : ByteArray) (ht : t.size ≤ 9000000000000000000) : Ev (fun r => spec_DeedText.f r k n t) (dB k n t) := by
  unfold spec_DeedText.f dB
  by_cases h1 : k = 0
  · refine ev_pos h1 ?_
    by_cases h2 : n = 0
    · refine ev_pos h2 (Ev.bind (sPlain t ht) ?_)
      by_cases h3 : t.toList = []
      · rw [if_neg (fun e => e.2.2.1 h3), decide_eq_false (p := t.size > 0) (by have := (nil_iff t).1 h3; omega), Bool.and_false]; exact sDeed_j0F k n t
      · rw [decide_eq_true (p := t.size > 0) (by have h5 : t.size ≠ 0 := fun e => h3 ((nil_iff t).2 e); omega), Bool.and_true]
        by_cases h4 : t.toList.all pr = true
        · rw [if_pos ⟨h1, h2, h3, h4⟩, h4]
          exact Ev.step (fun _ => spec_DeedText.j0.eq_2 _ _ _ _ _) (ev_pos rfl (ev_pos (by omega) (ev_now rfl)))
        · rw [if_neg (fun e => h4 e.2.2.2), Bool.eq_false_iff.mpr h4]; exact sDeed_j0F k n t
    · rw [if_neg (fun e => h2 e.2.1)]; exact ev_neg h2 (sDeed_j0F k n t)
  · rw [if_neg (fun e => h1 e.1)]; exact ev_neg h1 (sDeed_j0F k n t)

theorem rd26_drop (l : List S26) (i : Nat) (h : i < l.length) : l.drop i = rd_T26 l (i : Int) :: l.drop (i + 1) := by
  rw [List.drop_eq_getElem_cons h]
  simp [rd_T26, List.getD_eq_getElem?_getD, List.getElem?_eq_getElem h]

/-! pack todeed: a law's deeds turned into the program's, and their size -/
def cD (x : S23) : S26 := ⟨x.f0, x.f1, x.f2⟩
theorem rd23_drop (l : List S23) (i : Nat) (h : i < l.length) : l.drop i = rd_T23 l (i : Int) :: l.drop (i + 1) := by
  rw [List.drop_eq_getElem_cons h]
  simp [rd_T23, List.getD_eq_getElem?_getD, List.getElem?_eq_getElem h]
theorem take_set {α : Type} (v : α) : ∀ (l : List α) (i : Nat), i < l.length → (l.set i v).take (i + 1) = l.take i ++ [v]
  | [], i, h => absurd h (by simp)
  | x :: r, 0, h => by simp
  | x :: r, i + 1, h => by simp [take_set v r i (by simpa using h)]
theorem toDeedS_l0 (N : List S23) (hN : N.length ≤ 1000000000) : ∀ (r i : Nat) (acc : List S26), i + r = N.length → acc.length = N.length → Ev (fun k => laws_toDeedS.l0 k N acc (i : Int)) (acc.take i ++ (N.drop i).map cD)
  | 0, i, acc, h, ha => by
    rw [List.drop_of_length_le (by omega), List.take_of_length_le (by omega)]
    exact Ev.step (fun _ => laws_toDeedS.l0.eq_2 _ _ _ _) (ev_neg (by omega) (ev_now (by simp)))
  | r + 1, i, acc, h, ha => by
    refine Ev.step (fun _ => laws_toDeedS.l0.eq_2 _ _ _ _) (ev_pos (by omega) (ev_pos (by omega) (ev_bind (a := ((rd_T23 N (i : Int)).f0, (rd_T23 N (i : Int)).f1, (rd_T23 N (i : Int)).f2)) rfl (ev_pos (by omega) ?_))))
    rw [w64 (by omega) (by omega), Int.toNat_natCast]
    refine ev_eq ?_ (toDeedS_l0 N hN r (i + 1) _ (by omega) (by rw [List.length_set]; exact ha))
    rw [take_set _ _ _ (by omega), rd23_drop N i (by omega), List.map_cons, List.append_assoc]
    rfl
theorem toDeedS_ok (N : List S23) (hN : N.length ≤ 1000000000) : Ev (fun k => laws_toDeedS.f k N) (N.map cD) := by
  unfold laws_toDeedS.f
  refine ev_pos (by omega) (ev_pos (by omega) ?_)
  rw [Int.toNat_natCast]
  exact ev_eq (by simp) (toDeedS_l0 N hN N.length 0 _ (by omega) (by simp))
/-- How many bytes the texts of deeds have. -/
def wD : List S23 → Nat
  | [] => 0
  | x :: r => x.f2.size + wD r
theorem szDeedS_l0 (N : List S23) (hN : N.length ≤ 1000000000) (hb : ∀ x ∈ N, x.f2.size ≤ maxLen) : ∀ (r i : Nat) (v : Int), i + r = N.length → 0 ≤ v → v ≤ 1048576 → ∃ u, Ev (fun k => laws_szDeedS.l0 k N v (i : Int)) u ∧ (u < 0 ∨ (wD (N.drop i) : Int) ≤ v)
  | 0, i, v, h, h0, h1 => by
    rw [List.drop_of_length_le (by omega)]
    exact ⟨v, Ev.step (fun _ => laws_szDeedS.l0.eq_2 _ _ _ _) (ev_neg (by omega) (ev_now rfl)), .inr h0⟩
  | r + 1, i, v, h, h0, h1 => by
    have hm : maxLen ≤ 9223372036854775807 := by decide
    have hd := rd23_drop N i (by omega)
    have hz := hb _ (List.mem_of_mem_drop (i := i) (by rw [hd]; exact List.mem_cons_self))
    rw [hd]
    show ∃ u, _ ∧ (u < 0 ∨ (((rd_T23 N (i : Int)).f2.size + wD (N.drop (i + 1)) : Nat) : Int) ≤ v)
    have e : ∀ k, laws_szDeedS.l0 (k + 1) N v (i : Int) = _ := fun k => laws_szDeedS.l0.eq_2 _ _ _ _
    by_cases hn : v - ((rd_T23 N (i : Int)).f2.size : Int) < 0
    · refine ⟨-1, Ev.step e (ev_pos (by omega) (ev_pos (by omega) (ev_bind (a := -1) ?_ (ev_pos (by omega) (ev_now rfl))))), .inl (by omega)⟩
      unfold laws_szDeed.f
      rw [w64 (by omega) (by omega), if_pos hn]
    · obtain ⟨u, hu, hc⟩ := szDeedS_l0 N hN hb r (i + 1) (v - ((rd_T23 N (i : Int)).f2.size : Int)) (by omega) (by omega) (by omega)
      refine ⟨u, Ev.step e (ev_pos (by omega) (ev_pos (by omega) (ev_bind (a := v - ((rd_T23 N (i : Int)).f2.size : Int)) ?_ (ev_neg hn ?_)))), ?_⟩
      · unfold laws_szDeed.f
        rw [w64 (by omega) (by omega), if_neg hn]
      · rw [w64 (by omega) (by omega)]; exact hu
      · rcases hc with hc | hc
        · exact .inl hc
        · right; omega
theorem szDeedS_ok (N : List S23) (hN : N.length ≤ maxLen) (hb : ∀ x ∈ N, x.f2.size ≤ maxLen) : ∃ u, Ev (fun k => laws_szDeedS.f k N 1048576) u ∧ (u < 0 ∨ (N.length ≤ 1048576 ∧ wD N ≤ 1048576)) := by
  have hm : maxLen ≤ 9223372036854775807 := by decide
  unfold laws_szDeedS.f
  rw [w64 (n := 1048576 - (N.length : Int)) (by omega) (by omega)]
  by_cases h : (1048576 : Int) - (N.length : Int) < 0
  · exact ⟨-1, ev_pos h (ev_now rfl), .inl (by omega)⟩
  · obtain ⟨u, hu, hc⟩ := szDeedS_l0 N (by omega) hb N.length 0 (1048576 - (N.length : Int)) (by omega) (by omega) (by omega)
    refine ⟨u, ev_neg h hu, ?_⟩
    rcases hc with hc | hc
    · exact .inl hc
    · right; rw [List.drop_zero] at hc; omega
/-- How many bytes the texts of deeds have, by the program's kind. -/
def wd : List S26 → Nat
  | [] => 0
  | x :: r => x.f2.size + wd r
theorem wd_map : ∀ N : List S23, wd (N.map cD) = wD N
  | [] => rfl
  | x :: r => by show x.f2.size + wd (r.map cD) = x.f2.size + wD r; rw [wd_map r]
theorem wd_mem : ∀ (L : List S26), ∀ x ∈ L, x.f2.size ≤ wd L
  | [], x, h => absurd h (by simp)
  | y :: r, x, h => by
    show x.f2.size ≤ y.f2.size + wd r
    rcases List.mem_cons.1 h with rfl | h
    · omega
    · have := wd_mem r x h; omega

/-! pack eqdeeds: deeds compared with themselves -/
theorem eqDeed_self (k n : Int) (t : ByteArray) : laws_eqDeed.f k n t k n t = some true := by
  unfold laws_eqDeed.f
  rw [if_pos rfl, if_pos rfl, if_pos rfl]
theorem eqDeedS_l0 (L : List S26) (hl : L.length ≤ 1000000000) : ∀ (r i : Nat), i + r = L.length → Ev (fun k => laws_eqDeedS.l0 k L L (i : Int)) true
  | 0, i, h => Ev.step (fun _ => laws_eqDeedS.l0.eq_2 _ _ _ _) (ev_neg (by omega) (ev_now rfl))
  | r + 1, i, h => by
    refine Ev.step (fun _ => laws_eqDeedS.l0.eq_2 _ _ _ _) (ev_pos (by omega) (ev_pos (by omega) (ev_pos (by omega) (ev_bind (eqDeed_self _ _ _) (ev_pos rfl ?_)))))
    rw [w64 (by omega) (by omega)]
    exact eqDeedS_l0 L hl r (i + 1) (by omega)
theorem eqDeedS_self (L : List S26) (hl : L.length ≤ 1000000000) : Ev (fun k => laws_eqDeedS.f k L L) true := by
  unfold laws_eqDeedS.f
  exact ev_pos rfl (eqDeedS_l0 L hl L.length 0 (by omega))

/-! pack journal: the text of a journal -/
theorem dB_size (k n : Int) (t : ByteArray) : (dB k n t).size ≤ t.size + 6 := by
  unfold dB
  by_cases h1 : k = 0 ∧ n = 0 ∧ t.toList ≠ [] ∧ t.toList.all pr = true
  · rw [if_pos h1, ByteArray.size_append]
    show 4 + t.size ≤ _; omega
  · rw [if_neg h1]
    by_cases h2 : k = 1 ∧ t.toList = [] ∧ 0 ≤ n ∧ n ≤ 9
    · rw [if_pos h2, ByteArray.size_append]
      have hd := digit_len ⟨n.toNat, by omega⟩
      show 5 + (Lib.decDigits n.toNat).toArray.size ≤ _
      simp only [List.size_toArray]
      simp only at hd
      omega
    · rw [if_neg h2]
      by_cases h3 : k = 2 ∧ n = 0 ∧ t.toList = []
      · rw [if_pos h3]; show 4 ≤ _; omega
      · rw [if_neg h3]; exact Nat.zero_le _
def jT (acc : ByteArray) : List S26 → ByteArray
  | [] => acc
  | x :: r => if (dB x.f0 x.f1 x.f2).toList = [] then ⟨#[]⟩ else jT ((acc ++ dB x.f0 x.f1 x.f2) ++ (⟨#[10]⟩ : ByteArray)) r
theorem ten_size : (⟨#[10]⟩ : ByteArray).size = 1 := rfl
theorem sJournal_l0 (L : List S26) (hl : L.length ≤ 2000000) (hz : ∀ x ∈ L, x.f2.size ≤ 4000000000000) : ∀ (r i : Nat) (acc : ByteArray), i + r = L.length → acc.size + r * 4000000000007 ≤ 9000000000000000000 → Ev (fun k => spec_JournalText.l0 k L acc (i : Int)) (jT acc (L.drop i))
  | 0, i, acc, h, ha => Ev.step (fun _ => spec_JournalText.l0.eq_2 _ _ _ _) (ev_neg (by omega) (ev_now (by rw [List.drop_of_length_le (by omega)]; rfl)))
  | r + 1, i, acc, h, ha => by
    have hd := rd26_drop L i (by omega)
    have hx := hz _ (List.mem_of_mem_drop (i := i) (by rw [hd]; exact List.mem_cons_self))
    have hs := dB_size (rd_T26 L (i : Int)).f0 (rd_T26 L (i : Int)).f1 (rd_T26 L (i : Int)).f2
    refine Ev.step (fun _ => spec_JournalText.l0.eq_2 _ _ _ _) (ev_pos (by omega) (ev_pos (by omega) (Ev.bind (sDeed _ _ _ (by omega)) ?_)))
    rw [hd]
    unfold jT
    by_cases h1 : (dB (rd_T26 L (i : Int)).f0 (rd_T26 L (i : Int)).f1 (rd_T26 L (i : Int)).f2).toList = []
    · rw [if_pos h1]; exact ev_pos h1 (ev_now rfl)
    · rw [if_neg h1]
      refine ev_neg h1 (Ev.bind (sDeed _ _ _ (by omega)) (ev_pos (by omega) (ev_pos (by omega) ?_)))
      rw [w64 (by omega) (by omega)]
      exact sJournal_l0 L hl hz r (i + 1) _ (by omega) (by rw [ByteArray.size_append, ByteArray.size_append, ten_size]; omega)
theorem sJournal (L : List S26) (hl : L.length ≤ 2000000) (hz : ∀ x ∈ L, x.f2.size ≤ 4000000000000) : Ev (fun k => spec_JournalText.f k L) (jT ⟨#[]⟩ L) := by
  unfold spec_JournalText.f
  exact sJournal_l0 L hl hz L.length 0 _ (by omega) (by show 0 + _ ≤ _; omega)
theorem iJournal_l0 (L : List S26) (hl : L.length ≤ 2000000) (hz : ∀ x ∈ L, x.f2.size ≤ 4000000000000) : ∀ (r i : Nat) (acc : ByteArray), i + r = L.length → acc.size + r * 4000000000007 ≤ 9000000000000000000 → Ev (fun k => impl_JournalText.l0 k acc L (L.length : Int) (i : Int)) (jT acc (L.drop i))
  | 0, i, acc, h, ha => Ev.step (fun _ => impl_JournalText.l0.eq_2 _ _ _ _ _) (ev_neg (by omega) (ev_now (by rw [List.drop_of_length_le (by omega)]; rfl)))
  | r + 1, i, acc, h, ha => by
    have hd := rd26_drop L i (by omega)
    have hx := hz _ (List.mem_of_mem_drop (i := i) (by rw [hd]; exact List.mem_cons_self))
    have hs := dB_size (rd_T26 L (i : Int)).f0 (rd_T26 L (i : Int)).f1 (rd_T26 L (i : Int)).f2
    refine Ev.step (fun _ => impl_JournalText.l0.eq_2 _ _ _ _ _) (ev_pos (by omega) (ev_pos (by omega) (ev_pos (by omega) (Ev.bind (iDeed _ _ _ (by omega)) ?_))))
    rw [hd]
    unfold jT
    by_cases h1 : (dB (rd_T26 L (i : Int)).f0 (rd_T26 L (i : Int)).f1 (rd_T26 L (i : Int)).f2).toList = []
    · rw [if_pos h1]; exact ev_pos h1 (ev_now rfl)
    · rw [if_neg h1]
      refine ev_neg h1 (ev_pos (by omega) (ev_pos (by omega) ?_))
      rw [w64 (by omega) (by omega), ← ByteArray.append_assoc]
      exact iJournal_l0 L hl hz r (i + 1) _ (by omega) (by rw [ByteArray.size_append, ByteArray.size_append, ten_size]; omega)
theorem iJournal (L : List S26) (hl : L.length ≤ 2000000) (hz : ∀ x ∈ L, x.f2.size ≤ 4000000000000) : Ev (fun k => impl_JournalText.f k L) (jT ⟨#[]⟩ L) := by
  unfold impl_JournalText.f
  exact iJournal_l0 L hl hz L.length 0 _ (by omega) (by show 0 + _ ≤ _; omega)

section
open Go.ChangeShapes Go.WideShapes Go.Deep
variable {H : Type} {enc : TypeId × Value → H} {P : Program} {w : World} {base : Nat} {spare : Nat → Bool} {held : Bool} {α β γ : Type}
/-- Whatever is trodden at type t is, read, of kind d, and fulfils Q. -/
def Opens (enc : TypeId × Value → H) (P : Program) (w : World) (base : Nat) (spare : Nat → Bool) (held : Bool) (t : TypeId) (d : Kd α) (Q : α → Prop) : Prop :=
  ∀ (fuel : Nat) (cs : List Value) (x : DataW H × List MemPlace), DataW.trod enc P w base spare held fuel t cs = some x → ∃ a, d.K w a cs ∧ Q a
theorem opens_int {t : TypeId} {k : IntKind} (ht : P.underlying t = some (.int k)) : Opens enc P w base spare held t (Kd.int k) (fun n => (Lit.int k n).wf = true) := fun fuel cs x h => by
  obtain ⟨n, rfl, _, hw⟩ := DataW.trod_int ht h
  exact ⟨n, rfl, hw⟩
theorem opens_string {t : TypeId} (ht : P.underlying t = some .string) : Opens enc P w base spare held t Kd.string (fun s => s.size ≤ maxLen) := fun fuel cs x h => by
  obtain ⟨n, rfl, _, hw⟩ := DataW.trod_string ht h
  exact ⟨n, rfl, hw⟩
theorem opens_list {Φ : Nat → α → Prop} : ∀ n : Nat, (∀ i, i < n → ∃ p, Φ i p) → ∃ ps : List α, ps.length = n ∧ ∀ j p, ps[j]? = some p → Φ j p
  | 0, _ => ⟨[], rfl, fun j p h => by simp at h⟩
  | n + 1, h => by
    obtain ⟨ps, hl, hp⟩ := opens_list n (fun i hi => h i (by omega))
    obtain ⟨p, hpn⟩ := h n (by omega)
    refine ⟨ps ++ [p], by rw [List.length_append, hl]; rfl, fun j q hq => ?_⟩
    rcases Nat.lt_or_ge j n with hj | hj
    · rw [List.getElem?_append_left (by omega)] at hq; exact hp j q hq
    · rw [List.getElem?_append_right (by omega)] at hq
      have : j - ps.length = 0 := by
        rcases Nat.eq_zero_or_pos (j - ps.length) with h0 | h0
        · exact h0
        · rw [List.getElem?_eq_none (by simp; omega)] at hq; cases hq
      rw [this] at hq
      obtain rfl : p = q := by simpa using hq
      rw [show j = n by omega]; exact hpn
theorem opens_slice {t e te : TypeId} {d : Kd α} {Q : α → Prop} (ht : P.underlying t = some (.slice e)) (hc : P.cellsOf e = d.sz) (he : Opens enc P w base spare held e d Q) :
    Opens enc P w base spare held t (Kd.slice te d) (fun xs => xs.length ≤ maxLen ∧ ∀ x ∈ xs, Q x) := fun fuel cs x h => by
  rcases open_slice ht h with ⟨rfl, _⟩ | ⟨a, len, cap, m, n, D, Pl, rfl, hb, hl, hm, hmm, hx, hi⟩
  · exact ⟨[], ⟨none, 0, rfl, Nat.le_refl _, ⟨rfl, by simp, fun h => absurd h (by simp)⟩⟩, by simp [maxLen], by simp⟩
  · have hle : len ≤ m := by rw [hmm]; split <;> omega
    obtain ⟨ps, hpl, hps⟩ := opens_list (Φ := fun i p => (∃ c : List Value, c.length = d.sz ∧ d.K w p c ∧ ∀ j u, c[j]? = some u → w.cell? (a.add (i * d.sz + j)) = some u) ∧ Q p) len (fun i hil => by
      obtain ⟨cs', h1, h2⟩ := hi i (by omega)
      obtain ⟨p, hk, hq⟩ := he _ _ _ h2
      rw [hc] at h1
      obtain ⟨_, hcl, hat⟩ := World.cells?_some h1
      refine ⟨p, ⟨cs', hcl, hk, fun j u hu => ?_⟩, hq⟩
      have hj : j < d.sz := by rw [← hcl]; exact (List.getElem?_eq_some_iff.1 hu).1
      rw [← Go.Deep.add_add, hat j hj, hu])
    have hmax : maxLen ≤ 9223372036854775807 := by decide
    refine ⟨ps, ⟨some a, cap, by rw [hpl], by omega, ⟨rfl, by omega, fun _ => ⟨a, rfl, fun j p hp => (hps j p hp).1⟩⟩⟩, by omega, fun x hx => ?_⟩
    obtain ⟨j, hj⟩ := List.getElem?_of_mem hx
    exact (hps j x hj).2
theorem opens_struct2 {t : TypeId} {f0 f1 : Field} {d0 : Kd α} {d1 : Kd β} {g : γ → α × β} {mk : α → β → γ} {Q0 : α → Prop} {Q1 : β → Prop} (hs : P.underlying t = some (.struct #[f0, f1]))
    (ho0 : f0.offset = 0) (ho1 : f1.offset = d0.sz) (hc0 : P.cellsOf f0.type = d0.sz) (hc1 : P.cellsOf f1.type = d1.sz) (hct : P.cellsOf t = d0.sz + d1.sz) (hg : ∀ a b, g (mk a b) = (a, b))
    (h0 : Opens enc P w base spare held f0.type d0 Q0) (h1 : Opens enc P w base spare held f1.type d1 Q1) :
    Opens enc P w base spare held t (Kd.iso (Kd.pair d0 d1) g) (fun x => Q0 (g x).1 ∧ Q1 (g x).2) := fun fuel cs x h => by
  obtain ⟨xs, n, _, hx, hlen, hxl, hf⟩ := DataW.trod_struct hs h
  have e0 := hf 0 f0 rfl
  have e1 := hf 1 f1 rfl
  match xs, hxl with
  | [y0, y1], _ =>
    obtain ⟨a, ka, qa⟩ := h0 _ _ _ e0
    obtain ⟨b, kb, qb⟩ := h1 _ _ _ e1
    refine ⟨mk a b, ?_, by show Q0 (g (mk a b)).1 ∧ Q1 (g (mk a b)).2; rw [hg]; exact ⟨qa, qb⟩⟩
    show (Kd.pair d0 d1).K w (g (mk a b)) cs
    rw [hg]
    rw [ho0, hc0, List.drop_zero] at ka
    rw [ho1, hc1, List.take_of_length_le (by rw [List.length_drop]; omega)] at kb
    exact ⟨_, _, (List.take_append_drop d0.sz cs).symm, ka, kb⟩
theorem opens_struct3 {δ : Type} {t : TypeId} {f0 f1 f2 : Field} {d0 : Kd α} {d1 : Kd β} {d2 : Kd γ} {g : δ → α × (β × γ)} {mk : α → β → γ → δ} {Q0 : α → Prop} {Q1 : β → Prop} {Q2 : γ → Prop} (hs : P.underlying t = some (.struct #[f0, f1, f2]))
    (ho0 : f0.offset = 0) (ho1 : f1.offset = d0.sz) (ho2 : f2.offset = d0.sz + d1.sz) (hc0 : P.cellsOf f0.type = d0.sz) (hc1 : P.cellsOf f1.type = d1.sz) (hc2 : P.cellsOf f2.type = d2.sz) (hct : P.cellsOf t = d0.sz + d1.sz + d2.sz) (hg : ∀ a b c, g (mk a b c) = (a, (b, c)))
    (h0 : Opens enc P w base spare held f0.type d0 Q0) (h1 : Opens enc P w base spare held f1.type d1 Q1) (h2 : Opens enc P w base spare held f2.type d2 Q2) :
    Opens enc P w base spare held t (Kd.iso (Kd.pair d0 (Kd.pair d1 d2)) g) (fun x => Q0 (g x).1 ∧ Q1 (g x).2.1 ∧ Q2 (g x).2.2) := fun fuel cs x h => by
  obtain ⟨xs, n, _, hx, hlen, hxl, hf⟩ := DataW.trod_struct hs h
  have e0 := hf 0 f0 rfl
  have e1 := hf 1 f1 rfl
  have e2 := hf 2 f2 rfl
  match xs, hxl with
  | [y0, y1, y2], _ =>
    obtain ⟨a, ka, qa⟩ := h0 _ _ _ e0
    obtain ⟨b, kb, qb⟩ := h1 _ _ _ e1
    obtain ⟨c, kc, qc⟩ := h2 _ _ _ e2
    refine ⟨mk a b c, ?_, by show Q0 (g (mk a b c)).1 ∧ Q1 (g (mk a b c)).2.1 ∧ Q2 (g (mk a b c)).2.2; rw [hg]; exact ⟨qa, qb, qc⟩⟩
    show (Kd.pair d0 (Kd.pair d1 d2)).K w (g (mk a b c)) cs
    rw [hg]
    rw [ho0, hc0, List.drop_zero] at ka
    rw [ho1, hc1] at kb
    rw [ho2, hc2, List.take_of_length_le (by rw [List.length_drop]; omega)] at kc
    refine ⟨_, _, (List.take_append_drop d0.sz cs).symm, ka, _, _, (List.take_append_drop d1.sz _).symm, kb, ?_⟩
    rw [List.drop_drop]
    first | exact kc | (rw [Nat.add_comm]; exact kc)
theorem opens_arg {t : TypeId} {fs : Array Field} {r : Reach} {b0 : Nat} {v : Value} {dd : DataW H} {p : List MemPlace} {d : Kd α} {Q : α → Prop} (hs : P.underlying t = some (.struct fs)) (hv : Value.okWide P w r b0 t v) (h : DataW.Trod enc P w base spare held t v dd p)
    (ho : Opens enc P w base spare held t d Q) : ∃ (l : List Value) (a : α), v = .agg ⟨l⟩ ∧ d.K w a l ∧ Q a := by
  obtain ⟨cs, rfl, hsz⟩ := okWide_struct hs hv
  obtain ⟨l⟩ := cs
  obtain ⟨fuel, hf⟩ := h
  obtain ⟨a, hk, hq⟩ := ho _ _ _ hf
  exact ⟨l, a, rfl, by simpa [Value.cells] using hk, hq⟩
end

theorem FnExactJournalText (N : List S23) (hN : N.length ≤ maxLen) (hb : ∀ x ∈ N, x.f2.size ≤ maxLen) : ∃ k, laws_FnExactJournalText.f k N = some true := by
  refine Ev.rounds (g := fun k => laws_FnExactJournalText.f k N) ?_
  unfold laws_FnExactJournalText.f
  obtain ⟨u, hu, hc⟩ := szDeedS_ok N hN hb
  by_cases hn : u < 0
  · exact Ev.bind hu (ev_pos hn (ev_now rfl))
  · obtain ⟨c1, c2⟩ := hc.resolve_left hn
    have hT := toDeedS_ok N (by omega)
    have hl : (N.map cD).length ≤ 2000000 := by rw [List.length_map]; omega
    have hz : ∀ x ∈ N.map cD, x.f2.size ≤ 4000000000000 := fun x hx => by have := wd_mem _ x hx; rw [wd_map] at this; omega
    generalize N.map cD = L at *
    exact Ev.bind hu (ev_neg hn (Ev.bind hT (Ev.bind (sJournal L hl hz) (Ev.bind hT (Ev.bind (iJournal L hl hz) (ev_pos rfl (Ev.bind hT (Ev.bind (eqDeedS_self L (by omega)) (ev_pos rfl (ev_now rfl))))))))))

end Go.Proofs.YtnnaiaiddjkjnaaDoor.Pure
namespace Go.Proofs.YtnnaiaiddjkjnaaDoor.fnExactJournalText
open Go.ChangeShapes Go.WideShapes Go.ChangeAt Go.RowKit Go.Proofs.YtnnaiaiddjkjnaaDoor.Pure Go.Proofs.YtnnaiaiddjkjnaaDoor.PFnExactJournalText Go.Proofs.YtnnaiaiddjkjnaaDoorW.PrintWords
set_option linter.unusedVariables false
theorem own : ownKnob Tryd.prog.godebug = none := by kernel_rfl
theorem laidOut : laidOutB Tryd.prog = true := by kernel_rfl
theorem opensDeed {H : Type} (enc : TypeId × Value → H) (w : World) (base : Nat) (spare : Nat → Bool) (held : Bool) : Opens enc Tryd.prog w base spare held 23 k23 (fun x => x.f2.size ≤ maxLen) := fun fuel cs x h => by
  obtain ⟨a, hk, _, _, h2⟩ := opens_struct3 (g := fun x : S23 => (x.f0, x.f1, x.f2)) (mk := fun a b c => (⟨a, b, c⟩ : S23)) (d0 := Kd.int .i64) (d1 := Kd.int .i64) (d2 := Kd.string) Tryd.underlying23 rfl rfl rfl (by kernel_rfl) (by kernel_rfl) (by kernel_rfl) (by kernel_rfl) (fun _ _ _ => rfl) (opens_int Tryd.underlying3) (opens_int Tryd.underlying3) (opens_string Tryd.underlying9) fuel cs x h
  exact ⟨a, hk, h2⟩
set_option maxRecDepth 100000 in
theorem door_met (os : Os) (args : Array Value) : laidMetH Tryd.prog Rows.fnExactJournalTextRow.laid ((World.doorLaid Tryd.prog 4000 os).forCall (fun _ _ => 0) ⟨#[], args, []⟩).memory :=
  laidMetH_of_parts3 (fuel := 8) (laidMet_of_run' 8 (by kernel_rfl) (by kernel_rfl)) (by kernel_rfl) (by kernel_rfl)
set_option maxRecDepth 100000 in
theorem lifted (os : Os) (started : os.Started) (H : Type) (enc : TypeId × Value → H) :
    ReturnsInHanded {} Tryd.checked os 4 .any (fun w args => (Rows.fnExactJournalTextSpec.pre enc Tryd.prog Tryd.f4 [] false w args ∧ laidMetH Tryd.prog Rows.fnExactJournalTextRow.laid w) ∧ sizedMet enc Tryd.prog Tryd.f4 (OpenSpec.ofChange Rows.fnExactJournalTextSpec) false w args) (Rows.fnExactJournalTextSpec.post enc Tryd.prog Tryd.f4 false true false false) := by
  refine returnsInHanded_of_change_and (C := Tryd.checked) (X := fun w _ => laidMetH Tryd.prog Rows.fnExactJournalTextRow.laid w) (fun _ _ _ hh h => h.of_heap hh) own started (by kernel_rfl) Tryd.func4
    (ChangeSpec.witness_shaped (enc := enc) (C := Tryd.checked) (os := os) (X := fun w _ => laidMetH Tryd.prog Rows.fnExactJournalTextRow.laid w) false (World.doorLaid Tryd.prog 4000 os) #[.slice none 0 0] 8 rfl (World.shaped_of_RefB (by kernel_rfl) (by kernel_rfl)) (by kernel_rfl) (by kernel_rfl) (by kernel_rfl) (door_met os _)) ?_
  intro W base args ds gs before hval0 hW hcnd hsz0 hL _
  have hval : ∀ (j : Nat) t v, Tryd.f4.params[j]? = some t → args[j]? = some v → Value.okWide Tryd.prog W .any base t v := hval0
  have hW' := hW
  obtain ⟨p, q, hA0, hV, rfl, hfz, hnd⟩ := hW
  have hA : DataW.TrodAll enc Tryd.prog W 0 (fun _ => true) true Tryd.f4.params.toList args.toList ds p := hA0
  rw [Tryd.params4] at hA hval
  obtain ⟨v0, vs0, d0, ds0, p0, q0, hargs, rfl, rfl, h0, r0⟩ := trodAll_cons hA
  obtain ⟨rfl, rfl, rfl⟩ := trodAll_nil r0
  obtain rfl : args = #[v0] := by cases args; simp_all
  obtain ⟨rfl, rfl⟩ := trodVars_none hV
  have k0 := h0
  have lt0 : ∀ x ∈ p0, x.block < W.heap.size := by obtain ⟨m, hm⟩ := k0; exact DataW.trod_lt m _ _ _ hm
  obtain ⟨a0, len0, cap0, rfl⟩ := okWide_slice Tryd.underlying29 (hval 0 29 v0 rfl rfl)
  obtain ⟨fuel, hf⟩ := h0
  obtain ⟨N, ⟨A0, n0, hcs, hc0, hr0⟩, qN, qb⟩ := opens_slice (te := 23) Tryd.underlying29 (by kernel_rfl) (opensDeed enc W 0 (fun _ => true) true) _ _ _ hf
  simp [Value.cells] at hcs
  obtain ⟨rfl, rfl, rfl⟩ := hcs
  clear hA0 hval0
  obtain ⟨k, hk⟩ := Pure.FnExactJournalText N qN qb
  refine (PFnExactJournalText.laws_FnExactJournalText.calls k a0 cap0 N true W hr0 hc0 hk).mono fun e W' ⟨he, bel⟩ => ?_
  subst he
  exact ⟨_, rfl, _, _, _, [], _, [], hW', trodAll_mk1 (shut_bool Tryd.underlying4 _), (trodAll_cons_mk (Below.trod laidOut (by kernel_rfl) (of_decide_eq_true (by kernel_rfl)) k0 bel lt0) trodAll_mk0), rfl, bel.frame _, fun h => by cases h⟩
theorem over : Rows.fnExactJournalTextRow.holds Tryd.pinned (OpenSpec.ofChange Rows.fnExactJournalTextSpec) :=
  OpenClaim.holds_of_wide 4 Tryd.f4 rfl rfl rfl rfl rfl rfl rfl ⟨rfl, rfl, rfl, rfl, rfl⟩ rfl rfl rfl rfl rfl (by kernel_rfl) Tryd.func4 (by kernel_rfl)
    (of_decide_eq_true (by kernel_rfl)) (by unfold Func.isWrapper; first | (rw [if_pos (by decide +kernel)]; kernel_rfl) | (rw [if_neg (by decide +kernel)]; exact ⟨rfl, rfl⟩))
    (fun os started H enc _ => lifted os started H enc)
theorem proved : Rows.FnExactJournalTextSaid := over
theorem carded : Rows.FnExactJournalTextCardSaid :=
  Claim7.holds_tied_plain_at .later [] [.data, .data, .data] true Rows.fnExactJournalTextCard.stood.harness false
    over (fun _ h => by cases h) (by kernel_rfl) (fun _ h => by cases h) fnExactJournalText_row_tie rfl ⟨rfl, rfl⟩ (by kernel_rfl) rfl
    (fun f fn hf hfn => by
      obtain rfl : f = 4 := Option.some.inj ((show Tryd.prog.funcNamed "loop.example/quantifiers/laws.FnExactJournalText" = some 4 by kernel_rfl).symm.trans hf) |>.symm
      obtain rfl : fn = Tryd.f4 := (Option.some.inj (Tryd.func4.symm.trans hfn)).symm
      exact ⟨by kernel_rfl, fun j t ht => by
        rw [Tryd.params4] at ht
        have hall : (Tryd.f4.params.toList.all fun u => !Tryd.prog.wantsStandIn u) = true := by kernel_rfl
        rw [Tryd.params4] at hall
        have hm := Array.mem_of_getElem? ht
        exact (show Tryd.prog.wantsStandIn t = false by simpa using List.all_eq_true.1 hall t (by simpa using hm))⟩)
    (by kernel_rfl)
end Go.Proofs.YtnnaiaiddjkjnaaDoor.fnExactJournalText
namespace Go.Proofs.YtnnaiaiddjkjnaaDoor
/-- The row, under a short name, for the claim. -/
theorem fnExactJournalText_holds : Rows.FnExactJournalTextCardSaid := fnExactJournalText.carded
end Go.Proofs.YtnnaiaiddjkjnaaDoor
