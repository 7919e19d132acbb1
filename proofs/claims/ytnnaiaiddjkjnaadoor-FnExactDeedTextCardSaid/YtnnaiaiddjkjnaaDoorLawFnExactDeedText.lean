/- For every deed the program's DeedText gives the reference's text; no condition. -/
import Derived.Test.YtnnaiaiddjkjnaaDoorRows
import Derived.Test.YtnnaiaiddjkjnaaDoorPFnExactDeedTextx
import Derived.WalkKit
import Derived.ProofKit
import Derived.OpenShut
import Derived.ShutString
import Derived.ChangeOld
import Derived.ChangeSame
import Derived.Below
import Derived.SizedLaws
import Derived.LaidMore
import Derived.Stop.Joined
import Derived.SevenTiedAt
import Derived.Test.YtnnaiaiddjkjnaaDoorTie
import Derived.Test.YtnnaiaiddjkjnaaDoorCards
import Derived.Lib.SmallJoins
import Derived.Deep.Slices
import Derived.Deep.Fields
namespace Go.Proofs.YtnnaiaiddjkjnaaDoor.Pure
open Go.RowKit Go.Proofs.YtnnaiaiddjkjnaaDoor.PFnExactDeedText Go.Proofs.YtnnaiaiddjkjnaaDoorW.PrintWords Go.Proofs.YtnnaiaiddjkjnaaDoorW.PrintLast
set_option linter.unusedVariables false
set_option linter.unusedSimpArgs false
/-! pack arith: numbers that do not wrap, and steps of 'from some number of rounds on' -/
theorem w64 {n : Int} (h0 : -9223372036854775808 ≤ n) (h1 : n ≤ 9223372036854775807) : wrap64 n = n := by unfold wrap64; omega
theorem ev_pos {α : Type} {c : Prop} [Decidable c] {a b : Nat → Option α} {r : α} (h : c) (H : Ev a r) : Ev (fun k => if c then a k else b k) r :=
  Ev.congr (fun _ => if_pos h) H
theorem ev_neg {α : Type} {c : Prop} [Decidable c] {a b : Nat → Option α} {r : α} (h : ¬ c) (H : Ev b r) : Ev (fun k => if c then a k else b k) r :=
  Ev.congr (fun _ => if_neg h) H
theorem ev_now {α : Type} {a r : α} (h : a = r) : Ev (fun _ => some a) r := h ▸ Ev.now a
theorem ev_of {α : Type} {o : Option α} {r : α} (h : o = some r) : Ev (fun _ => o) r := ⟨0, fun _ _ => h⟩
theorem ev_bind {α β : Type} {o : Option α} {f : Nat → α → Option β} {a : α} {r : β} (h : o = some a) (k : Ev (fun n => f n a) r) : Ev (fun n => o.bind (f n)) r :=
  Ev.congr (fun n => by rw [h]; rfl) k
theorem ev_eq {α : Type} {g : Nat → Option α} {r r' : α} (h : r = r') (k : Ev g r) : Ev g r' := h ▸ k

/-! pack deed: the text of a deed -/
theorem tl (b : ByteArray) : b.toList = b.data.toList := ByteArray.toList_eq b
def pr (b : UInt8) : Bool := decide (32 ≤ b.toNat) && decide (b.toNat ≤ 126)
theorem bt_drop (s : ByteArray) (i : Nat) (h : i < s.size) : ∃ b : UInt8, s.toList.drop i = b :: s.toList.drop (i + 1) ∧ bt s (i : Int) = (b.toNat : Int) := by
  rw [tl]
  have hl : i < s.data.toList.length := by simpa using h
  refine ⟨s.data.toList[i], List.drop_eq_getElem_cons hl, ?_⟩
  unfold bt
  rw [dif_pos (by simpa using h)]
  simp only [Int.toNat_natCast]
  rfl
theorem tl_len (s : ByteArray) : s.toList.length = s.size := by rw [tl]; simp
theorem iPrint_l0 (s : ByteArray) (hs : s.size ≤ 9000000000000000000) : ∀ r i : Nat, i + r = s.size → Ev (fun k => impl_isPrintable.l0 k s (s.size : Int) (i : Int)) ((s.toList.drop i).all pr)
  | 0, i, h => Ev.step (fun _ => impl_isPrintable.l0.eq_2 _ _ _ _) (ev_neg (by omega) (ev_now (by rw [List.drop_of_length_le (by rw [tl_len]; omega)]; rfl)))
  | r + 1, i, h => by
    obtain ⟨b, hb, hv⟩ := bt_drop s i (by omega)
    refine Ev.step (fun _ => impl_isPrintable.l0.eq_2 _ _ _ _) (ev_pos (by omega) (ev_pos (by omega) (ev_pos (by omega) ?_)))
    rw [hb, List.all_cons, hv]
    by_cases h1 : (b.toNat : Int) < 32
    · rw [show pr b = false by unfold pr; rw [decide_eq_false (by omega)]; rfl]; exact ev_pos h1 (ev_now rfl)
    · by_cases h2 : (b.toNat : Int) > 126
      · rw [show pr b = false by unfold pr; rw [decide_eq_false (p := b.toNat ≤ 126) (by omega), Bool.and_false]]; exact ev_neg h1 (ev_pos h2 (ev_now rfl))
      · rw [show pr b = true by unfold pr; rw [decide_eq_true (p := 32 ≤ b.toNat) (by omega), decide_eq_true (p := b.toNat ≤ 126) (by omega)]; rfl, Bool.true_and]
        refine ev_neg h1 (ev_neg h2 ?_)
        rw [w64 (by omega) (by omega)]
        exact iPrint_l0 s hs r (i + 1) (by omega)
theorem iPrint (s : ByteArray) (hs : s.size ≤ 9000000000000000000) : Ev (fun k => impl_isPrintable.f k s) (s.toList.all pr) := iPrint_l0 s hs s.size 0 (by omega)
theorem sPlain_l0 (s : ByteArray) (hs : s.size ≤ 9000000000000000000) : ∀ r i : Nat, i + r = s.size → Ev (fun k => spec_l9Plain.l0 k s (i : Int)) ((s.toList.drop i).all pr && decide (s.size > 0))
  | 0, i, h => Ev.step (fun _ => spec_l9Plain.l0.eq_2 _ _ _) (ev_neg (by omega) (ev_now (by rw [List.drop_of_length_le (by rw [tl_len]; omega)]; simp)))
  | r + 1, i, h => by
    obtain ⟨b, hb, hv⟩ := bt_drop s i (by omega)
    refine Ev.step (fun _ => spec_l9Plain.l0.eq_2 _ _ _) (ev_pos (by omega) (ev_pos (by omega) ?_))
    rw [hb, List.all_cons, hv]
    by_cases h1 : (b.toNat : Int) < 32
    · rw [show pr b = false by unfold pr; rw [decide_eq_false (by omega)]; rfl]; exact ev_pos h1 (ev_now rfl)
    · by_cases h2 : (b.toNat : Int) > 126
      · rw [show pr b = false by unfold pr; rw [decide_eq_false (p := b.toNat ≤ 126) (by omega), Bool.and_false]]; exact ev_neg h1 (ev_pos h2 (ev_now rfl))
      · rw [show pr b = true by unfold pr; rw [decide_eq_true (p := 32 ≤ b.toNat) (by omega), decide_eq_true (p := b.toNat ≤ 126) (by omega)]; rfl, Bool.true_and]
        refine ev_neg h1 (ev_neg h2 ?_)
        rw [w64 (by omega) (by omega)]
        exact sPlain_l0 s hs r (i + 1) (by omega)
theorem sPlain (s : ByteArray) (hs : s.size ≤ 9000000000000000000) : Ev (fun k => spec_l9Plain.f k s) (s.toList.all pr && decide (s.size > 0)) := sPlain_l0 s hs s.size 0 (by omega)
/-- The text of a deed. -/
def dB (k n : Int) (t : ByteArray) : ByteArray :=
  if k = 0 ∧ n = 0 ∧ t.toList ≠ [] ∧ t.toList.all pr = true then (⟨#[115, 97, 121, 32]⟩ : ByteArray) ++ t
  else if k = 1 ∧ t.toList = [] ∧ 0 ≤ n ∧ n ≤ 9 then (⟨#[100, 114, 111, 112, 32]⟩ : ByteArray) ++ ⟨(Lib.decDigits n.toNat).toArray⟩
  else if k = 2 ∧ n = 0 ∧ t.toList = [] then ⟨#[98, 97, 99, 107]⟩ else ⟨#[]⟩
theorem nil_iff (t : ByteArray) : t.toList = [] ↔ t.size = 0 := by rw [← tl_len]; exact List.length_eq_zero_iff.symm
theorem backB (k n : Int) (t : ByteArray) : ((k == 2 && (n == 0 && (t.toList == ([] : List UInt8)))) = true) ↔ (k = 2 ∧ n = 0 ∧ t.toList = []) := by simp
theorem digit_len : ∀ d : Fin 10, (Lib.decDigits d.val).length = 1 := fun d => by unfold Lib.decDigits; rw [dif_pos d.isLt]; rfl
theorem iDeed_j1F (k n : Int) (t : ByteArray) : Ev (fun r => impl_deedText.j1 r false k n t) (if k = 2 ∧ n = 0 ∧ t.toList = [] then ⟨#[98, 97, 99, 107]⟩ else ⟨#[]⟩) := by
  refine Ev.step (fun _ => impl_deedText.j1.eq_2 _ _ _ _ _) (ev_neg (by simp) ?_)
  by_cases h : k = 2 ∧ n = 0 ∧ t.toList = []
  · rw [if_pos h]; exact ev_pos ((backB k n t).2 h) (ev_now rfl)
  · rw [if_neg h]; exact ev_neg (fun e => h ((backB k n t).1 e)) (ev_now rfl)
theorem iDeed_j0F (k n : Int) (t : ByteArray) : Ev (fun r => impl_deedText.j0 r false k n t) (if k = 1 ∧ t.toList = [] ∧ 0 ≤ n ∧ n ≤ 9 then (⟨#[100, 114, 111, 112, 32]⟩ : ByteArray) ++ ⟨(Lib.decDigits n.toNat).toArray⟩ else if k = 2 ∧ n = 0 ∧ t.toList = [] then ⟨#[98, 97, 99, 107]⟩ else ⟨#[]⟩) := by
  refine Ev.step (fun _ => impl_deedText.j0.eq_2 _ _ _ _ _) (ev_neg (by simp) ?_)
  by_cases h1 : k = 1
  · refine ev_pos h1 ?_
    by_cases h2 : t.toList = []
    · refine ev_pos h2 ?_
      by_cases h3 : n ≥ 0
      · refine ev_pos h3 ?_
        by_cases h4 : n ≤ 9
        · rw [if_pos ⟨h1, h2, h3, h4⟩, decide_eq_true h4]
          have hd := digit_len ⟨n.toNat, by omega⟩
          refine Ev.step (fun _ => impl_deedText.j1.eq_2 _ _ _ _ _) (ev_pos rfl (ev_bind (a := ⟨(Lib.decDigits n.toNat).toArray⟩) (show (if 0 ≤ n ∧ n < 100 then some (⟨(Lib.decDigits n.toNat).toArray⟩ : ByteArray) else none) = some _ from if_pos ⟨h3, by omega⟩) (ev_pos ?_ (ev_now rfl))))
          show 5 + (Lib.decDigits n.toNat).toArray.size ≤ _
          simp only [List.size_toArray]
          simp only at hd
          omega
        · rw [if_neg (fun e => h4 e.2.2.2), decide_eq_false h4]; exact iDeed_j1F k n t
      · rw [if_neg (fun e => h3 e.2.2.1)]; exact ev_neg h3 (iDeed_j1F k n t)
    · rw [if_neg (fun e => h2 e.2.1)]; exact ev_neg h2 (iDeed_j1F k n t)
  · rw [if_neg (fun e => h1 e.1)]; exact ev_neg h1 (iDeed_j1F k n t)
theorem iDeed (k n : Int) (t : ByteArray) (ht : t.size ≤ 9000000000000000000) : Ev (fun r => impl_deedText.f r k n t) (dB k n t) := by
  unfold impl_deedText.f dB
  by_cases h1 : k = 0
  · refine ev_pos h1 ?_
    by_cases h2 : n = 0
    · refine ev_pos h2 ?_
      by_cases h3 : t.toList = []
      · rw [if_neg (fun e => e.2.2.1 h3)]; exact ev_pos h3 (iDeed_j0F k n t)
      · refine ev_neg h3 (Ev.bind (iPrint t ht) ?_)
        by_cases h4 : t.toList.all pr = true
        · rw [if_pos ⟨h1, h2, h3, h4⟩, h4]
          exact Ev.step (fun _ => impl_deedText.j0.eq_2 _ _ _ _ _) (ev_pos rfl (ev_pos (by omega) (ev_now rfl)))
        · rw [if_neg (fun e => h4 e.2.2.2), Bool.eq_false_iff.mpr h4]; exact iDeed_j0F k n t
    · rw [if_neg (fun e => h2 e.2.1)]; exact ev_neg h2 (iDeed_j0F k n t)
  · rw [if_neg (fun e => h1 e.1)]; exact ev_neg h1 (iDeed_j0F k n t)

/-! pack deed_s: the text of a deed, by the reference -/
theorem s1In (n : Int) : spec_l1In.f n 0 9 = some (decide (0 ≤ n) && decide (n ≤ 9)) := by
  unfold spec_l1In.f
  by_cases h : n ≥ 0
  · rw [if_pos h, decide_eq_true (p := 0 ≤ n) h, Bool.true_and]
  · rw [if_neg h, decide_eq_false (p := 0 ≤ n) h, Bool.false_and]
theorem digit_all : ∀ d : Fin 10, strOfNums [(wrap64 (48 + (d.val : Int))) % 256] = ⟨#[UInt8.ofNat (48 + d.val)]⟩ := by decide +kernel
theorem decDigits_one (d : Nat) (h : d < 10) : Lib.decDigits d = [UInt8.ofNat (48 + d)] := by unfold Lib.decDigits; rw [dif_pos h]
theorem sNum (n : Int) (h0 : 0 ≤ n) (h1 : n ≤ 9) : Ev (fun r => spec_l1Number.f r n) ⟨(Lib.decDigits n.toNat).toArray⟩ := by
  obtain ⟨d, rfl⟩ := Int.eq_ofNat_of_zero_le h0
  refine Ev.step (fun _ => spec_l1Number.f.eq_2 _ _) (ev_pos (by omega) (ev_now ?_))
  rw [Int.toNat_natCast, decDigits_one d (by omega)]
  exact digit_all ⟨d, by omega⟩
theorem sDeed_j1F (k n : Int) (t : ByteArray) : Ev (fun r => spec_DeedText.j1 r false k n t) (if k = 2 ∧ n = 0 ∧ t.toList = [] then ⟨#[98, 97, 99, 107]⟩ else ⟨#[]⟩) := by
  refine Ev.step (fun _ => spec_DeedText.j1.eq_2 _ _ _ _ _) (ev_neg (by simp) ?_)
  by_cases h : k = 2 ∧ n = 0 ∧ t.toList = []
  · rw [if_pos h]; exact ev_pos ((backB k n t).2 h) (ev_now rfl)
  · rw [if_neg h]; exact ev_neg (fun e => h ((backB k n t).1 e)) (ev_now rfl)
theorem sDeed_j0F (k n : Int) (t : ByteArray) : Ev (fun r => spec_DeedText.j0 r false k n t) (if k = 1 ∧ t.toList = [] ∧ 0 ≤ n ∧ n ≤ 9 then (⟨#[100, 114, 111, 112, 32]⟩ : ByteArray) ++ ⟨(Lib.decDigits n.toNat).toArray⟩ else if k = 2 ∧ n = 0 ∧ t.toList = [] then ⟨#[98, 97, 99, 107]⟩ else ⟨#[]⟩) := by
  refine Ev.step (fun _ => spec_DeedText.j0.eq_2 _ _ _ _ _) (ev_neg (by simp) ?_)
  by_cases h1 : k = 1
  · refine ev_pos h1 ?_
    by_cases h2 : t.toList = []
    · refine ev_pos h2 (ev_bind (s1In n) ?_)
      by_cases h3 : 0 ≤ n
      · by_cases h4 : n ≤ 9
        · rw [if_pos ⟨h1, h2, h3, h4⟩, decide_eq_true h3, decide_eq_true h4]
          have hd := digit_len ⟨n.toNat, by omega⟩
          refine Ev.step (fun _ => spec_DeedText.j1.eq_2 _ _ _ _ _) (ev_pos rfl (Ev.bind (sNum n h3 h4) (ev_pos ?_ (ev_now rfl))))
          show 5 + (Lib.decDigits n.toNat).toArray.size ≤ _
          simp only [List.size_toArray]
          simp only at hd
          omega
        · rw [if_neg (fun e => h4 e.2.2.2), decide_eq_false h4, Bool.and_false]; exact sDeed_j1F k n t
      · rw [if_neg (fun e => h3 e.2.2.1), decide_eq_false h3, Bool.false_and]; exact sDeed_j1F k n t
    · rw [if_neg (fun e => h2 e.2.1)]; exact ev_neg h2 (sDeed_j1F k n t)
  · rw [if_neg (fun e => h1 e.1)]; exact ev_neg h1 (sDeed_j1F k n t)
theorem sDeed (k n : Int) (t : ByteArray) (ht : t.size ≤ 9000000000000000000) : Ev (fun r => spec_DeedText.f r k n t) (dB k n t) := by
  unfold spec_DeedText.f dB
  by_cases h1 : k = 0
  · refine ev_pos h1 ?_
    by_cases h2 : n = 0
    · refine ev_pos h2 (Ev.bind (sPlain t ht) ?_)
      by_cases h3 : t.toList = []
      · rw [if_neg (fun e => e.2.2.1 h3), decide_eq_false (p := t.size > 0) (by have := (nil_iff t).1 h3; omega), Bool.and_false]; exact sDeed_j0F k n t
      · rw [decide_eq_true (p := t.size > 0) (by have h5 : t.size ≠ 0 := fun e => h3 ((nil_iff t).2 e); omega), Bool.and_true]
        by_cases h4 : t.toList.all pr = true
        · rw [if_pos ⟨h1, h2, h3, h4⟩, h4]
          exact Ev.step (fun _ => spec_DeedText.j0.eq_2 _ _ _ _ _) (ev_pos rfl (ev_pos (by omega) (ev_now rfl)))
        · rw [if_neg (fun e => h4 e.2.2.2), Bool.eq_false_iff.mpr h4]; exact sDeed_j0F k n t
    · rw [if_neg (fun e => h2 e.2.1)]; exact ev_neg h2 (sDeed_j0F k n t)
  · rw [if_neg (fun e => h1 e.1)]; exact ev_neg h1 (sDeed_j0F k n t)

section
open Go.ChangeShapes Go.WideShapes Go.Deep
variable {H : Type} {enc : TypeId × Value → H} {P : Program} {w : World} {base : Nat} {spare : Nat → Bool} {held : Bool} {α β γ : Type}
/-- Whatever is trodden at type t is, read, of kind d, and fulfils Q. -/
def Opens (enc : TypeId × Value → H) (P : Program) (w : World) (base : Nat) (spare : Nat → Bool) (held : Bool) (t : TypeId) (d : Kd α) (Q : α → Prop) : Prop :=
  ∀ (fuel : Nat) (cs : List Value) (x : DataW H × List MemPlace), DataW.trod enc P w base spare held fuel t cs = some x → ∃ a, d.K w a cs ∧ Q a
theorem opens_int {t : TypeId} {k : IntKind} (ht : P.underlying t = some (.int k)) : Opens enc P w base spare held t (Kd.int k) (fun n => (Lit.int k n).wf = true) := fun fuel cs x h => by
  obtain ⟨n, rfl, _, hw⟩ := DataW.trod_int ht h
  exact ⟨n, rfl, hw⟩
theorem opens_string {t : TypeId} (ht : P.underlying t = some .string) : Opens enc P w base spare held t Kd.string (fun s => s.size ≤ maxLen) := fun fuel cs x h => by
  obtain ⟨n, rfl, _, hw⟩ := DataW.trod_string ht h
  exact ⟨n, rfl, hw⟩
theorem opens_list {Φ : Nat → α → Prop} : ∀ n : Nat, (∀ i, i < n → ∃ p, Φ i p) → ∃ ps : List α, ps.length = n ∧ ∀ j p, ps[j]? = some p → Φ j p
  | 0, _ => ⟨[], rfl, fun j p h => by simp at h⟩
  | n + 1, h => by
    obtain ⟨ps, hl, hp⟩ := opens_list n (fun i hi => h i (by omega))
    obtain ⟨p, hpn⟩ := h n (by omega)
    refine ⟨ps ++ [p], by rw [List.length_append, hl]; rfl, fun j q hq => ?_⟩
    rcases Nat.lt_or_ge j n with hj | hj
    · rw [List.getElem?_append_left (by omega)] at hq; exact hp j q hq
    · rw [List.getElem?_append_right (by omega)] at hq
      have : j - ps.length = 0 := by
        rcases Nat.eq_zero_or_pos (j - ps.length) with h0 | h0
        · exact h0
        · rw [List.getElem?_eq_none (by simp; omega)] at hq; cases hq
      rw [this] at hq
      obtain rfl : p = q := by simpa using hq
      rw [show j = n by omega]; exact hpn
theorem opens_slice {t e te : TypeId} {d : Kd α} {Q : α → Prop} (ht : P.underlying t = some (.slice e)) (hc : P.cellsOf e = d.sz) (he : Opens enc P w base spare held e d Q) :
    Opens enc P w base spare held t (Kd.slice te d) (fun xs => xs.length ≤ maxLen ∧ ∀ x ∈ xs, Q x) := fun fuel cs x h => by
  rcases open_slice ht h with ⟨rfl, _⟩ | ⟨a, len, cap, m, n, D, Pl, rfl, hb, hl, hm, hmm, hx, hi⟩
  · exact ⟨[], ⟨none, 0, rfl, Nat.le_refl _, ⟨rfl, by simp, fun h => absurd h (by simp)⟩⟩, by simp [maxLen], by simp⟩
  · have hle : len ≤ m := by rw [hmm]; split <;> omega
    obtain ⟨ps, hpl, hps⟩ := opens_list (Φ := fun i p => (∃ c : List Value, c.length = d.sz ∧ d.K w p c ∧ ∀ j u, c[j]? = some u → w.cell? (a.add (i * d.sz + j)) = some u) ∧ Q p) len (fun i hil => by
      obtain ⟨cs', h1, h2⟩ := hi i (by omega)
      obtain ⟨p, hk, hq⟩ := he _ _ _ h2
      rw [hc] at h1
      obtain ⟨_, hcl, hat⟩ := World.cells?_some h1
      refine ⟨p, ⟨cs', hcl, hk, fun j u hu => ?_⟩, hq⟩
      have hj : j < d.sz := by rw [← hcl]; exact (List.getElem?_eq_some_iff.1 hu).1
      rw [← Go.Deep.add_add, hat j hj, hu])
    have hmax : maxLen ≤ 9223372036854775807 := by decide
    refine ⟨ps, ⟨some a, cap, by rw [hpl], by omega, ⟨rfl, by omega, fun _ => ⟨a, rfl, fun j p hp => (hps j p hp).1⟩⟩⟩, by omega, fun x hx => ?_⟩
    obtain ⟨j, hj⟩ := List.getElem?_of_mem hx
    exact (hps j x hj).2
theorem opens_struct2 {t : TypeId} {f0 f1 : Field} {d0 : Kd α} {d1 : Kd β} {g : γ → α × β} {mk : α → β → γ} {Q0 : α → Prop} {Q1 : β → Prop} (hs : P.underlying t = some (.struct #[f0, f1]))
    (ho0 : f0.offset = 0) (ho1 : f1.offset = d0.sz) (hc0 : P.cellsOf f0.type = d0.sz) (hc1 : P.cellsOf f1.type = d1.sz) (hct : P.cellsOf t = d0.sz + d1.sz) (hg : ∀ a b, g (mk a b) = (a, b))
    (h0 : Opens enc P w base spare held f0.type d0 Q0) (h1 : Opens enc P w base spare held f1.type d1 Q1) :
    Opens enc P w base spare held t (Kd.iso (Kd.pair d0 d1) g) (fun x => Q0 (g x).1 ∧ Q1 (g x).2) := fun fuel cs x h => by
  obtain ⟨xs, n, _, hx, hlen, hxl, hf⟩ := DataW.trod_struct hs h
  have e0 := hf 0 f0 rfl
  have e1 := hf 1 f1 rfl
  match xs, hxl with
  | [y0, y1], _ =>
    obtain ⟨a, ka, qa⟩ := h0 _ _ _ e0
    obtain ⟨b, kb, qb⟩ := h1 _ _ _ e1
    refine ⟨mk a b, ?_, by show Q0 (g (mk a b)).1 ∧ Q1 (g (mk a b)).2; rw [hg]; exact ⟨qa, qb⟩⟩
    show (Kd.pair d0 d1).K w (g (mk a b)) cs
    rw [hg]
    rw [ho0, hc0, List.drop_zero] at ka
    rw [ho1, hc1, List.take_of_length_le (by rw [List.length_drop]; omega)] at kb
    exact ⟨_, _, (List.take_append_drop d0.sz cs).symm, ka, kb⟩
theorem opens_struct3 {δ : Type} {t : TypeId} {f0 f1 f2 : Field} {d0 : Kd α} {d1 : Kd β} {d2 : Kd γ} {g : δ → α × (β × γ)} {mk : α → β → γ → δ} {Q0 : α → Prop} {Q1 : β → Prop} {Q2 : γ → Prop} (hs : P.underlying t = some (.struct #[f0, f1, f2]))
    (ho0 : f0.offset = 0) (ho1 : f1.offset = d0.sz) (ho2 : f2.offset = d0.sz + d1.sz) (hc0 : P.cellsOf f0.type = d0.sz) (hc1 : P.cellsOf f1.type = d1.sz) (hc2 : P.cellsOf f2.type = d2.sz) (hct : P.cellsOf t = d0.sz + d1.sz + d2.sz) (hg : ∀ a b c, g (mk a b c) = (a, (b, c)))
    (h0 : Opens enc P w base spare held f0.type d0 Q0) (h1 : Opens enc P w base spare held f1.type d1 Q1) (h2 : Opens enc P w base spare held f2.type d2 Q2) :
    Opens enc P w base spare held t (Kd.iso (Kd.pair d0 (Kd.pair d1 d2)) g) (fun x => Q0 (g x).1 ∧ Q1 (g x).2.1 ∧ Q2 (g x).2.2) := fun fuel cs x h => by
  obtain ⟨xs, n, _, hx, hlen, hxl, hf⟩ := DataW.trod_struct hs h
  have e0 := hf 0 f0 rfl
  have e1 := hf 1 f1 rfl
  have e2 := hf 2 f2 rfl
  match xs, hxl with
  | [y0, y1, y2], _ =>
    obtain ⟨a, ka, qa⟩ := h0 _ _ _ e0
    obtain ⟨b, kb, qb⟩ := h1 _ _ _ e1
    obtain ⟨c, kc, qc⟩ := h2 _ _ _ e2
    refine ⟨mk a b c, ?_, by show Q0 (g (mk a b c)).1 ∧ Q1 (g (mk a b c)).2.1 ∧ Q2 (g (mk a b c)).2.2; rw [hg]; exact ⟨qa, qb, qc⟩⟩
    show (Kd.pair d0 (Kd.pair d1 d2)).K w (g (mk a b c)) cs
    rw [hg]
    rw [ho0, hc0, List.drop_zero] at ka
    rw [ho1, hc1] at kb
    rw [ho2, hc2, List.take_of_length_le (by rw [List.length_drop]; omega)] at kc
    refine ⟨_, _, (List.take_append_drop d0.sz cs).symm, ka, _, _, (List.take_append_drop d1.sz _).symm, kb, ?_⟩
    rw [List.drop_drop]
    first | exact kc | (rw [Nat.add_comm]; exact kc)
theorem opens_arg {t : TypeId} {fs : Array Field} {r : Reach} {b0 : Nat} {v : Value} {dd : DataW H} {p : List MemPlace} {d : Kd α} {Q : α → Prop} (hs : P.underlying t = some (.struct fs)) (hv : Value.okWide P w r b0 t v) (h : DataW.Trod enc P w base spare held t v dd p)
    (ho : Opens enc P w base spare held t d Q) : ∃ (l : List Value) (a : α), v = .agg ⟨l⟩ ∧ d.K w a l ∧ Q a := by
  obtain ⟨cs, rfl, hsz⟩ := okWide_struct hs hv
  obtain ⟨l⟩ := cs
  obtain ⟨fuel, hf⟩ := h
  obtain ⟨a, hk, hq⟩ := ho _ _ _ hf
  exact ⟨l, a, rfl, by simpa [Value.cells] using hk, hq⟩
end

theorem FnExactDeedText (k n : Int) (t : ByteArray) (ht : t.size ≤ maxLen) : ∃ r, laws_FnExactDeedText.f r k n t = some true := by
  refine Ev.rounds (g := fun r => laws_FnExactDeedText.f r k n t) ?_
  have hm : maxLen ≤ 9223372036854775807 := by decide
  unfold laws_FnExactDeedText.f laws_szDeed.f
  rw [w64 (n := 1048576 - (t.size : Int)) (by omega) (by omega)]
  by_cases h : (1048576 : Int) - (t.size : Int) < 0
  · rw [if_pos h]; exact ev_bind rfl (ev_pos (by omega) (ev_now rfl))
  · rw [if_neg h]
    refine ev_bind rfl (ev_neg h (ev_bind rfl (Ev.bind (sDeed k n t (by omega)) (ev_bind rfl (Ev.bind ?_ (ev_pos rfl (ev_now rfl)))))))
    unfold impl_DeedText.f
    exact Ev.bind (iDeed k n t (by omega)) (ev_now rfl)

end Go.Proofs.YtnnaiaiddjkjnaaDoor.Pure
namespace Go.Proofs.YtnnaiaiddjkjnaaDoor.fnExactDeedText
open Go.ChangeShapes Go.WideShapes Go.ChangeAt Go.RowKit Go.Proofs.YtnnaiaiddjkjnaaDoor.Pure Go.Proofs.YtnnaiaiddjkjnaaDoor.PFnExactDeedText Go.Proofs.YtnnaiaiddjkjnaaDoorW.PrintWords
set_option linter.unusedVariables false
theorem own : ownKnob Tryd.prog.godebug = none := by kernel_rfl
theorem laidOut : laidOutB Tryd.prog = true := by kernel_rfl
theorem opensDeed {H : Type} (enc : TypeId × Value → H) (w : World) (base : Nat) (spare : Nat → Bool) (held : Bool) : Opens enc Tryd.prog w base spare held 23 (Kd.iso (Kd.pair (Kd.int .i64) (Kd.pair (Kd.int .i64) Kd.string)) (fun x : Int × Int × ByteArray => x)) (fun x => x.2.2.size ≤ maxLen) := fun fuel cs x h => by
  obtain ⟨a, hk, _, _, h2⟩ := opens_struct3 (g := fun x : Int × Int × ByteArray => x) (mk := fun a b c => (a, b, c)) (d0 := Kd.int .i64) (d1 := Kd.int .i64) (d2 := Kd.string) Tryd.underlying23 rfl rfl rfl (by kernel_rfl) (by kernel_rfl) (by kernel_rfl) (by kernel_rfl) (fun _ _ _ => rfl) (opens_int Tryd.underlying3) (opens_int Tryd.underlying3) (opens_string Tryd.underlying9) fuel cs x h
  exact ⟨a, hk, h2⟩
set_option maxRecDepth 100000 in
theorem door_met (os : Os) (args : Array Value) : laidMetH Tryd.prog Rows.fnExactDeedTextRow.laid ((World.doorLaid Tryd.prog 4000 os).forCall (fun _ _ => 0) ⟨#[], args, []⟩).memory :=
  laidMetH_of_parts3 (fuel := 8) (laidMet_of_run' 8 (by kernel_rfl) (by kernel_rfl)) (by kernel_rfl) (by kernel_rfl)
set_option maxRecDepth 100000 in
theorem lifted (os : Os) (started : os.Started) (H : Type) (enc : TypeId × Value → H) :
    ReturnsInHanded {} Tryd.checked os 3 .any (fun w args => (Rows.fnExactDeedTextSpec.pre enc Tryd.prog Tryd.f3 [] false w args ∧ laidMetH Tryd.prog Rows.fnExactDeedTextRow.laid w) ∧ sizedMet enc Tryd.prog Tryd.f3 (OpenSpec.ofChange Rows.fnExactDeedTextSpec) false w args) (Rows.fnExactDeedTextSpec.post enc Tryd.prog Tryd.f3 false true false false) := by
  refine returnsInHanded_of_change_and (C := Tryd.checked) (X := fun w _ => laidMetH Tryd.prog Rows.fnExactDeedTextRow.laid w) (fun _ _ _ hh h => h.of_heap hh) own started (by kernel_rfl) Tryd.func3
    (ChangeSpec.witness_shaped (enc := enc) (C := Tryd.checked) (os := os) (X := fun w _ => laidMetH Tryd.prog Rows.fnExactDeedTextRow.laid w) false (World.doorLaid Tryd.prog 4000 os) #[.agg #[.int .i64 0, .int .i64 0, .string ByteArray.empty]] 8 rfl (World.shaped_of_RefB (by kernel_rfl) (by kernel_rfl)) (by kernel_rfl) (by kernel_rfl) (by kernel_rfl) (door_met os _)) ?_
  intro W base args ds gs before hval0 hW hcnd hsz0 hL _
  have hval : ∀ (j : Nat) t v, Tryd.f3.params[j]? = some t → args[j]? = some v → Value.okWide Tryd.prog W .any base t v := hval0
  have hW' := hW
  obtain ⟨p, q, hA0, hV, rfl, hfz, hnd⟩ := hW
  have hA : DataW.TrodAll enc Tryd.prog W 0 (fun _ => true) true Tryd.f3.params.toList args.toList ds p := hA0
  rw [Tryd.params3] at hA hval
  obtain ⟨v0, vs0, d0, ds0, p0, q0, hargs, rfl, rfl, h0, r0⟩ := trodAll_cons hA
  obtain ⟨rfl, rfl, rfl⟩ := trodAll_nil r0
  obtain rfl : args = #[v0] := by cases args; simp_all
  obtain ⟨rfl, rfl⟩ := trodVars_none hV
  have k0 := h0
  have lt0 : ∀ x ∈ p0, x.block < W.heap.size := by obtain ⟨m, hm⟩ := k0; exact DataW.trod_lt m _ _ _ hm
  obtain ⟨l, ⟨a0, a1, a2⟩, rfl, hk, qt⟩ := opens_arg Tryd.underlying23 (hval 0 23 v0 rfl rfl) h0 (opensDeed enc W 0 (fun _ => true) true)
  obtain ⟨c0, cr, rfl, rfl, c1, c2, rfl, rfl, rfl⟩ := hk
  clear hA0 hval0
  obtain ⟨k, hk⟩ := Pure.FnExactDeedText a0 a1 a2 qt
  refine (PFnExactDeedText.laws_FnExactDeedText.calls k a0 a1 a2 true W hk).mono fun e W' ⟨he, bel⟩ => ?_
  subst he
  exact ⟨_, rfl, _, _, _, [], _, [], hW', trodAll_mk1 (shut_bool Tryd.underlying4 _), (trodAll_cons_mk (Below.trod laidOut (by kernel_rfl) (of_decide_eq_true (by kernel_rfl)) k0 bel lt0) trodAll_mk0), rfl, bel.frame _, fun h => by cases h⟩
theorem over : Rows.fnExactDeedTextRow.holds Tryd.pinned (OpenSpec.ofChange Rows.fnExactDeedTextSpec) :=
  OpenClaim.holds_of_wide 3 Tryd.f3 rfl rfl rfl rfl rfl rfl rfl ⟨rfl, rfl, rfl, rfl, rfl⟩ rfl rfl rfl rfl rfl (by kernel_rfl) Tryd.func3 (by kernel_rfl)
    (of_decide_eq_true (by kernel_rfl)) (by unfold Func.isWrapper; first | (rw [if_pos (by decide +kernel)]; kernel_rfl) | (rw [if_neg (by decide +kernel)]; exact ⟨rfl, rfl⟩))
    (fun os started H enc _ => lifted os started H enc)
theorem proved : Rows.FnExactDeedTextSaid := over
theorem carded : Rows.FnExactDeedTextCardSaid :=
  Claim7.holds_tied_plain_at .later [] [.data, .data, .data] true Rows.fnExactDeedTextCard.stood.harness false
    over (fun _ h => by cases h) (by kernel_rfl) (fun _ h => by cases h) fnExactDeedText_row_tie rfl ⟨rfl, rfl⟩ (by kernel_rfl) rfl
    (fun f fn hf hfn => by
      obtain rfl : f = 3 := Option.some.inj ((show Tryd.prog.funcNamed "loop.example/quantifiers/laws.FnExactDeedText" = some 3 by kernel_rfl).symm.trans hf) |>.symm
      obtain rfl : fn = Tryd.f3 := (Option.some.inj (Tryd.func3.symm.trans hfn)).symm
      exact ⟨by kernel_rfl, fun j t ht => by
        rw [Tryd.params3] at ht
        have hall : (Tryd.f3.params.toList.all fun u => !Tryd.prog.wantsStandIn u) = true := by kernel_rfl
        rw [Tryd.params3] at hall
        have hm := Array.mem_of_getElem? ht
        exact (show Tryd.prog.wantsStandIn t = false by simpa using List.all_eq_true.1 hall t (by simpa using hm))⟩)
    (by kernel_rfl)
end Go.Proofs.YtnnaiaiddjkjnaaDoor.fnExactDeedText
namespace Go.Proofs.YtnnaiaiddjkjnaaDoor
/-- The row, under a short name, for the claim. -/
theorem fnExactDeedText_holds : Rows.FnExactDeedTextCardSaid := fnExactDeedText.carded
end Go.Proofs.YtnnaiaiddjkjnaaDoor
