-- Written by a program of this session (wip/patch_print.py, over the kit's print) and not by hand; Lean checks every word.
import Derived.Test.YtfjfdnododnepaaPFnReplacedInxb
import Derived.Test.YtfjfdnododnepaaPFnReplacedInx0
import Derived.Test.YtfjfdnododnepaaPFnReplacedInx1
import Derived.Test.YtfjfdnododnepaaPFnReplacedInx2
import Derived.Test.YtfjfdnododnepaaPFnReplacedInx3
import Derived.Test.YtfjfdnododnepaaPFnReplacedInx4
import Derived.Test.YtfjfdnododnepaaPFnReplacedInx5
import Derived.Test.YtfjfdnododnepaaPFnReplacedInx6
import Derived.Test.YtfjfdnododnepaaPFnReplacedInx7
namespace Go.Proofs.Ytfjfdnododnepaa.PFnReplacedIn
open Go.RowKit Go.Proofs.YtfjfdnododnepaaW.PrintWords Go.Proofs.YtfjfdnododnepaaW.PrintLast Go.Proofs.YtfjfdnododnepaaW.PrintMore
attribute [local go_sem] max2_int min2_int max_two min_two max_three min_three max_four min_four   -- for this text's walks alone
set_option linter.unusedVariables false
set_option linter.unusedSimpArgs false

/-! ### spec_l7Read: function 32 -/
def hold (t : List Int) (a s : Nat) : Bool := t.getD (a * (a + 1) / 2 + s) 0 == 1
def stay (t : List Int) (p : Nat → Nat → Bool) : Bool := (List.range 6).all fun a => (List.range (a + 1)).all fun s => !(hold t a s) || p a s
def mDo (t : List Int) : Bool := stay t fun a s => s == a || hold t a (s + 1)
def fDo (t : List Int) : Bool := stay t fun a s => s == 0 || hold t a (s - 1)
def mAre (t : List Int) : Bool := stay t fun a s => a == 5 || (hold t (a + 1) s && hold t (a + 1) (s + 1))
def fAre (t : List Int) : Bool := stay t fun a s => (s == 0 || hold t (a - 1) (s - 1)) && (s == a || hold t (a - 1) s)
def sig (more fewer : Bool) : Int := if more then 1 else if fewer then -1 else 0
def sg1 (t : List Int) : Int := sig (mAre t) (fAre t)
def sg2 (t : List Int) : Int := sig (mDo t) (fDo t)
theorem sig_range (a b : Bool) : sig a b = -1 ∨ sig a b = 0 ∨ sig a b = 1 := by cases a <;> cases b <;> simp [sig]
theorem mul_sig {s f : Int} (h0 : -1 ≤ s) (h1 : s ≤ 1) (hf : f = -1 ∨ f = 0 ∨ f = 1) : -1 ≤ s * f ∧ s * f ≤ 1 := by
  rcases hf with rfl | rfl | rfl <;> omega
def nms : List (List UInt8 × List Int) := [
  ([101, 118, 101, 114, 121], impl_triangleBy.M impl_namedTriangle.p1), ([115, 111, 109, 101], impl_triangleBy.M impl_namedTriangle.p2), ([110, 111], impl_triangleBy.M impl_namedTriangle.p3), ([109, 111, 115, 116], impl_triangleBy.M impl_namedTriangle.p4), ([101, 118, 101, 110], impl_triangleBy.M impl_namedTriangle.p5),
  ([97, 116, 108, 101, 97, 115, 116, 49], impl_triangleBy.M (impl_namedTriangle.p6 1)), ([97, 116, 108, 101, 97, 115, 116, 50], impl_triangleBy.M (impl_namedTriangle.p6 2)), ([97, 116, 108, 101, 97, 115, 116, 51], impl_triangleBy.M (impl_namedTriangle.p6 3)), ([97, 116, 108, 101, 97, 115, 116, 52], impl_triangleBy.M (impl_namedTriangle.p6 4)), ([97, 116, 108, 101, 97, 115, 116, 53], impl_triangleBy.M (impl_namedTriangle.p6 5)),
  ([106, 117, 115, 116, 48], impl_triangleBy.M (impl_namedTriangle.p7 0)), ([106, 117, 115, 116, 49], impl_triangleBy.M (impl_namedTriangle.p7 1)), ([106, 117, 115, 116, 50], impl_triangleBy.M (impl_namedTriangle.p7 2)), ([106, 117, 115, 116, 51], impl_triangleBy.M (impl_namedTriangle.p7 3)), ([106, 117, 115, 116, 52], impl_triangleBy.M (impl_namedTriangle.p7 4)), ([106, 117, 115, 116, 53], impl_triangleBy.M (impl_namedTriangle.p7 5)),
  ([97, 108, 108, 98, 117, 116, 48], impl_triangleBy.M (impl_namedTriangle.p8 0)), ([97, 108, 108, 98, 117, 116, 49], impl_triangleBy.M (impl_namedTriangle.p8 1)), ([97, 108, 108, 98, 117, 116, 50], impl_triangleBy.M (impl_namedTriangle.p8 2)), ([97, 108, 108, 98, 117, 116, 51], impl_triangleBy.M (impl_namedTriangle.p8 3)), ([97, 108, 108, 98, 117, 116, 52], impl_triangleBy.M (impl_namedTriangle.p8 4)), ([97, 108, 108, 98, 117, 116, 53], impl_triangleBy.M (impl_namedTriangle.p8 5))]
theorem nms_i : ∀ e ∈ nms, impl_namedTriangle.f ⟨e.1.toArray⟩ = some (e.2, true) := by decide +kernel
theorem nms_s : ∀ e ∈ nms, spec_NamedTriangle.f 200 ⟨e.1.toArray⟩ = some (e.2, true) := by decide +kernel
theorem nms_t : ∀ e ∈ nms, e.2.length = 21 ∧ spec_l7Signs.f 200 e.2 = some (sg1 e.2, sg2 e.2) := by decide +kernel
theorem bytes_of {x : ByteArray} {l : List UInt8} (h : x.data.toList = l) : x = ⟨l.toArray⟩ := by
  obtain ⟨⟨y⟩⟩ := x; simp at h; rw [h]
theorem ext_toList (b : ByteArray) (i j : Nat) : (b.extract i j).data.toList = (b.data.toList.take j).drop i := by
  rw [ByteArray.data_extract, Array.toList_extract]; rw [List.extract_eq_take_drop, List.drop_take]
theorem ba_append (a b : ByteArray) : (a ++ b).data.toList = a.data.toList ++ b.data.toList := by
  rw [ByteArray.data_append, Array.toList_append]
theorem bt_getD (s : ByteArray) (i : Nat) : bt s (i : Int) = ((s.data.toList.getD i 0).toNat : Int) := by
  unfold bt; rw [Int.toNat_natCast]; by_cases h : i < s.size
  · rw [dif_pos h]; (have h2 : i < s.data.toList.length := by rw [Array.length_toList]; exact h); rw [List.getD_eq_getElem?_getD, List.getElem?_eq_getElem h2]; rfl
  · rw [dif_neg h]; (have h2 : s.data.toList.length ≤ i := by rw [Array.length_toList]; exact Nat.le_of_not_lt h); rw [List.getD_eq_getElem?_getD, List.getElem?_eq_none h2]; rfl
theorem countIn_true {x w : ByteArray} {lo hi n : Int} (h : impl_countIn.f x w lo hi = some (n, true)) : lo ≤ n ∧ n ≤ hi ∧ ∃ c : UInt8, x.data.toList = w.data.toList ++ [c] ∧ n = (c.toNat : Int) - 48 := by
  unfold impl_countIn.f strings_CutPrefix.f stringslite_CutPrefix.f stringslite_HasPrefix.f at h; by_cases c : (x.size : Int) ≥ (w.size : Int)
  · (have c0 : 0 ≤ (w.size : Int) := by omega); (have c1 : (w.size : Int) ≤ (x.size : Int) := by omega); simp only [if_pos c, if_pos c0, if_pos c1, Option.bind_some, Int.toNat_natCast] at h
    cases hp : (x.extract 0 w.size).toList == w.toList with
    | false => rw [hp] at h; simp at h
    | true =>
      rw [hp] at h; simp only [if_true, Option.bind_some] at h; have hr := bt_range (x.extract w.size x.size) 0; (have e1 : wrap64 (bt (x.extract w.size x.size) 0) = bt (x.extract w.size x.size) 0 := by unfold wrap64; omega); (have e2 : wrap64 (bt (x.extract w.size x.size) 0 - 48) = bt (x.extract w.size x.size) 0 - 48 := by unfold wrap64; omega); rw [e1, e2] at h; clear e1 e2; by_cases c2 : ((x.extract w.size x.size).size : Int) = 1
      · rw [if_pos c2, if_pos (by omega)] at h
        have hx : x.data.toList.take w.size = w.data.toList := by
          have := eq_of_beq hp; rw [impl_namedTriangle.tl, impl_namedTriangle.tl, ext_toList, List.drop_zero] at this; exact this
        have hs : (x.extract w.size x.size).data.toList = x.data.toList.drop w.size := by
          rw [ext_toList, List.take_of_length_le (by rw [Array.length_toList]; exact Nat.le_refl _)]
        (have hlen : (x.data.toList.drop w.size).length = 1 := by rw [← hs, Array.length_toList]; exact Int.ofNat.inj c2); obtain ⟨b, hb⟩ := List.length_eq_one_iff.1 hlen
        have hbt : bt (x.extract w.size x.size) 0 = (b.toNat : Int) := by
          have := bt_getD (x.extract w.size x.size) 0; rw [hs, hb] at this; exact this
        rw [hbt] at h; (have hj : x.data.toList = w.data.toList ++ [b] := by rw [← hb, ← hx, List.take_append_drop]); split at h
        · rename_i hlo; simp only [Option.some.injEq, Prod.mk.injEq, decide_eq_true_eq] at h; exact ⟨by omega, by omega, b, hj, h.1.symm⟩
        · simp at h
      · rw [if_neg c2] at h; simp at h
  · simp only [if_neg c, Option.bind_some] at h; simp at h
theorem digit_of {c : UInt8} {n : Int} (h : n = (c.toNat : Int) - 48) (k : Nat) (hk : n = (k : Int)) (hk9 : k ≤ 9) : c = (48 + k).toUInt8 := by
  apply UInt8.toNat.inj; rw [Nat.toUInt8_eq, UInt8.toNat_ofNat']; omega
theorem ntri_some {x : ByteArray} {t : List Int} (h : ntri x = some t) : (x.data.toList, t) ∈ nms := by
  obtain ⟨n1, b1, h1, l1, u1⟩ := countIn_total x ⟨#[97, 116, 108, 101, 97, 115, 116]⟩ 1 5; obtain ⟨n2, b2, h2, l2, u2⟩ := countIn_total x ⟨#[106, 117, 115, 116]⟩ 0 5; obtain ⟨n3, b3, h3, l3, u3⟩ := countIn_total x ⟨#[97, 108, 108, 98, 117, 116]⟩ 0 5; unfold ntri impl_namedTriangle.f at h; rw [h1, h2, h3] at h; simp only [Option.bind_some] at h; rw [if_pos ⟨l1, u1, l2, u2, l3, u3⟩] at h; unfold impl_namedTriangle.pick at h
  cases b3 with
  | true =>
    obtain ⟨q1, q2, c, hx, hn⟩ := countIn_true h3; simp only [if_true, Option.some.injEq] at h; subst h; rw [hx]; rcases (show n3 = 0 ∨ n3 = 1 ∨ n3 = 2 ∨ n3 = 3 ∨ n3 = 4 ∨ n3 = 5 by omega) with rfl | rfl | rfl | rfl | rfl | rfl
    · rw [digit_of hn 0 rfl (by omega)]; simp [nms]
    · rw [digit_of hn 1 rfl (by omega)]; simp [nms]
    · rw [digit_of hn 2 rfl (by omega)]; simp [nms]
    · rw [digit_of hn 3 rfl (by omega)]; simp [nms]
    · rw [digit_of hn 4 rfl (by omega)]; simp [nms]
    · rw [digit_of hn 5 rfl (by omega)]; simp [nms]
  | false =>
    rw [if_neg (by simp)] at h
    cases b2 with
    | true =>
      obtain ⟨q1, q2, c, hx, hn⟩ := countIn_true h2; simp only [if_true, Option.some.injEq] at h; subst h; rw [hx]; rcases (show n2 = 0 ∨ n2 = 1 ∨ n2 = 2 ∨ n2 = 3 ∨ n2 = 4 ∨ n2 = 5 by omega) with rfl | rfl | rfl | rfl | rfl | rfl
      · rw [digit_of hn 0 rfl (by omega)]; simp [nms]
      · rw [digit_of hn 1 rfl (by omega)]; simp [nms]
      · rw [digit_of hn 2 rfl (by omega)]; simp [nms]
      · rw [digit_of hn 3 rfl (by omega)]; simp [nms]
      · rw [digit_of hn 4 rfl (by omega)]; simp [nms]
      · rw [digit_of hn 5 rfl (by omega)]; simp [nms]
    | false =>
      rw [if_neg (by simp)] at h
      cases b1 with
      | true =>
        obtain ⟨q1, q2, c, hx, hn⟩ := countIn_true h1; simp only [if_true, Option.some.injEq] at h; subst h; rw [hx]; rcases (show n1 = 1 ∨ n1 = 2 ∨ n1 = 3 ∨ n1 = 4 ∨ n1 = 5 by omega) with rfl | rfl | rfl | rfl | rfl
        · rw [digit_of hn 1 rfl (by omega)]; simp [nms]
        · rw [digit_of hn 2 rfl (by omega)]; simp [nms]
        · rw [digit_of hn 3 rfl (by omega)]; simp [nms]
        · rw [digit_of hn 4 rfl (by omega)]; simp [nms]
        · rw [digit_of hn 5 rfl (by omega)]; simp [nms]
      | false =>
        rw [if_neg (by simp)] at h; unfold impl_namedTriangle.plain at h; rw [impl_namedTriangle.tl] at h; split at h
        · rename_i t' heq; simp only [Option.some.injEq] at h; subst h; simp only [Option.some.injEq] at heq; repeat' split at heq
          all_goals first
            | (rename_i hx; rw [hx]; simp only [Prod.mk.injEq, and_true] at heq; subst heq; simp [nms])
            | (simp at heq)
        · cases h
theorem ntri_of {x : ByteArray} {t : List Int} (h : (x.data.toList, t) ∈ nms) : ntri x = some t := by
  have := nms_i _ h; rw [← bytes_of (x := x) rfl] at this; unfold ntri; rw [this]
theorem num_all : ∀ n : Fin 6, spec_l1Number.f 20 n.val = some ⟨#[(48 + n.val).toUInt8]⟩ := by decide +kernel
theorem num_at (k : Nat) (n : Nat) (h : n < 6) : spec_l1Number.f (k + 20) (n : Int) = some ⟨#[(48 + n).toUInt8]⟩ := at_rounds (spec_l1Number.mono (n : Int)) (by omega) (num_all ⟨n, h⟩)
theorem j2_none {x : ByteArray} (h : ∀ e ∈ nms, x.data.toList ≠ e.1) (K n : Nat) (hn : n < 6) : spec_NamedTriangle.j2 (K + 1) x (n : Int) ⟨#[(48 + n).toUInt8]⟩ false = spec_NamedTriangle.l1 K x ((n + 1 : Nat) : Int) := by
  (have hw : wrap64 ((n : Int) + 1) = ((n + 1 : Nat) : Int) := by unfold wrap64; omega); have hsz : (ByteArray.mk #[(48 + n).toUInt8]).size = 1 := rfl; rw [spec_NamedTriangle.j2.eq_2, if_neg (by simp), hsz, if_pos (by omega), if_neg, if_pos (by omega), if_neg, hw]
  · rw [impl_namedTriangle.tl, impl_namedTriangle.tl, ba_append]; rcases (show n = 0 ∨ n = 1 ∨ n = 2 ∨ n = 3 ∨ n = 4 ∨ n = 5 by omega) with rfl | rfl | rfl | rfl | rfl | rfl
    · exact h ([97, 108, 108, 98, 117, 116, 48], impl_triangleBy.M (impl_namedTriangle.p8 0)) (by simp [nms])
    · exact h ([97, 108, 108, 98, 117, 116, 49], impl_triangleBy.M (impl_namedTriangle.p8 1)) (by simp [nms])
    · exact h ([97, 108, 108, 98, 117, 116, 50], impl_triangleBy.M (impl_namedTriangle.p8 2)) (by simp [nms])
    · exact h ([97, 108, 108, 98, 117, 116, 51], impl_triangleBy.M (impl_namedTriangle.p8 3)) (by simp [nms])
    · exact h ([97, 108, 108, 98, 117, 116, 52], impl_triangleBy.M (impl_namedTriangle.p8 4)) (by simp [nms])
    · exact h ([97, 108, 108, 98, 117, 116, 53], impl_triangleBy.M (impl_namedTriangle.p8 5)) (by simp [nms])
  · rw [impl_namedTriangle.tl, impl_namedTriangle.tl, ba_append]; rcases (show n = 0 ∨ n = 1 ∨ n = 2 ∨ n = 3 ∨ n = 4 ∨ n = 5 by omega) with rfl | rfl | rfl | rfl | rfl | rfl
    · exact h ([106, 117, 115, 116, 48], impl_triangleBy.M (impl_namedTriangle.p7 0)) (by simp [nms])
    · exact h ([106, 117, 115, 116, 49], impl_triangleBy.M (impl_namedTriangle.p7 1)) (by simp [nms])
    · exact h ([106, 117, 115, 116, 50], impl_triangleBy.M (impl_namedTriangle.p7 2)) (by simp [nms])
    · exact h ([106, 117, 115, 116, 51], impl_triangleBy.M (impl_namedTriangle.p7 3)) (by simp [nms])
    · exact h ([106, 117, 115, 116, 52], impl_triangleBy.M (impl_namedTriangle.p7 4)) (by simp [nms])
    · exact h ([106, 117, 115, 116, 53], impl_triangleBy.M (impl_namedTriangle.p7 5)) (by simp [nms])
theorem l1_none {x : ByteArray} (h : ∀ e ∈ nms, x.data.toList ≠ e.1) (k : Nat) : ∀ d n : Nat, n + d = 6 → spec_NamedTriangle.l1 (k + 20 + 2 * d + 1) x (n : Int) = some ([], false)
  | 0, n, hn => by
    rw [spec_NamedTriangle.l1.eq_2, if_neg (by omega)]
  | d + 1, n, hn => by
    have ih := l1_none h k d (n + 1) (by omega); have hsz : (ByteArray.mk #[(48 + n).toUInt8]).size = 1 := rfl
    have h1 : spec_l1Number.f (k + 20 + 2 * (d + 1)) (n : Int) = some ⟨#[(48 + n).toUInt8]⟩ := by
      rw [show k + 20 + 2 * (d + 1) = (k + 2 * (d + 1)) + 20 by omega]; exact num_at _ n (by omega)
    have hj := j2_none h (k + 20 + 2 * d + 1) n (by omega); rw [spec_NamedTriangle.l1.eq_2, if_pos (by omega), h1, Option.bind_some, hsz, if_pos (by omega)]; rw [show k + 20 + 2 * (d + 1) = k + 20 + 2 * d + 1 + 1 by omega]; split
    · rename_i he; rw [impl_namedTriangle.tl, impl_namedTriangle.tl, ba_append] at he; rcases (show n = 0 ∨ n = 1 ∨ n = 2 ∨ n = 3 ∨ n = 4 ∨ n = 5 by omega) with rfl | rfl | rfl | rfl | rfl | rfl
      · rw [show decide (((0 : Nat) : Int) > 0) = false by decide, hj, ih]
      · exact absurd he (h ([97, 116, 108, 101, 97, 115, 116, 49], impl_triangleBy.M (impl_namedTriangle.p6 1)) (by simp [nms]))
      · exact absurd he (h ([97, 116, 108, 101, 97, 115, 116, 50], impl_triangleBy.M (impl_namedTriangle.p6 2)) (by simp [nms]))
      · exact absurd he (h ([97, 116, 108, 101, 97, 115, 116, 51], impl_triangleBy.M (impl_namedTriangle.p6 3)) (by simp [nms]))
      · exact absurd he (h ([97, 116, 108, 101, 97, 115, 116, 52], impl_triangleBy.M (impl_namedTriangle.p6 4)) (by simp [nms]))
      · exact absurd he (h ([97, 116, 108, 101, 97, 115, 116, 53], impl_triangleBy.M (impl_namedTriangle.p6 5)) (by simp [nms]))
    · rw [hj, ih]
theorem nm_none {x : ByteArray} (h : ∀ e ∈ nms, x.data.toList ≠ e.1) : spec_NamedTriangle.f 39 x = some ([], false) := by
  have h0 : ¬ x.toList = (rdOf ByteArray.empty ([(⟨#[101, 118, 101, 114, 121]⟩ : ByteArray), (⟨#[115, 111, 109, 101]⟩ : ByteArray), (⟨#[110, 111]⟩ : ByteArray), (⟨#[109, 111, 115, 116]⟩ : ByteArray), (⟨#[101, 118, 101, 110]⟩ : ByteArray)] : List ByteArray) 0).toList := by
    rw [impl_namedTriangle.tl, impl_namedTriangle.tl]; exact h ([101, 118, 101, 114, 121], impl_triangleBy.M impl_namedTriangle.p1) (by simp [nms])
  have h1 : ¬ x.toList = (rdOf ByteArray.empty ([(⟨#[101, 118, 101, 114, 121]⟩ : ByteArray), (⟨#[115, 111, 109, 101]⟩ : ByteArray), (⟨#[110, 111]⟩ : ByteArray), (⟨#[109, 111, 115, 116]⟩ : ByteArray), (⟨#[101, 118, 101, 110]⟩ : ByteArray)] : List ByteArray) 1).toList := by
    rw [impl_namedTriangle.tl, impl_namedTriangle.tl]; exact h ([115, 111, 109, 101], impl_triangleBy.M impl_namedTriangle.p2) (by simp [nms])
  have h2 : ¬ x.toList = (rdOf ByteArray.empty ([(⟨#[101, 118, 101, 114, 121]⟩ : ByteArray), (⟨#[115, 111, 109, 101]⟩ : ByteArray), (⟨#[110, 111]⟩ : ByteArray), (⟨#[109, 111, 115, 116]⟩ : ByteArray), (⟨#[101, 118, 101, 110]⟩ : ByteArray)] : List ByteArray) 2).toList := by
    rw [impl_namedTriangle.tl, impl_namedTriangle.tl]; exact h ([110, 111], impl_triangleBy.M impl_namedTriangle.p3) (by simp [nms])
  have h3 : ¬ x.toList = (rdOf ByteArray.empty ([(⟨#[101, 118, 101, 114, 121]⟩ : ByteArray), (⟨#[115, 111, 109, 101]⟩ : ByteArray), (⟨#[110, 111]⟩ : ByteArray), (⟨#[109, 111, 115, 116]⟩ : ByteArray), (⟨#[101, 118, 101, 110]⟩ : ByteArray)] : List ByteArray) 3).toList := by
    rw [impl_namedTriangle.tl, impl_namedTriangle.tl]; exact h ([109, 111, 115, 116], impl_triangleBy.M impl_namedTriangle.p4) (by simp [nms])
  have h4 : ¬ x.toList = (rdOf ByteArray.empty ([(⟨#[101, 118, 101, 114, 121]⟩ : ByteArray), (⟨#[115, 111, 109, 101]⟩ : ByteArray), (⟨#[110, 111]⟩ : ByteArray), (⟨#[109, 111, 115, 116]⟩ : ByteArray), (⟨#[101, 118, 101, 110]⟩ : ByteArray)] : List ByteArray) 4).toList := by
    rw [impl_namedTriangle.tl, impl_namedTriangle.tl]; exact h ([101, 118, 101, 110], impl_triangleBy.M impl_namedTriangle.p5) (by simp [nms])
  unfold spec_NamedTriangle.f; rw [spec_NamedTriangle.l0.eq_2 _ _ _ 38, if_pos (by decide), if_pos (by decide), if_neg h0, show wrap64 (0 + 1) = 1 by unfold wrap64; omega]; rw [spec_NamedTriangle.l0.eq_2 _ _ _ 37, if_pos (by decide), if_pos (by decide), if_neg h1, show wrap64 (1 + 1) = 2 by unfold wrap64; omega]; rw [spec_NamedTriangle.l0.eq_2 _ _ _ 36, if_pos (by decide), if_pos (by decide), if_neg h2, show wrap64 (2 + 1) = 3 by unfold wrap64; omega]; rw [spec_NamedTriangle.l0.eq_2 _ _ _ 35, if_pos (by decide), if_pos (by decide), if_neg h3, show wrap64 (3 + 1) = 4 by unfold wrap64; omega]; rw [spec_NamedTriangle.l0.eq_2 _ _ _ 34, if_pos (by decide), if_pos (by decide), if_neg h4, show wrap64 (4 + 1) = 5 by unfold wrap64; omega]; rw [spec_NamedTriangle.l0.eq_2 _ _ _ 33, if_neg (by decide)]; exact l1_none h 0 6 0 rfl
theorem snamed (x : ByteArray) : ∃ k, spec_NamedTriangle.f k x = some ((ntri x).getD [], (ntri x).isSome) := by
  by_cases h : ∀ e ∈ nms, x.data.toList ≠ e.1
  · refine ⟨39, ?_⟩
    have : ntri x = none := by
      cases hn : ntri x with
      | none => rfl
      | some t => exact absurd rfl (h _ (ntri_some hn))
    rw [this]; exact nm_none h
  · obtain ⟨e, he⟩ := Classical.not_forall.1 h; obtain ⟨he1, he2⟩ := Classical.not_imp.1 he; have hx := Classical.not_not.1 he2; refine ⟨200, ?_⟩; have h1 := nms_s e he1; rw [← hx, ← bytes_of (x := x) rfl] at h1; rw [ntri_of (t := e.2) (by rw [hx]; exact he1), h1]; rfl
def szv (x : Int) : Int := ((x.toNat % 2 + x.toNat / 2 % 2 + x.toNat / 4 % 2 : Nat) : Int)
def plc (a s : Int) : Int := ((a.toNat * (a.toNat + 1) / 2 + s.toNat : Nat) : Int)
theorem size_all : ∀ x : Fin 8, spec_l2Size.f 20 x.val = some (szv x.val) := by decide +kernel
theorem place_all : ∀ x y : Fin 8, spec_PlaceOf.f (szv x.val) (szv (band x.val y.val)) = some (plc (szv x.val) (szv (band x.val y.val))) ∧ 0 ≤ plc (szv x.val) (szv (band x.val y.val)) ∧ plc (szv x.val) (szv (band x.val y.val)) < 21 := by decide +kernel
theorem size_eq {x : Int} (h0 : 0 ≤ x) (h7 : x ≤ 7) : spec_l2Size.f 20 x = some (szv x) := by
  obtain ⟨a, rfl⟩ := fin_of h0 h7; exact size_all a
theorem place_eq {x y : Int} (h0 : 0 ≤ x) (h7 : x ≤ 7) (k0 : 0 ≤ y) (k7 : y ≤ 7) : spec_PlaceOf.f (szv x) (szv (band x y)) = some (plc (szv x) (szv (band x y))) ∧ 0 ≤ plc (szv x) (szv (band x y)) ∧ plc (szv x) (szv (band x y)) < 21 := by
  obtain ⟨a, rfl⟩ := fin_of h0 h7; obtain ⟨b, rfl⟩ := fin_of k0 k7; exact place_all a b
def truv (L : List Int) : PT → Bool
  | .leaf _ _ => false
  | .one _ p => !truv L p
  | .two c p q => if c = 38 then truv L p && truv L q else truv L p || truv L q
  | .tri t p q => rd t (plc (szv (setv L p)) (szv (band (setv L p) (setv L q)))) == 1
def sgns (w : Int) : PT → List Int
  | .leaf _ _ => []
  | .one _ p => sgns (-w) p
  | .two _ p q => sgns w p ++ sgns w q
  | .tri t p q => sgn (w * sg1 t) p ++ sgn (w * sg2 t) q
inductive SentT : PT → Prop where
  | one {p : PT} : SentT p → SentT (.one 126 p)
  | two {c : Int} {p q : PT} : c = 38 ∨ c = 124 → SentT p → SentT q → SentT (.two c p q)
  | tri {t : List Int} {p q : PT} (x : List UInt8) : (x, t) ∈ nms → SetT p → SetT q → SentT (.tri t p q)
theorem sgns_len : ∀ {p : PT} (w : Int), SentT p → (sgns w p).length = lvs p := by
  intro p w h
  induction h generalizing w with
  | one _ ih => exact ih (-w)
  | two _ _ _ ih1 ih2 => simp [sgns, lvs, ih1, ih2]
  | tri x _ h1 h2 => simp [sgns, lvs, sgn_len _ h1, sgn_len _ h2]
def ptri (s : ByteArray) (a : Nat) : Option (PT × Nat) :=
  if openAt s a < 0 then none
  else match ntri (s.extract a (a + (openAt s a).toNat)) with
    | none => none
    | some t => match ptwo (pset (s.size + 1) s) [44] 41 s (a + (openAt s a).toNat + 1) with
      | some (.two _ x y, e) => some (.tri t x y, e)
      | _ => none
theorem psent_tri {n : Nat} {s : ByteArray} {a : Nat} (h1 : (nxt s a).1 ≠ 126) (h2 : (nxt s a).1 ≠ 91) : psent (n + 1) s a = ptri s a := by
  (conv => lhs; unfold psent); rw [if_neg h1, if_neg h2]; rfl
theorem ind1 {z : Int} (h0 : 0 ≤ z) (h1 : z ≤ 255) : Lib.indexByte [44] z.toNat.toUInt8 < 0 ↔ ¬ z = 44 := by
  obtain ⟨n, rfl⟩ : ∃ n : Fin 256, z = (n.val : Int) := ⟨⟨z.toNat, by omega⟩, by simp; omega⟩; revert n; decide +kernel
theorem ptwo_44 {par : Nat → Option (PT × Nat)} {en : Int} {s : ByteArray} {a : Nat} {p : PT} {e : Nat} (h : ptwo par [44] en s a = some (p, e)) : ∃ x y a1 a3, par a = some (x, a1) ∧ par (nxt s a1).2 = some (y, a3) ∧ (nxt s a1).1 = 44 ∧ (nxt s a3).1 = en ∧ p = .two 44 x y ∧ e = (nxt s a3).2 := by
  unfold ptwo at h
  cases h1 : par a with
  | none => rw [h1] at h; cases h
  | some r =>
    obtain ⟨x, a1⟩ := r; rw [h1] at h; simp only at h; have hr := nxt_range s a1; split at h
    · cases h
    · rename_i hc; have h44 : (nxt s a1).1 = 44 := Decidable.byContradiction (fun hn => hc ((ind1 hr.1 hr.2).2 hn))
      cases h2 : par (nxt s a1).2 with
      | none => rw [h2] at h; cases h
      | some r =>
        obtain ⟨y, a3⟩ := r; rw [h2] at h; simp only at h; split at h
        · rename_i he; injection h with h; injection h with h h'; exact ⟨x, y, a1, a3, rfl, h2, h44, he, by rw [← h, h44], h'.symm⟩
        · cases h
theorem psent_ok (s : ByteArray) : ∀ n a p e, a ≤ s.size → psent n s a = some (p, e) → SentT p ∧ lvs p + a ≤ e
  | 0, a, p, a', _, h => by cases h
  | n + 1, a, p, a', ha, h => by
    by_cases c1 : (nxt s a).1 = 126
    · unfold psent at h; rw [if_pos c1] at h; obtain ⟨k1, k2⟩ := nxt_pos ha (show (nxt s a).1 ≠ 0 by omega)
      cases h1 : psent n s (a + 1) with
      | none => rw [h1] at h; cases h
      | some r =>
        obtain ⟨x, e⟩ := r; rw [h1] at h; obtain ⟨k3, k4⟩ := psent_ok s n (a + 1) x e k1 h1; injection h with h; injection h with h h'; subst h; subst h'; exact ⟨.one k3, by simp only [lvs]; omega⟩
    · by_cases c : (nxt s a).1 = 91
      · unfold psent at h; rw [if_neg c1, if_pos c] at h; obtain ⟨k1, k2⟩ := nxt_pos ha (show (nxt s a).1 ≠ 0 by omega); obtain ⟨x, y, a1, a3, h1, h2, h3, h4, h5, h6⟩ := ptwo_two h; have p1 := psent_place s n _ _ _ k1 h1; have p2 := nxt_le s a1 p1.2; have p3 := psent_place s n _ _ _ p2.2 h2; have p4 := nxt_le s a3 p3.2; obtain ⟨q1, q2⟩ := psent_ok s n _ _ _ k1 h1; obtain ⟨q3, q4⟩ := psent_ok s n _ _ _ p2.2 h2; subst h5; subst h6; exact ⟨.two h3 q1 q3, by simp only [lvs]; omega⟩
      · rw [psent_tri c1 c] at h; unfold ptri at h; split at h
        · cases h
        · rename_i hn; have hl := openAt_lt s a ha
          cases h0 : ntri (s.extract a (a + (openAt s a).toNat)) with
          | none => rw [h0] at h; cases h
          | some t =>
            rw [h0] at h; simp only at h
            cases hq : ptwo (pset (s.size + 1) s) [44] 41 s (a + (openAt s a).toNat + 1) with
            | none => rw [hq] at h; cases h
            | some r =>
              obtain ⟨r1, r2⟩ := r; obtain ⟨x, y, a1, a3, h1, h2, h3, h4, h5, h6⟩ := ptwo_44 hq; (have k1 : a + (openAt s a).toNat + 1 ≤ s.size := by omega); have p1 := pset_place s _ _ _ _ k1 h1; have p2 := nxt_le s a1 p1.2; have p3 := pset_place s _ _ _ _ p2.2 h2; have p4 := nxt_le s a3 p3.2; obtain ⟨q1, q2⟩ := pset_ok s _ _ _ _ k1 h1; obtain ⟨q3, q4⟩ := pset_ok s _ _ _ _ p2.2 h2; subst h5; subst h6; rw [hq] at h; simp only at h; injection h with h; injection h with h h'; subst h; subst h'; exact ⟨.tri _ (ntri_some h0) q1 q3, by simp only [lvs]; omega⟩
theorem idx_spec (c : UInt8) : ∀ l : List UInt8, (Lib.indexByte l c = -1 ∧ ∀ i, i < l.length → l.getD i 0 ≠ c) ∨ ∃ j : Nat, Lib.indexByte l c = j ∧ j < l.length ∧ l.getD j 0 = c ∧ ∀ i, i < j → l.getD i 0 ≠ c
  | [] => .inl ⟨rfl, fun i hi => absurd hi (by simp)⟩
  | b :: l => by
    unfold Lib.indexByte; by_cases hb : b == c
    · rw [if_pos hb]; exact .inr ⟨0, rfl, by simp, by simpa using hb, fun i hi => absurd hi (by omega)⟩
    · rw [if_neg hb]; (have hb' : b ≠ c := by simpa using hb); rcases idx_spec c l with ⟨h1, h2⟩ | ⟨j, h1, h2, h3, h4⟩
      · rw [if_pos (by rw [h1]; rfl)]; refine .inl ⟨rfl, fun i hi => ?_⟩
        cases i with
        | zero => simpa using hb'
        | succ i => rw [List.getD_cons_succ]; exact h2 i (by simp at hi; omega)
      · rw [if_neg (by rw [h1, beq_iff_eq]; omega), h1]; refine .inr ⟨j + 1, by omega, by simp; omega, by rw [List.getD_cons_succ]; exact h3, fun i hi => ?_⟩
        cases i with
        | zero => simpa using hb'
        | succ i => rw [List.getD_cons_succ]; exact h4 i (by omega)
theorem open_spec (s : ByteArray) (a : Nat) (h : a ≤ s.size) : ∃ o : Nat, a ≤ o ∧ o ≤ s.size ∧ (∀ i : Nat, a ≤ i → i < o → bt s i ≠ 40) ∧ ((openAt s a < 0 ∧ o = s.size) ∨ (¬ openAt s a < 0 ∧ o = a + (openAt s a).toNat ∧ o < s.size ∧ bt s o = 40)) := by
  have hd : (s.extract a s.size).data.toList = s.data.toList.drop a := by
    rw [ext_toList, List.take_of_length_le (by rw [Array.length_toList]; exact Nat.le_refl _)]
  have hlen : (s.data.toList.drop a).length = s.size - a := by rw [List.length_drop, Array.length_toList]; rfl
  have hg : ∀ i : Nat, (s.data.toList.drop a).getD i 0 = s.data.toList.getD (a + i) 0 := fun i => by
    rw [List.getD_eq_getElem?_getD, List.getElem?_drop, ← List.getD_eq_getElem?_getD]
  unfold openAt; rw [hd]; (have h40 : ∀ c : UInt8, (c.toNat : Int) = 40 ↔ c = 40 := fun c => ⟨fun hc => UInt8.toNat.inj (by show c.toNat = 40; omega), fun hc => by subst hc; rfl⟩); rcases idx_spec 40 (s.data.toList.drop a) with ⟨h1, h2⟩ | ⟨j, h1, h2, h3, h4⟩
  · refine ⟨s.size, h, Nat.le_refl _, fun i h3 h4 => ?_, .inl ⟨by rw [h1]; decide, rfl⟩⟩; rw [bt_getD, Ne, h40]; have := h2 (i - a) (by omega); rw [hg, show a + (i - a) = i by omega] at this; exact this
  · refine ⟨a + j, by omega, by omega, fun i h5 h6 => ?_, .inr ⟨by rw [h1]; omega, by rw [h1, Int.toNat_natCast], by omega, ?_⟩⟩
    · rw [bt_getD, Ne, h40]; have := h4 (i - a) (by omega); rw [hg, show a + (i - a) = i by omega] at this; exact this
    · rw [bt_getD, h40, ← hg]; exact h3
def PostQ (w0 w : World) (P : Nat → Prop) (r : Option (Bool × List Int × Nat)) (e : Ending) (w' : World) : Prop :=
  Below w0.heap.size w0 w' ∧ Kept w w' P ∧ match r with
  | none => ∃ (x : Bool) (v : Value), e = .returned (.tuple #[.bool x, v, .int .i64 (-1)])
  | some (x, l, q) => ∃ v, e = .returned (.tuple #[.bool x, v, .int .i64 (q : Int)]) ∧ Kd.R (Kd.int .i64) 3 w' w0.heap.size (fun k => P k ∨ w.heap.size ≤ k) v l
theorem PostQ.none {w0 w w' : World} {P : Nat → Prop} {x : Bool} {v : Value} (h : Below w0.heap.size w0 w') (k : Kept w w' P) : PostQ w0 w P none (.returned (.tuple #[.bool x, v, .int .i64 (-1)])) w' := And.intro h (And.intro k ⟨x, v, rfl⟩)
theorem PostQ.some {w0 w w' : World} {P : Nat → Prop} {x y : Bool} {v : Value} {l : List Int} {q : Nat} {i : Int} (h : Below w0.heap.size w0 w') (k : Kept w w' P) (hr : Kd.R (Kd.int .i64) 3 w' w0.heap.size (fun k => P k ∨ w.heap.size ≤ k) v l) (hx : y = x) (hi : i = (q : Int)) : PostQ w0 w P (some (x, l, q)) (.returned (.tuple #[.bool y, v, .int .i64 i])) w' := by
  subst hi; subst hx; exact And.intro h (And.intro k ⟨v, rfl, hr⟩)
def qres (L : List Int) (sign : Int) (l : List Int) : Option (PT × Nat) → Option (Bool × List Int × Nat)
  | none => none
  | some (p, e) => some (truv L p, l ++ sgns sign p, e)
section
variable {par : Nat → Option (PT × Nat)} {sg : List UInt8} {en : Int} {s : ByteArray} {a a1 a3 : Nat} {x y : PT}
theorem ptwo_n1 (h : par a = none) : ptwo par sg en s a = none := by unfold ptwo; rw [h]
theorem ptwo_n2 (h : par a = some (x, a1)) (k : Lib.indexByte sg (nxt s a1).1.toNat.toUInt8 < 0) : ptwo par sg en s a = none := by unfold ptwo; rw [h]; simp only; rw [if_pos k]
theorem ptwo_n3 (h : par a = some (x, a1)) (k : ¬ Lib.indexByte sg (nxt s a1).1.toNat.toUInt8 < 0) (h2 : par (nxt s a1).2 = none) : ptwo par sg en s a = none := by unfold ptwo; rw [h]; simp only; rw [if_neg k, h2]
theorem ptwo_n4 (h : par a = some (x, a1)) (k : ¬ Lib.indexByte sg (nxt s a1).1.toNat.toUInt8 < 0) (h2 : par (nxt s a1).2 = some (y, a3)) (k2 : (nxt s a3).1 ≠ en) : ptwo par sg en s a = none := by unfold ptwo; rw [h]; simp only; rw [if_neg k, h2]; simp only; rw [if_neg k2]
theorem ptwo_y (h : par a = some (x, a1)) (k : ¬ Lib.indexByte sg (nxt s a1).1.toNat.toUInt8 < 0) (h2 : par (nxt s a1).2 = some (y, a3)) (k2 : (nxt s a3).1 = en) : ptwo par sg en s a = some (.two (nxt s a1).1 x y, (nxt s a3).2) := by unfold ptwo; rw [h]; simp only; rw [if_neg k, h2]; simp only; rw [if_pos k2]
end
theorem wr_in2 {x : Int} (h : -9223372036854775808 ≤ x) (k : x ≤ 9223372036854775807) : wrap64 x = x := by unfold wrap64; omega
set_option maxHeartbeats 16000000 in
set_option maxRecDepth 100000 in
theorem spec_l7Read.walk (s : ByteArray) (hsz : s.size ≤ 17592186044415) (L : List Int) (hL : Sets L) (A : Option Addr) (c : Nat) (hc : L.length ≤ c) (w0 : World) : ∀ (n a : Nat) (sign : Int) (l : List Int) (u : Value) (P : Nat → Prop) (w : World), a ≤ s.size → s.size < a + n → -1 ≤ sign → sign ≤ 1 → l.length + (s.size - a) ≤ 17592186044415 → Below w0.heap.size w0 w →
    (∀ W_, Kept w W_ P → Kd.C (Kd.int .i64) W_ A L.length L) → Kd.R (Kd.int .i64) 3 w w0.heap.size P u l →
    Calls Try.prog 32 #[.slice A L.length c, .string s, .int .i64 (a : Int), .int .i64 sign, u] w (PostQ w0 w P (qres L sign l (psent n s a))) := by
  intro n
  induction n with
  | zero => intro a sign l u P w ha hn; exact absurd hn (by omega)
  | succ n ih =>
    intro a sign l u P w ha hn hs0 hs1 hln hB hS hR; obtain ⟨Au, cu, rfl⟩ := Kd.R_slice hR; by_cases hlt : a < s.size
    · have hz := nxt_range s a; (have hzb : (nxt s a).1 = bt s a := by rw [nxt_lt hlt]); have hx5 := bt_nat s a; (have p5 : 0 ≤ (a : Int) := by omega); (have q5 : (a : Int) < (s.size : Int) := by omega); have q6b : decide ((s.size : Int) ≤ (a : Int)) = false := decide_eq_false (by omega); have q6c : decide (s.size ≤ a) = false := decide_eq_false (by omega); have E1 : Aside0 (wrap64 ((a : Int) + 1) = (a : Int) + 1) := ⟨wr_in2 (by omega) (by omega)⟩; have HB := Aside0.mk hB; by_cases c2 : (nxt s a).1 = 126
      · unfold psent; rw [if_pos c2]; rw [hzb] at hz c2; rw [c2] at hx5; have HA : Calls Try.prog 32 #[.slice A L.length c, .string s, .int .i64 ((a : Int) + 1), .int .i64 (-sign), .slice Au l.length cu] w (PostQ w0 w P (qres L (-sign) l (psent n s (a + 1)))) := ih (a + 1) (-sign) l (.slice Au l.length cu) P w (by omega) (by omega) (by omega) (by omega) (by omega) hB hS hR; have G1 : Aside0 (wrap64 (-sign) = -sign) := ⟨wr_in2 (by omega) (by omega)⟩
        cases hp : psent n s (a + 1) with
        | none =>
          rw [hp] at HA; replace HA := Aside0.mk HA; simp only [qres]; clear ih hS hR hB hz hn ha hs0 hs1 hln hp hlt hzb c2; have e1 := E1.out; have g1 := G1.out; go_enter Try.func32, Try.ntmps32; go_wp2_with ((with_reducible refine HA.out.mono ?_); rintro e w2 ⟨hb2, hk2, x2, v2, rfl⟩; have HB2 := Aside0.mk hb2; have HK2 := Aside0.mk hk2; clear hb2 hk2); go_ret3; exact PostQ.none HB2.out HK2.out
        | some r =>
          obtain ⟨p, e⟩ := r; rw [hp] at HA; simp only [qres, sgns, truv] at HA ⊢; obtain ⟨X, hX⟩ : ∃ X, truv L p = X := ⟨_, rfl⟩; rw [hX] at HA ⊢; replace HA := Aside0.mk HA; clear ih hS hR hB hz hn ha hs0 hs1 hln hp hlt hzb hX c2; have e1 := E1.out; have g1 := G1.out; go_enter Try.func32, Try.ntmps32; go_wp2_with ((with_reducible refine HA.out.mono ?_); rintro e w2 ⟨hb2, hk2, v2, rfl, hr2⟩; have HB2 := Aside0.mk hb2; have HK2 := Aside0.mk hk2; have HR2 := Aside0.mk hr2; clear hb2 hk2 hr2); go_ret3; exact PostQ.some HB2.out HK2.out HR2.out (by first | rfl | (simp; done)) rfl
      · by_cases c3 : (nxt s a).1 = 91
        · unfold psent; rw [if_neg c2, if_pos c3]; rw [hzb] at hz c3; rw [c3] at hx5; clear c2; have HA : Calls Try.prog 32 #[.slice A L.length c, .string s, .int .i64 ((a : Int) + 1), .int .i64 sign, .slice Au l.length cu] w (PostQ w0 w P (qres L sign l (psent n s (a + 1)))) := ih (a + 1) sign l (.slice Au l.length cu) P w (by omega) (by omega) (by omega) (by omega) (by omega) hB hS hR; unfold ptwo
          cases hp : psent n s (a + 1) with
          | none =>
            rw [hp] at HA; replace HA := Aside0.mk HA; simp only [qres]; clear ih hS hR hB hz hn ha hs0 hs1 hln hlt hzb c3 hp; have e1 := E1.out; go_enter Try.func32, Try.ntmps32; go_wp2_with (first | ((with_reducible refine HA.out.mono ?_); rintro e w2 ⟨hb2, hk2, x2, v2, rfl⟩; have HB2 := Aside0.mk hb2; have HK2 := Aside0.mk hk2; clear hb2 hk2)); go_ret3; exact PostQ.none HB2.out HK2.out
          | some r =>
            obtain ⟨p, a1⟩ := r; obtain ⟨kp, kl⟩ := psent_ok s n (a + 1) p a1 (by omega) hp; obtain ⟨ka, kb⟩ := psent_place s n (a + 1) p a1 (by omega) hp; have hlen := sgns_len sign kp; rw [hp] at HA; simp only [qres] at HA ⊢; obtain ⟨X, hX⟩ : ∃ X, truv L p = X := ⟨_, rfl⟩; rw [hX] at HA; replace HA := Aside0.mk HA; have m0 : decide ((a1 : Int) < 0) = false := decide_eq_false (by omega); by_cases hl1 : a1 < s.size
            · have hz1 := nxt_range s a1; rw [nxt_lt hl1] at hz1 ⊢; have hx6 := bt_nat s a1; simp only at hz1 ⊢; obtain ⟨z1, hz2⟩ : ∃ z, bt s a1 = z := ⟨_, rfl⟩; rw [hz2] at hz1 hx6 ⊢; have m1 : decide ((s.size : Int) ≤ (a1 : Int)) = false := decide_eq_false (by omega); have m2 : decide (s.size ≤ a1) = false := decide_eq_false (by omega); (have m3 : 0 ≤ (a1 : Int) := by omega); (have m4 : (a1 : Int) < (s.size : Int) := by omega); by_cases c5 : z1 = 38 ∨ z1 = 124
              · rw [if_neg (fun hn => (ind2 hz1.1 hz1.2).1 hn c5)]; (have HQ : ∀ wx vx, Below w0.heap.size w0 wx → Kept w wx P → Kd.R (Kd.int .i64) 3 wx w0.heap.size (fun k => P k ∨ w.heap.size ≤ k) vx (l ++ sgns sign p) → Calls Try.prog 32 #[.slice A L.length c, .string s, .int .i64 ((a1 : Int) + 1), .int .i64 sign, vx] wx (PostQ w0 wx (fun k => P k ∨ w.heap.size ≤ k) (qres L sign (l ++ sgns sign p) (psent n s (a1 + 1)))) := fun wx vx hbx hkx hrx => ih (a1 + 1) sign (l ++ sgns sign p) vx (fun k => P k ∨ w.heap.size ≤ k) wx (by omega) (by omega) hs0 hs1 (by rw [List.length_append, hlen]; omega) hbx (fun W_ hk => hS W_ (hkx.then_ hk (fun k h => h))) hrx); have E2 : Aside0 (wrap64 ((a1 : Int) + 1) = (a1 : Int) + 1) := ⟨wr_in2 (by omega) (by omega)⟩
                cases hq : psent n s (a1 + 1) with
                | none =>
                  rw [hq] at HQ; replace HQ := Aside0.mk HQ; simp only [qres] at HQ ⊢; clear ih hS hR hB hz hn ha hs0 hs1 hln hlt hzb c3 hp hq kp kl ka kb hlen hX hl1 hz1 hz2; rcases c5 with rfl | rfl
                  all_goals
                    skip; have e2 := E2.out; have e1 := E1.out; go_enter Try.func32, Try.ntmps32; go_wp2_with (first | ((with_reducible refine HA.out.mono ?_); rintro e w2 ⟨hb2, hk2, v2, rfl, hr2⟩; have HB2 := Aside0.mk hb2; have HK2 := Aside0.mk hk2; have HR2 := Aside0.mk hr2; clear hb2 hk2 hr2) | ((with_reducible refine (HQ.out w2 v2 HB2.out HK2.out HR2.out).mono ?_); rintro e w3 ⟨hb3, hk3, x3, v3, rfl⟩; have HB3 := Aside0.mk hb3; have HK3 := Aside0.mk hk3; clear hb3 hk3)); go_ret3; exact PostQ.none HB3.out (HK2.out.then_ HK3.out (fun k h => h))
                | some r =>
                  obtain ⟨q, a3⟩ := r; obtain ⟨kp', kl'⟩ := psent_ok s n (a1 + 1) q a3 (by omega) hq; obtain ⟨ka', kb'⟩ := psent_place s n (a1 + 1) q a3 (by omega) hq; rw [hq] at HQ; simp only [qres] at HQ ⊢; have HV : Aside0 (truv L (PT.two z1 p q) = if z1 = 38 then X && truv L q else X || truv L q) := ⟨by rw [← hX]; rfl⟩; obtain ⟨Y, hY⟩ : ∃ Y, truv L q = Y := ⟨_, rfl⟩; rw [hY] at HQ HV; replace HQ := Aside0.mk HQ; have n0 : decide ((a3 : Int) < 0) = false := decide_eq_false (by omega); by_cases hl3 : a3 < s.size
                  · have hz3 := nxt_range s a3; rw [nxt_lt hl3] at hz3 ⊢; have hx7 := bt_nat s a3; simp only at hz3 ⊢; obtain ⟨z3, hz4⟩ : ∃ z, bt s a3 = z := ⟨_, rfl⟩; rw [hz4] at hz3 hx7 ⊢; have n1 : decide ((s.size : Int) ≤ (a3 : Int)) = false := decide_eq_false (by omega); have n2 : decide (s.size ≤ a3) = false := decide_eq_false (by omega); (have n3 : 0 ≤ (a3 : Int) := by omega); (have n4 : (a3 : Int) < (s.size : Int) := by omega); by_cases c6 : z3 = 93
                    · rw [if_pos c6]; subst c6; have E3 : Aside0 (wrap64 ((a3 : Int) + 1) = (a3 : Int) + 1) := ⟨wr_in2 (by omega) (by omega)⟩; simp only [qres, sgns]; rw [HV.out, ← List.append_assoc]; clear ih hS hR hB hz hn ha hs0 hs1 hln hlt hzb c3 hp hq kp kl ka kb hlen hX hl1 hz1 hz2 kp' kl' ka' kb' hY hl3 hz3 hz4; rcases c5 with rfl | rfl
                      · rw [if_pos rfl]; cases X <;> cases Y
                        all_goals
                          have e1 := E1.out; have e2 := E2.out; have e3 := E3.out; go_enter Try.func32, Try.ntmps32; go_wp2_with (first | ((with_reducible refine HA.out.mono ?_); rintro e w2 ⟨hb2, hk2, v2, rfl, hr2⟩; have HB2 := Aside0.mk hb2; have HK2 := Aside0.mk hk2; have HR2 := Aside0.mk hr2; clear hb2 hk2 hr2) | ((with_reducible refine (HQ.out w2 v2 HB2.out HK2.out HR2.out).mono ?_); rintro e w3 ⟨hb3, hk3, v3, rfl, hr3⟩; have HB3 := Aside0.mk hb3; have HK3 := Aside0.mk hk3; have HR3 := Aside0.mk hr3; clear hb3 hk3 hr3)); go_ret3; exact PostQ.some HB3.out (HK2.out.then_ HK3.out (fun k h => h)) (Kd.R_mono HR3.out (fun k hk => hk.elim id (fun h => .inr (Nat.le_trans HK2.out.1 h)))) rfl (by first | rfl | go_num)
                      · rw [if_neg (by decide)]; cases X <;> cases Y
                        all_goals
                          have e1 := E1.out; have e2 := E2.out; have e3 := E3.out; go_enter Try.func32, Try.ntmps32; go_wp2_with (first | ((with_reducible refine HA.out.mono ?_); rintro e w2 ⟨hb2, hk2, v2, rfl, hr2⟩; have HB2 := Aside0.mk hb2; have HK2 := Aside0.mk hk2; have HR2 := Aside0.mk hr2; clear hb2 hk2 hr2) | ((with_reducible refine (HQ.out w2 v2 HB2.out HK2.out HR2.out).mono ?_); rintro e w3 ⟨hb3, hk3, v3, rfl, hr3⟩; have HB3 := Aside0.mk hb3; have HK3 := Aside0.mk hk3; have HR3 := Aside0.mk hr3; clear hb3 hk3 hr3)); go_ret3; exact PostQ.some HB3.out (HK2.out.then_ HK3.out (fun k h => h)) (Kd.R_mono HR3.out (fun k hk => hk.elim id (fun h => .inr (Nat.le_trans HK2.out.1 h)))) rfl (by first | rfl | go_num)
                    · rw [if_neg c6]; (have d6 : (z3 != 93) = true := by simp [c6]); (have d7 : (z3 == 93) = false := by simp [c6]); simp only [qres]; clear ih hS hR hB hz hn ha hs0 hs1 hln hlt hzb c3 hp hq kp kl ka kb hlen hX hl1 hz1 hz2 kp' kl' ka' kb' hY hl3 hz3 hz4 HV c6; rcases c5 with rfl | rfl
                      all_goals
                        skip; have e2 := E2.out; have e1 := E1.out; go_enter Try.func32, Try.ntmps32; go_wp2_with (first | ((with_reducible refine HA.out.mono ?_); rintro e w2 ⟨hb2, hk2, v2, rfl, hr2⟩; have HB2 := Aside0.mk hb2; have HK2 := Aside0.mk hk2; have HR2 := Aside0.mk hr2; clear hb2 hk2 hr2) | ((with_reducible refine (HQ.out w2 v2 HB2.out HK2.out HR2.out).mono ?_); rintro e w3 ⟨hb3, hk3, v3, rfl, hr3⟩; have HB3 := Aside0.mk hb3; have HK3 := Aside0.mk hk3; have HR3 := Aside0.mk hr3; clear hb3 hk3 hr3)); go_ret3; exact PostQ.none HB3.out (HK2.out.then_ HK3.out (fun k h => h))
                  · rw [nxt_end hl3]; have n1 : decide ((s.size : Int) ≤ (a3 : Int)) = true := decide_eq_true (by omega); have n2 : decide (s.size ≤ a3) = true := decide_eq_true (by omega); rw [if_neg (by simp)]; simp only [qres]; clear ih hS hR hB hz hn ha hs0 hs1 hln hlt hzb c3 hp hq kp kl ka kb hlen hX hl1 hz1 hz2 kp' kl' ka' kb' hY hl3 HV; rcases c5 with rfl | rfl
                    all_goals
                      skip; have e2 := E2.out; have e1 := E1.out; go_enter Try.func32, Try.ntmps32; go_wp2_with (first | ((with_reducible refine HA.out.mono ?_); rintro e w2 ⟨hb2, hk2, v2, rfl, hr2⟩; have HB2 := Aside0.mk hb2; have HK2 := Aside0.mk hk2; have HR2 := Aside0.mk hr2; clear hb2 hk2 hr2) | ((with_reducible refine (HQ.out w2 v2 HB2.out HK2.out HR2.out).mono ?_); rintro e w3 ⟨hb3, hk3, v3, rfl, hr3⟩; have HB3 := Aside0.mk hb3; have HK3 := Aside0.mk hk3; have HR3 := Aside0.mk hr3; clear hb3 hk3 hr3)); go_ret3; exact PostQ.none HB3.out (HK2.out.then_ HK3.out (fun k h => h))
              · rw [if_pos ((ind2 hz1.1 hz1.2).2 c5)]; (have d4 : (z1 != 38) = true := by simp; omega); (have d5 : (z1 != 124) = true := by simp; omega); (have d4' : (z1 == 38) = false := by simp; omega); (have d5' : (z1 == 124) = false := by simp; omega); simp only [qres]; clear ih hS hR hB hz hn ha hs0 hs1 hln hlt hzb c3 hp kp kl ka kb hlen hX hl1 hz1 hz2 c5; have e1 := E1.out; go_enter Try.func32, Try.ntmps32; go_wp2_with (first | ((with_reducible refine HA.out.mono ?_); rintro e w2 ⟨hb2, hk2, v2, rfl, hr2⟩; have HB2 := Aside0.mk hb2; have HK2 := Aside0.mk hk2; have HR2 := Aside0.mk hr2; clear hb2 hk2 hr2)); go_ret3; exact PostQ.none HB2.out HK2.out
            · rw [nxt_end hl1]; have m1 : decide ((s.size : Int) ≤ (a1 : Int)) = true := decide_eq_true (by omega); have m2 : decide (s.size ≤ a1) = true := decide_eq_true (by omega); rw [if_pos (show Lib.indexByte [38, 124] (0 : Int).toNat.toUInt8 < 0 by decide)]; simp only [qres]; clear ih hS hR hB hz hn ha hs0 hs1 hln hlt hzb c3 hp kp kl ka kb hlen hX hl1; have e1 := E1.out; go_enter Try.func32, Try.ntmps32; go_wp2_with (first | ((with_reducible refine HA.out.mono ?_); rintro e w2 ⟨hb2, hk2, v2, rfl, hr2⟩; have HB2 := Aside0.mk hb2; have HK2 := Aside0.mk hk2; have HR2 := Aside0.mk hr2; clear hb2 hk2 hr2)); go_ret3; exact PostQ.none HB2.out HK2.out
        · skip; rw [psent_tri c2 c3]; rw [hzb] at hz c2 c3; obtain ⟨z, hz0⟩ : ∃ z, bt s a = z := ⟨_, rfl⟩; rw [hz0] at hz hx5 c2 c3; (have d2 : (z == 126) = false := by rw [beq_eq_false_iff_ne]; exact c2); (have d3 : (z == 91) = false := by rw [beq_eq_false_iff_ne]; exact c3); obtain ⟨o, ho1, ho2, ho3, ho4⟩ := open_spec s a ha; obtain ⟨R, hR0⟩ : ∃ R, qres L sign l (ptri s a) = R := ⟨_, rfl⟩; rw [hR0]; have HR0 := Aside0.mk hR0; have HS := Aside0.mk hS; have HU := Aside0.mk hR; have HO3 := Aside0.mk ho3; have HO4 := Aside0.mk ho4; have HOB := Az (And.intro ho1 ho2); have HG := Az (show s.size ≤ 17592186044415 ∧ -1 ≤ sign ∧ sign ≤ 1 ∧ l.length + (s.size - a) ≤ 17592186044415 ∧ a < s.size from ⟨hsz, hs0, hs1, hln, hlt⟩); have E1b := E1; clear ih hS hR hB hz hn ha hs0 hs1 hln hlt hzb c2 c3 hz0 hR0 ho1 ho2 ho3 ho4 hsz; go_enter Try.func32, Try.ntmps32; go_wp2; go_loopg [22] (o - a + 1) (fun kq v22 w' => ∃ i : Nat, v22 = .int .i64 i ∧ Aside0 (kq + i = o + 1 ∧ a ≤ i ∧ i ≤ o) ∧ w = w'); case atStart => exact ⟨a, rfl, ⟨by have := HOB.out; omega⟩, rfl⟩
          case round =>
            obtain ⟨i, rfl, HA, rfl⟩ := hrel
            cases gk with
            | zero => exact absurd HA.out (by omega)
            | succ k1 =>
              by_cases hi : i < o
              · have r1 : decide ((i : Int) < (s.size : Int)) = true := decide_eq_true (by have := HOB.out; omega); have r2 : decide (i < s.size) = true := decide_eq_true (by have := HOB.out; omega); (have r3 : 0 ≤ (i : Int) := by omega); (have r4 : (i : Int) < (s.size : Int) := by have := HOB.out; omega); have hx6 := bt_nat s i; have r5 := HO3.out i (by have := HA.out; omega) hi; obtain ⟨z1, hz1⟩ : ∃ z, bt s i = z := ⟨_, rfl⟩; rw [hz1] at hx6 r5; (have r6 : (z1 != 40) = true := by simp [r5]); (have r7 : (z1 == 40) = false := by simp [r5]); have HI := Aside0.mk hi; have E2 : Aside0 (wrap64 ((i : Int) + 1) = (i : Int) + 1) := ⟨wr_in2 (by omega) (by have := HG.out; have := HOB.out; omega)⟩; clear hi r5 hz1; have e2 := E2.out; go_wp2; go_roundg k1; (case measure => omega); case rel => exact ⟨i + 1, (by go_num), ⟨by have := HA.out; have := HI.out; omega⟩, rfl⟩
              · (obtain rfl : i = o := by have := HA.out; omega); obtain ⟨kn, hkn⟩ := snamed (s.extract a i); (have r3 : 0 ≤ (i : Int) := by omega); (have r4 : (a : Int) ≤ (i : Int) := by have := HA.out; omega); (have r5 : (i : Int) ≤ (s.size : Int) := by have := HOB.out; omega); clear hi; rcases HO4.out with ⟨o1, o2⟩ | ⟨o1, o2, o3, o4⟩
                · have HE : Aside0 (R = none) := ⟨by rw [← HR0.out]; unfold ptri; rw [if_pos o1]; rfl⟩; have r1 : decide ((i : Int) < (s.size : Int)) = false := decide_eq_false (by omega); have r2 : decide (i < s.size) = false := decide_eq_false (by omega); (have r6 : ((i : Int) == (s.size : Int)) = true := by rw [beq_iff_eq]; omega); clear o1 o2 HO4
                  cases hm : ntri (s.extract a i) with
                  | none =>
                    rw [hm] at hkn; have HN := Az (fun wx => spec_NamedTriangle.calls kn _ _ _ wx hkn); clear hkn hm; go_wp2_with (first | ((with_reducible refine gate_callee (f := 46) rfl ?_); refine goesL_ (some 156) rfl rfl Try.func46 (by kernel_rfl) rfl #[.string (s.extract a i)] rfl (by (try simp only [List.map_toArray, List.map_cons, List.map_nil]); first | done | rfl) ?_; (with_reducible refine (HN.out _).mono ?_); rintro e w1 ⟨v1, rfl, hr1, hb1⟩; have HB1 := Aside0.mk hb1; clear hr1 hb1; refine ⟨_, rfl, ?_⟩)); go_ret3; rw [HE.out]; exact PostQ.none (HB.out.trans (HB1.out.mono HB.out.size)) (Kept.of_below HB1.out P)
                  | some t =>
                    rw [hm] at hkn; have HN := Az (fun wx => spec_NamedTriangle.calls kn _ _ _ wx hkn); clear hkn hm; go_wp2_with (first | ((with_reducible refine gate_callee (f := 46) rfl ?_); refine goesL_ (some 156) rfl rfl Try.func46 (by kernel_rfl) rfl #[.string (s.extract a i)] rfl (by (try simp only [List.map_toArray, List.map_cons, List.map_nil]); first | done | rfl) ?_; (with_reducible refine (HN.out _).mono ?_); rintro e w1 ⟨v1, rfl, hr1, hb1⟩; have HB1 := Aside0.mk hb1; clear hr1 hb1; refine ⟨_, rfl, ?_⟩)); go_ret3; rw [HE.out]; exact PostQ.none (HB.out.trans (HB1.out.mono HB.out.size)) (Kept.of_below HB1.out P)
                · have r1 : decide ((i : Int) < (s.size : Int)) = true := decide_eq_true (by omega); have r2 : decide (i < s.size) = true := decide_eq_true (by omega); (have r6 : ((i : Int) == (s.size : Int)) = false := by rw [beq_eq_false_iff_ne]; omega); have hx6 := bt_nat s i; rw [o4] at hx6; (have r7 : (i : Int) < (s.size : Int) := by omega); have HP : Aside0 (ptri s a = match ntri (s.extract a i) with | none => none | some t => match ptwo (pset (s.size + 1) s) [44] 41 s (i + 1) with | some (.two _ x y, e) => some (.tri t x y, e) | _ => none) := ⟨by unfold ptri; rw [if_neg (by omega), ← o2]⟩; have HI := Az (And.intro o3 HA.out.2.1); clear o1 o2 o3 o4 HO4
                  cases hm : ntri (s.extract a i) with
                  | none =>
                    rw [hm] at hkn; have HE : Aside0 (R = none) := ⟨by rw [← HR0.out, HP.out, hm]; rfl⟩; have HN := Az (fun wx => spec_NamedTriangle.calls kn _ _ _ wx hkn); clear hkn hm; go_wp2_with (first | ((with_reducible refine gate_callee (f := 46) rfl ?_); refine goesL_ (some 156) rfl rfl Try.func46 (by kernel_rfl) rfl #[.string (s.extract a i)] rfl (by (try simp only [List.map_toArray, List.map_cons, List.map_nil]); first | done | rfl) ?_; (with_reducible refine (HN.out _).mono ?_); rintro e w1 ⟨v1, rfl, hr1, hb1⟩; have HB1 := Aside0.mk hb1; clear hr1 hb1; refine ⟨_, rfl, ?_⟩)); go_ret3; rw [HE.out]; exact PostQ.none (HB.out.trans (HB1.out.mono HB.out.size)) (Kept.of_below HB1.out P)
                  | some t =>
                    have htm := ntri_some hm; obtain ⟨t21, hsig⟩ := nms_t _ htm; simp only at t21 hsig; (replace hkn : spec_NamedTriangle.f kn (s.extract a i) = some (t, true) := by rw [hkn, hm]; rfl); have HM := Aside0.mk hm; have HN := Az (fun wx => spec_NamedTriangle.calls kn _ _ _ wx hkn); have T21 := Aside0.mk t21; have HSI := Aside0.mk hsig; have hg1 := mul_sig HG.out.2.1 HG.out.2.2.1 (sig_range (mAre t) (fAre t)); have hg2 := mul_sig HG.out.2.1 HG.out.2.2.1 (sig_range (mDo t) (fDo t)); obtain ⟨S1, hS1⟩ : ∃ x, sign * sg1 t = x := ⟨_, rfl⟩; obtain ⟨S2, hS2⟩ : ∃ x, sign * sg2 t = x := ⟨_, rfl⟩; have HSS := Az (And.intro hS1 hS2); rw [show sign * sig (mAre t) (fAre t) = S1 from hS1] at hg1; rw [show sign * sig (mDo t) (fDo t) = S2 from hS2] at hg2; have hlen := HG.out; have hI := HI.out; have HQ1 : Aside0 (∀ wx, Below w.heap.size w wx → Calls Try.prog 48 #[.slice A L.length c, .string s, .int .i64 ((i : Int) + 1), .int .i64 S1, .slice Au l.length cu] wx (PostS w0 wx (fun k => some k = (Value.slice Au l.length cu).ownBlock) (sres L S1 l (pset (s.size + 1) s (i + 1))))) := ⟨fun wx hb => spec_l7Set.calls s hlen.1 L hL A c hc w0 (s.size + 1) (i + 1) S1 l _ _ wx (by omega) (by omega) hg1.1 hg1.2 (by omega) (HB.out.trans (hb.mono HB.out.size)) (fun W_ hk => HS.out W_ ((Kept.of_below hb P).then_ hk (fun k h => .inl (HU.out.1 k h.symm)))) (Kd.R_step (Kd.R_tight rfl HU.out) (fun k _ hlt => hb.block k hlt))⟩; have E2 : Aside0 (wrap64 ((i : Int) + 1) = (i : Int) + 1) := ⟨wr_in2 (by omega) (by omega)⟩; have E3 : Aside0 (wrap64 S1 = S1) := ⟨wr_in2 (by omega) (by omega)⟩; have E4 : Aside0 (wrap64 S2 = S2) := ⟨wr_in2 (by omega) (by omega)⟩; have HF : Aside0 (qres L sign l (match ptwo (pset (s.size + 1) s) [44] 41 s (i + 1) with | some (.two _ x y, e) => some (.tri t x y, e) | _ => none) = R) := ⟨by rw [← HR0.out, HP.out, hm]⟩; have HSG := Az (show sign * sg1 t = S1 ∧ sign * sg2 t = S2 from ⟨hS1, hS2⟩); clear hkn hm htm t21 hsig HP HM; have hm1 : sign * sg1 t = S1 := hS1; have hm2 : sign * sg2 t = S2 := hS2; clear hS1 hS2
                    cases hp : pset (s.size + 1) s (i + 1) with
                    | none =>
                      have HE : Aside0 (R = none) := ⟨by rw [← HF.out, ptwo_n1 hp]; rfl⟩; rw [hp] at HQ1; simp only [sres] at HQ1; clear hp hg1 hg2 hlen hI; have e2 := E2.out; have e3 := E3.out; have e4 := E4.out; go_wp2_with (first | ((with_reducible refine gate_callee (f := 46) rfl ?_); refine goesL_ (some 156) rfl rfl Try.func46 (by kernel_rfl) rfl #[.string (s.extract a i)] rfl (by (try simp only [List.map_toArray, List.map_cons, List.map_nil]); first | done | rfl) ?_; (with_reducible refine (HN.out _).mono ?_); rintro e w1 ⟨v1, rfl, hr1, hb1⟩; obtain ⟨At, ct, e1⟩ := Kd.R_slice hr1; subst e1; have hrd := Kd.R_reads' hr1; obtain ⟨adt, hAt, _⟩ := Kd.at_int hrd.2.2 0 (by omega) (by rw [T21.out]; omega); subst hAt; have HC1 := Aside0.mk hrd.2.2; have HL1 := Aside0.mk hrd.2.1; have HT1 := Az (Kd.R_bound hr1); have HB1 := Aside0.mk hb1; clear hr1 hb1 hrd; refine ⟨_, rfl, ?_⟩) | (go_at_call 47; (with_reducible refine (spec_l7Signs.calls 200 _ _ t (sg1 t) (sg2 t) _ HC1.out HL1.out HSI.out).mono ?_); rintro e w' ⟨rfl, ⟨nd, rfl⟩⟩; have HBs := Az (pw_below_drewN HB1.out nd)) | ((with_reducible refine (HQ1.out _ HBs.out).mono ?_); rintro e w3 ⟨hb3, hk3, x3, v3, rfl⟩; have HB3 := Aside0.mk hb3; have HK3 := Aside0.mk hk3; clear hb3 hk3)); go_ret3; rw [HE.out]; exact PostQ.none HB3.out (((Kept.of_below HBs.out P).then_ HK3.out (fun k h => .inl (HU.out.1 k h.symm))))
                    | some r =>
                      obtain ⟨p, a1⟩ := r; obtain ⟨kp, kl⟩ := pset_ok s _ (i + 1) p a1 (by omega) hp; obtain ⟨ka, kb⟩ := pset_place s _ (i + 1) p a1 (by omega) hp; have hv := setv_range hL kp; have hsl := sgn_len S1 kp; rw [hp] at HQ1; simp only [sres] at HQ1; have m0 : decide ((a1 : Int) < 0) = false := decide_eq_false (by omega); have hz1 := nxt_range s a1; by_cases hl1 : a1 < s.size
                      · have hx8 := bt_nat s a1; have hn1 := nxt_lt hl1; obtain ⟨z1, hz2⟩ : ∃ z, bt s a1 = z := ⟨_, rfl⟩; rw [hz2] at hn1 hx8; rw [hn1] at hz1; simp only at hz1; have m1 : decide ((s.size : Int) ≤ (a1 : Int)) = false := decide_eq_false (by omega); have m2 : decide (s.size ≤ a1) = false := decide_eq_false (by omega); (have m3 : 0 ≤ (a1 : Int) := by omega); (have m4 : (a1 : Int) < (s.size : Int) := by omega); by_cases c5 : z1 = 44
                        · subst c5; (have hnn : ¬ Lib.indexByte [44] (nxt s a1).1.toNat.toUInt8 < 0 := by rw [hn1]; show ¬ Lib.indexByte [44] (44 : Int).toNat.toUInt8 < 0; decide); (have HQ2 : ∀ wx w3 v3, Below w.heap.size w wx → Below w0.heap.size w0 w3 → Kept wx w3 (fun k => some k = (Value.slice Au l.length cu).ownBlock) → Kd.R (Kd.int .i64) 3 w3 w0.heap.size (fun k => some k = (Value.slice Au l.length cu).ownBlock ∨ wx.heap.size ≤ k) v3 (l ++ sgn S1 p) → Calls Try.prog 48 #[.slice A L.length c, .string s, .int .i64 ((a1 : Int) + 1), .int .i64 S2, v3] w3 (PostS w0 w3 (fun k => some k = (Value.slice Au l.length cu).ownBlock ∨ wx.heap.size ≤ k) (sres L S2 (l ++ sgn S1 p) (pset (s.size + 1) s (a1 + 1)))) := fun wx w3 v3 hb hb3 hk3 hr3 => spec_l7Set.calls s hlen.1 L hL A c hc w0 (s.size + 1) (a1 + 1) S2 _ _ _ w3 (by omega) (by omega) hg2.1 hg2.2 (by rw [List.length_append, hsl]; omega) hb3 (fun W_ hk => HS.out W_ ((Kept.of_below hb P).then_ (hk3.then_ hk (fun k h => h)) (fun k h => .inl (HU.out.1 k h.symm)))) hr3); have E5 : Aside0 (wrap64 ((a1 : Int) + 1) = (a1 : Int) + 1) := ⟨wr_in2 (by omega) (by omega)⟩
                          cases hq : pset (s.size + 1) s (a1 + 1) with
                          | none =>
                            have HE : Aside0 (R = none) := ⟨by rw [← HF.out, ptwo_n3 hp hnn (by rw [hn1]; exact hq)]; rfl⟩; rw [hq] at HQ2; simp only [sres] at HQ2; replace HQ2 := Aside0.mk HQ2; clear hp hq hg1 hg2 hlen hI kp kl ka kb hv hsl hz1 hl1 hn1 hz2 hnn; have e5 := E5.out; have e2 := E2.out; have e3 := E3.out; have e4 := E4.out; go_wp2_with (first | ((with_reducible refine gate_callee (f := 46) rfl ?_); refine goesL_ (some 156) rfl rfl Try.func46 (by kernel_rfl) rfl #[.string (s.extract a i)] rfl (by (try simp only [List.map_toArray, List.map_cons, List.map_nil]); first | done | rfl) ?_; (with_reducible refine (HN.out _).mono ?_); rintro e w1 ⟨v1, rfl, hr1, hb1⟩; obtain ⟨At, ct, e1⟩ := Kd.R_slice hr1; subst e1; have hrd := Kd.R_reads' hr1; obtain ⟨adt, hAt, _⟩ := Kd.at_int hrd.2.2 0 (by omega) (by rw [T21.out]; omega); subst hAt; have HC1 := Aside0.mk hrd.2.2; have HL1 := Aside0.mk hrd.2.1; have HT1 := Az (Kd.R_bound hr1); have HB1 := Aside0.mk hb1; clear hr1 hb1 hrd; refine ⟨_, rfl, ?_⟩) | (go_at_call 47; (with_reducible refine (spec_l7Signs.calls 200 _ _ t (sg1 t) (sg2 t) _ HC1.out HL1.out HSI.out).mono ?_); rintro e w' ⟨rfl, ⟨nd, rfl⟩⟩; have HBs := Az (pw_below_drewN HB1.out nd)) | ((with_reducible refine (HQ1.out _ HBs.out).mono ?_); rintro e w3 ⟨hb3, hk3, v3, rfl, hr3⟩; have HB3 := Aside0.mk hb3; have HK3 := Aside0.mk hk3; have HR3 := Aside0.mk hr3; clear hb3 hk3 hr3) | ((with_reducible refine (HQ2.out _ w3 v3 HBs.out HB3.out HK3.out HR3.out).mono ?_); rintro e w4 ⟨hb4, hk4, x4, v4, rfl⟩; have HB4 := Aside0.mk hb4; have HK4 := Aside0.mk hk4; clear hb4 hk4)); go_ret3; rw [HE.out]; exact PostQ.none HB4.out ((Kept.of_below HBs.out P).then_ (HK3.out.then_ HK4.out (fun k h => h)) (fun k h => .inl (HU.out.1 k h.symm)))
                          | some r =>
                            obtain ⟨q, a3⟩ := r; obtain ⟨kq, kql⟩ := pset_ok s _ (a1 + 1) q a3 (by omega) hq; obtain ⟨kc, kd⟩ := pset_place s _ (a1 + 1) q a3 (by omega) hq; have hv2 := setv_range hL kq; rw [hq] at HQ2; simp only [sres] at HQ2; replace HQ2 := Aside0.mk HQ2; have n0 : decide ((a3 : Int) < 0) = false := decide_eq_false (by omega); (have hq' : pset (s.size + 1) s (nxt s a1).2 = some (q, a3) := by rw [hn1]; exact hq); by_cases hl3 : a3 < s.size
                            · have hx9 := bt_nat s a3; have hn3 := nxt_lt hl3; obtain ⟨z3, hz4⟩ : ∃ z, bt s a3 = z := ⟨_, rfl⟩; rw [hz4] at hn3 hx9; have n1 : decide ((s.size : Int) ≤ (a3 : Int)) = false := decide_eq_false (by omega); have n2 : decide (s.size ≤ a3) = false := decide_eq_false (by omega); (have n3 : 0 ≤ (a3 : Int) := by omega); (have n4 : (a3 : Int) < (s.size : Int) := by omega); by_cases c6 : z3 = 41
                              · subst c6; have HE : Aside0 (R = some (truv L (.tri t p q), l ++ sgns sign (.tri t p q), a3 + 1)) := ⟨by rw [← HF.out, ptwo_y hp hnn hq' (by rw [hn3])]; simp only [qres]; rw [hn3]⟩; have HV : Aside0 (truv L (.tri t p q) = (rd t (plc (szv (setv L p)) (szv (band (setv L p) (setv L q)))) == 1)) := ⟨rfl⟩; have HW : Aside0 (l ++ sgns sign (.tri t p q) = (l ++ sgn S1 p) ++ sgn S2 q) := ⟨by simp only [sgns]; rw [hm1, hm2, List.append_assoc]⟩; obtain ⟨X, hX⟩ : ∃ X, setv L p = X := ⟨_, rfl⟩; obtain ⟨Y, hY⟩ : ∃ Y, setv L q = Y := ⟨_, rfl⟩; rw [hX] at HQ1 hv HV; rw [hY] at HQ2 hv2 HV; have bf := band_facts hv.1 hv.2 hv2.1 hv2.2; have HBO := Az (fun wx => spec_l2Both.calls 20 X Y _ wx (both_eq hv.1 hv.2 hv2.1 hv2.2)); have HZ1 := Az (fun wx => spec_l2Size.calls 20 X _ wx (size_eq hv.1 hv.2)); have HZ2 := Az (fun wx => spec_l2Size.calls 20 (band X Y) _ wx (size_eq bf.1 bf.2.1)); have hpl := place_eq hv.1 hv.2 hv2.1 hv2.2; have HPL := Az (fun wx => spec_PlaceOf.calls (szv X) (szv (band X Y)) _ wx hpl.1); obtain ⟨pl, hpl0⟩ : ∃ x, plc (szv X) (szv (band X Y)) = x := ⟨_, rfl⟩; rw [hpl0] at HPL hpl HV; have q1 : 0 ≤ pl := hpl.2.1; (have q2 : pl < (t.length : Int) := by rw [T21.out]; exact hpl.2.2); have E6 : Aside0 (wrap64 ((a3 : Int) + 1) = (a3 : Int) + 1) := ⟨wr_in2 (by omega) (by omega)⟩; clear hp hq hq' hg1 hg2 hlen hI kp kl ka kb hv hsl hz1 hl1 hn1 hz2 hnn kq kql kc kd hv2 hl3 hn3 hz4 hX hY bf hpl hpl0; have e5 := E5.out; have e6 := E6.out; have e2 := E2.out; have e3 := E3.out; have e4 := E4.out; go_wp2_with (first | ((with_reducible refine gate_callee (f := 46) rfl ?_); refine goesL_ (some 156) rfl rfl Try.func46 (by kernel_rfl) rfl #[.string (s.extract a i)] rfl (by (try simp only [List.map_toArray, List.map_cons, List.map_nil]); first | done | rfl) ?_; (with_reducible refine (HN.out _).mono ?_); rintro e w1 ⟨v1, rfl, hr1, hb1⟩; obtain ⟨At, ct, e1⟩ := Kd.R_slice hr1; subst e1; have hrd := Kd.R_reads' hr1; obtain ⟨adt, hAt, _⟩ := Kd.at_int hrd.2.2 0 (by omega) (by rw [T21.out]; omega); subst hAt; have HC1 := Aside0.mk hrd.2.2; have HL1 := Aside0.mk hrd.2.1; have HT1 := Az (Kd.R_bound hr1); have HB1 := Aside0.mk hb1; clear hr1 hb1 hrd; refine ⟨_, rfl, ?_⟩) | (go_at_call 47; (with_reducible refine (spec_l7Signs.calls 200 _ _ t (sg1 t) (sg2 t) _ HC1.out HL1.out HSI.out).mono ?_); rintro e w' ⟨rfl, ⟨nd, rfl⟩⟩; have HBs := Az (pw_below_drewN HB1.out nd)) | ((with_reducible refine (HQ1.out _ HBs.out).mono ?_); rintro e w3 ⟨hb3, hk3, v3, rfl, hr3⟩; have HB3 := Aside0.mk hb3; have HK3 := Aside0.mk hk3; have HR3 := Aside0.mk hr3; clear hb3 hk3 hr3) | ((with_reducible refine (HQ2.out _ w3 v3 HBs.out HB3.out HK3.out HR3.out).mono ?_); rintro e w4 ⟨hb4, hk4, v4, rfl, hr4⟩; have HB4 := Aside0.mk hb4; have HK4 := Aside0.mk hk4; have HR4 := Aside0.mk hr4; clear hb4 hk4 hr4; obtain ⟨ad2, hA2, hcl2⟩ := Kd.at_int (Kd.R_reads' (Kd.R_kept (Kd.R_kept (Kd.R_drewN HT1.out nd) HK3.out (fun k hk h => by have := Kd.R_lt HU.out k h.symm; omega)) HK4.out (fun k hk h => h.elim (fun h => by have := Kd.R_lt HU.out k h.symm; omega) (fun h => by have := hk.2.2.1; have : w1.heap.size ≤ k := h; omega)))).2.2 pl q1 q2; have hA2 := Option.some.inj hA2; subst hA2) | (go_at_call 51; (with_reducible refine (HBO.out _).mono ?_); rintro e w' ⟨rfl, ⟨nd2, rfl⟩⟩) | (go_at_call 50; (with_reducible refine (HZ1.out _).mono ?_); rintro e w' ⟨rfl, ⟨nd2, rfl⟩⟩) | (go_at_call 50; (with_reducible refine (HZ2.out _).mono ?_); rintro e w' ⟨rfl, ⟨nd2, rfl⟩⟩) | (go_at_call 49; (with_reducible refine (HPL.out _).mono ?_); rintro e w' ⟨rfl, ⟨nd2, rfl⟩⟩)); go_ret3; rw [HE.out]; exact PostQ.some (by (with_reducible repeat apply pw_below_drewN); exact HB4.out) (by (with_reducible repeat apply Kept.drewN); exact ((Kept.of_below HBs.out P).then_ (HK3.out.then_ HK4.out (fun k h => h)) (fun k h => .inl (HU.out.1 k h.symm)))) (by rw [HW.out]; (with_reducible repeat apply Kd.R_drewN); exact Kd.R_mono HR4.out (fun k hk => hk.elim (fun h => h.elim (fun h => .inl (HU.out.1 k h.symm)) (fun h => .inr (Nat.le_trans HBs.out.size h))) (fun h => .inr (Nat.le_trans (Nat.le_trans HBs.out.size HK3.out.1) h)))) HV.out.symm (by first | (with_reducible rfl) | exact (Int.natCast_succ a3).symm | (rw [E6.out]; exact (Int.natCast_succ a3).symm))
                              · have HE : Aside0 (R = none) := ⟨by rw [← HF.out, ptwo_n4 hp hnn hq' (by rw [hn3]; exact c6)]; rfl⟩; (have d6 : (z3 != 41) = true := by simp [c6]); (have d7 : (z3 == 41) = false := by simp [c6]); clear hp hq hq' hg1 hg2 hlen hI kp kl ka kb hv hsl hz1 hl1 hn1 hz2 hnn kq kql kc kd hv2 hl3 hn3 hz4 c6; have e5 := E5.out; have e2 := E2.out; have e3 := E3.out; have e4 := E4.out; go_wp2_with (first | ((with_reducible refine gate_callee (f := 46) rfl ?_); refine goesL_ (some 156) rfl rfl Try.func46 (by kernel_rfl) rfl #[.string (s.extract a i)] rfl (by (try simp only [List.map_toArray, List.map_cons, List.map_nil]); first | done | rfl) ?_; (with_reducible refine (HN.out _).mono ?_); rintro e w1 ⟨v1, rfl, hr1, hb1⟩; obtain ⟨At, ct, e1⟩ := Kd.R_slice hr1; subst e1; have hrd := Kd.R_reads' hr1; obtain ⟨adt, hAt, _⟩ := Kd.at_int hrd.2.2 0 (by omega) (by rw [T21.out]; omega); subst hAt; have HC1 := Aside0.mk hrd.2.2; have HL1 := Aside0.mk hrd.2.1; have HT1 := Az (Kd.R_bound hr1); have HB1 := Aside0.mk hb1; clear hr1 hb1 hrd; refine ⟨_, rfl, ?_⟩) | (go_at_call 47; (with_reducible refine (spec_l7Signs.calls 200 _ _ t (sg1 t) (sg2 t) _ HC1.out HL1.out HSI.out).mono ?_); rintro e w' ⟨rfl, ⟨nd, rfl⟩⟩; have HBs := Az (pw_below_drewN HB1.out nd)) | ((with_reducible refine (HQ1.out _ HBs.out).mono ?_); rintro e w3 ⟨hb3, hk3, v3, rfl, hr3⟩; have HB3 := Aside0.mk hb3; have HK3 := Aside0.mk hk3; have HR3 := Aside0.mk hr3; clear hb3 hk3 hr3) | ((with_reducible refine (HQ2.out _ w3 v3 HBs.out HB3.out HK3.out HR3.out).mono ?_); rintro e w4 ⟨hb4, hk4, v4, rfl, hr4⟩; have HB4 := Aside0.mk hb4; have HK4 := Aside0.mk hk4; have HR4 := Aside0.mk hr4; clear hb4 hk4 hr4; skip)); go_ret3; rw [HE.out]; exact PostQ.none HB4.out ((Kept.of_below HBs.out P).then_ (HK3.out.then_ HK4.out (fun k h => h)) (fun k h => .inl (HU.out.1 k h.symm)))
                            · have HE : Aside0 (R = none) := ⟨by rw [← HF.out, ptwo_n4 hp hnn hq' (by rw [nxt_end hl3]; simp)]; rfl⟩; have n1 : decide ((s.size : Int) ≤ (a3 : Int)) = true := decide_eq_true (by omega); have n2 : decide (s.size ≤ a3) = true := decide_eq_true (by omega); clear hp hq hq' hg1 hg2 hlen hI kp kl ka kb hv hsl hz1 hl1 hn1 hz2 hnn kq kql kc kd hv2 hl3; have e5 := E5.out; have e2 := E2.out; have e3 := E3.out; have e4 := E4.out; go_wp2_with (first | ((with_reducible refine gate_callee (f := 46) rfl ?_); refine goesL_ (some 156) rfl rfl Try.func46 (by kernel_rfl) rfl #[.string (s.extract a i)] rfl (by (try simp only [List.map_toArray, List.map_cons, List.map_nil]); first | done | rfl) ?_; (with_reducible refine (HN.out _).mono ?_); rintro e w1 ⟨v1, rfl, hr1, hb1⟩; obtain ⟨At, ct, e1⟩ := Kd.R_slice hr1; subst e1; have hrd := Kd.R_reads' hr1; obtain ⟨adt, hAt, _⟩ := Kd.at_int hrd.2.2 0 (by omega) (by rw [T21.out]; omega); subst hAt; have HC1 := Aside0.mk hrd.2.2; have HL1 := Aside0.mk hrd.2.1; have HT1 := Az (Kd.R_bound hr1); have HB1 := Aside0.mk hb1; clear hr1 hb1 hrd; refine ⟨_, rfl, ?_⟩) | (go_at_call 47; (with_reducible refine (spec_l7Signs.calls 200 _ _ t (sg1 t) (sg2 t) _ HC1.out HL1.out HSI.out).mono ?_); rintro e w' ⟨rfl, ⟨nd, rfl⟩⟩; have HBs := Az (pw_below_drewN HB1.out nd)) | ((with_reducible refine (HQ1.out _ HBs.out).mono ?_); rintro e w3 ⟨hb3, hk3, v3, rfl, hr3⟩; have HB3 := Aside0.mk hb3; have HK3 := Aside0.mk hk3; have HR3 := Aside0.mk hr3; clear hb3 hk3 hr3) | ((with_reducible refine (HQ2.out _ w3 v3 HBs.out HB3.out HK3.out HR3.out).mono ?_); rintro e w4 ⟨hb4, hk4, v4, rfl, hr4⟩; have HB4 := Aside0.mk hb4; have HK4 := Aside0.mk hk4; have HR4 := Aside0.mk hr4; clear hb4 hk4 hr4; skip)); go_ret3; rw [HE.out]; exact PostQ.none HB4.out ((Kept.of_below HBs.out P).then_ (HK3.out.then_ HK4.out (fun k h => h)) (fun k h => .inl (HU.out.1 k h.symm)))
                        · have HE : Aside0 (R = none) := ⟨by rw [← HF.out, ptwo_n2 hp (by rw [hn1]; exact (ind1 hz1.1 hz1.2).2 c5)]; rfl⟩; (have d4 : (z1 != 44) = true := by simp [c5]); (have d5 : (z1 == 44) = false := by simp [c5]); clear hp hg1 hg2 hlen hI kp kl ka kb hv hsl hz1 hl1 hn1 hz2 c5; have e2 := E2.out; have e3 := E3.out; have e4 := E4.out; go_wp2_with (first | ((with_reducible refine gate_callee (f := 46) rfl ?_); refine goesL_ (some 156) rfl rfl Try.func46 (by kernel_rfl) rfl #[.string (s.extract a i)] rfl (by (try simp only [List.map_toArray, List.map_cons, List.map_nil]); first | done | rfl) ?_; (with_reducible refine (HN.out _).mono ?_); rintro e w1 ⟨v1, rfl, hr1, hb1⟩; obtain ⟨At, ct, e1⟩ := Kd.R_slice hr1; subst e1; have hrd := Kd.R_reads' hr1; obtain ⟨adt, hAt, _⟩ := Kd.at_int hrd.2.2 0 (by omega) (by rw [T21.out]; omega); subst hAt; have HC1 := Aside0.mk hrd.2.2; have HL1 := Aside0.mk hrd.2.1; have HT1 := Az (Kd.R_bound hr1); have HB1 := Aside0.mk hb1; clear hr1 hb1 hrd; refine ⟨_, rfl, ?_⟩) | (go_at_call 47; (with_reducible refine (spec_l7Signs.calls 200 _ _ t (sg1 t) (sg2 t) _ HC1.out HL1.out HSI.out).mono ?_); rintro e w' ⟨rfl, ⟨nd, rfl⟩⟩; have HBs := Az (pw_below_drewN HB1.out nd)) | ((with_reducible refine (HQ1.out _ HBs.out).mono ?_); rintro e w3 ⟨hb3, hk3, v3, rfl, hr3⟩; have HB3 := Aside0.mk hb3; have HK3 := Aside0.mk hk3; have HR3 := Aside0.mk hr3; clear hb3 hk3 hr3)); go_ret3; rw [HE.out]; exact PostQ.none HB3.out (((Kept.of_below HBs.out P).then_ HK3.out (fun k h => .inl (HU.out.1 k h.symm))))
                      · have HE : Aside0 (R = none) := ⟨by rw [← HF.out, ptwo_n2 hp (by rw [nxt_end hl1]; show Lib.indexByte [44] (0 : Int).toNat.toUInt8 < 0; decide)]; rfl⟩; have m1 : decide ((s.size : Int) ≤ (a1 : Int)) = true := decide_eq_true (by omega); have m2 : decide (s.size ≤ a1) = true := decide_eq_true (by omega); clear hp hg1 hg2 hlen hI kp kl ka kb hv hsl hz1 hl1; have e2 := E2.out; have e3 := E3.out; have e4 := E4.out; go_wp2_with (first | ((with_reducible refine gate_callee (f := 46) rfl ?_); refine goesL_ (some 156) rfl rfl Try.func46 (by kernel_rfl) rfl #[.string (s.extract a i)] rfl (by (try simp only [List.map_toArray, List.map_cons, List.map_nil]); first | done | rfl) ?_; (with_reducible refine (HN.out _).mono ?_); rintro e w1 ⟨v1, rfl, hr1, hb1⟩; obtain ⟨At, ct, e1⟩ := Kd.R_slice hr1; subst e1; have hrd := Kd.R_reads' hr1; obtain ⟨adt, hAt, _⟩ := Kd.at_int hrd.2.2 0 (by omega) (by rw [T21.out]; omega); subst hAt; have HC1 := Aside0.mk hrd.2.2; have HL1 := Aside0.mk hrd.2.1; have HT1 := Az (Kd.R_bound hr1); have HB1 := Aside0.mk hb1; clear hr1 hb1 hrd; refine ⟨_, rfl, ?_⟩) | (go_at_call 47; (with_reducible refine (spec_l7Signs.calls 200 _ _ t (sg1 t) (sg2 t) _ HC1.out HL1.out HSI.out).mono ?_); rintro e w' ⟨rfl, ⟨nd, rfl⟩⟩; have HBs := Az (pw_below_drewN HB1.out nd)) | ((with_reducible refine (HQ1.out _ HBs.out).mono ?_); rintro e w3 ⟨hb3, hk3, v3, rfl, hr3⟩; have HB3 := Aside0.mk hb3; have HK3 := Aside0.mk hk3; have HR3 := Aside0.mk hr3; clear hb3 hk3 hr3)); go_ret3; rw [HE.out]; exact PostQ.none HB3.out (((Kept.of_below HBs.out P).then_ HK3.out (fun k h => .inl (HU.out.1 k h.symm))))
    · (obtain rfl : a = s.size := by omega); have q6b : decide ((s.size : Int) ≤ (s.size : Int)) = true := decide_eq_true (Int.le_refl _)
      have hp : psent (n + 1) s s.size = none := by
        have h0 : nxt s s.size = (0, s.size) := nxt_end (by omega); rw [psent_tri (by rw [h0]; simp) (by rw [h0]; simp)]; unfold ptri; have := openAt_lt s s.size (Nat.le_refl _); rw [if_pos (by omega)]
      rw [hp]; simp only [qres]; have HB := Aside0.mk hB; clear hp hlt ih hS hR hB hn ha hs0 hs1 hln; go_enter Try.func32, Try.ntmps32; go_wp2; go_ret3; exact PostQ.none HB.out (Kept.refl _ _)
def setsOk (L : List Int) : Bool := L.length == 4 && (List.range 4).all fun i => decide (0 ≤ rd L (i : Int)) && decide (rd L (i : Int) ≤ 7)
theorem setsOk_sets {L : List Int} (h : setsOk L = true) : Sets L := by
  unfold setsOk at h; simp only [Bool.and_eq_true, beq_iff_eq, List.all_eq_true, List.mem_range, decide_eq_true_eq] at h; refine ⟨h.1, fun i h0 h4 => ?_⟩; have := h.2 i.toNat (by omega); rw [show ((i.toNat : Nat) : Int) = i by omega] at this; exact this
def spec_l7Read.f (l0 : List Int) (a1 : ByteArray) (a2 : Int) (a3 : Int) (l4 : List Int) : Option (Bool × List Int × Int) :=
  if setsOk l0 = true ∧ a2 = 0 ∧ -1 ≤ a3 ∧ a3 ≤ 1 ∧ a1.size ≤ 17000000000000 ∧ l4.length ≤ 1000 then
    match psent (a1.size + 1) a1 0 with
    | some (p, e) => some (truv l0 p, l4 ++ sgns a3 p, (e : Int))
    | none => none
  else none
theorem spec_l7Read.calls (A0 : Option Addr) (c0 : Nat) (l0 : List Int) (a1 : ByteArray) (a2 : Int) (a3 : Int) (P4_ : Nat → Prop) (u9004_ : Value) (l4 : List Int) (r1 : Bool) (r2 : List Int) (r3 : Int) (w0 w : World) (hB : Below w0.heap.size w0 w) (hr0 : ∀ W_, Kept w W_ (fun k_ => P4_ k_) → Kd.C (Kd.int .i64) W_ A0 l0.length l0) (hc0 : l0.length ≤ c0) (ho4 : Kd.R (Kd.int .i64) 3 w w0.heap.size P4_ u9004_ l4) (h : spec_l7Read.f l0 a1 a2 a3 l4 = some (r1, r2, r3)) :
    Calls Try.prog 32 #[.slice A0 l0.length c0, .string a1, .int .i64 a2, .int .i64 a3, u9004_] w fun e w' => ∃ v0_ : Value, e = .returned (.tuple #[.bool r1, v0_, .int .i64 r3]) ∧ Kd.R (Kd.int .i64) 3 w' w0.heap.size (fun k_ => (P4_ k_ ∨ w.heap.size ≤ k_)) v0_ r2 ∧ Below w0.heap.size w0 w' ∧ Kept w w' (fun k_ => P4_ k_) := by
  unfold spec_l7Read.f at h; split at h; (case isFalse => cases h); rename_i hc; obtain ⟨c1, rfl, c3, c4, c5, c6⟩ := hc; have HW := spec_l7Read.walk a1 (by omega) l0 (setsOk_sets c1) A0 c0 hc0 w0 (a1.size + 1) 0 a3 l4 u9004_ P4_ w (by omega) (by omega) c3 c4 (by omega) hB hr0 ho4
  cases hp : psent (a1.size + 1) a1 0 with
  | none => rw [hp] at h; cases h
  | some r =>
    obtain ⟨p, e⟩ := r; rw [hp] at h HW; simp only [Option.some.injEq, Prod.mk.injEq] at h; obtain ⟨rfl, rfl, rfl⟩ := h; refine HW.mono ?_; rintro e' w' ⟨hb, hk, v, he, hr⟩; exact ⟨v, he, hr, hb, hk⟩
theorem psent_top {s : ByteArray} {p : PT} (h : pread s = some p) : SentT p ∧ lvs p ≤ 80 ∧ s.size ≤ 80 ∧ psent (s.size + 1) s 0 = some (p, s.size) := by
  unfold pread at h; split at h
  · cases h
  · rename_i hc
    cases hp : psent (s.size + 1) s 0 with
    | none => rw [hp] at h; cases h
    | some r =>
      obtain ⟨q, e⟩ := r; rw [hp] at h; simp only at h; split at h
      · rename_i he; obtain rfl := Option.some.inj h; have := psent_ok s _ 0 q e (by omega) hp; subst he; exact ⟨this.1, by omega, by omega, rfl⟩
      · cases h

end Go.Proofs.Ytfjfdnododnepaa.PFnReplacedIn
