/- For every desk and every list of deeds the program's DeskRun answers what the reference's answers, leaves both as they were, and shares nothing with them; no condition. -/
import Derived.Test.YtnnaiaiddjkjnaaRows
import Derived.Test.YtnnaiaiddjkjnaaPFnExactDeskRunx16
import Derived.Test.YtnnaiaiddjkjnaaPFnExactDeskRunx8
import Derived.WalkKit
import Derived.ProofKit
import Derived.OpenShut
import Derived.ShutString
import Derived.ChangeOld
import Derived.ChangeSame
import Derived.Below
import Derived.SizedLaws
import Derived.Lib.SmallJoins
import Derived.Deep.Slices
import Derived.Deep.Fields
namespace Go.Proofs.Ytnnaiaiddjkjnaa.Pure
open Go.RowKit Go.Proofs.Ytnnaiaiddjkjnaa.PFnExactDeskRun Go.Proofs.YtnnaiaiddjkjnaaW.PrintWords Go.Proofs.YtnnaiaiddjkjnaaW.PrintLast
set_option linter.unusedVariables false
set_option linter.unusedSimpArgs false
/-! pack arith: numbers that do not wrap, and steps of 'from some number of rounds on' -/
theorem w64 {n : Int} (h0 : -9223372036854775808 ≤ n) (h1 : n ≤ 9223372036854775807) : wrap64 n = n := by unfold wrap64; omega
theorem ev_pos {α : Type} {c : Prop} [Decidable c] {a b : Nat → Option α} {r : α} (h : c) (H : Ev a r) : Ev (fun k => if c then a k else b k) r :=
  Ev.congr (fun _ => if_pos h) H
theorem ev_neg {α : Type} {c : Prop} [Decidable c] {a b : Nat → Option α} {r : α} (h : ¬ c) (H : Ev b r) : Ev (fun k => if c then a k else b k) r :=
  Ev.congr (fun _ => if_neg h) H
theorem ev_now {α : Type} {a r : α} (h : a = r) : Ev (fun _ => some a) r := h ▸ Ev.now a
theorem ev_of {α : Type} {o : Option α} {r : α} (h : o = some r) : Ev (fun _ => o) r := ⟨0, fun _ _ => h⟩
theorem ev_bind {α β : Type} {o : Option α} {f : Nat → α → Option β} {a : α} {r : β} (h : o = some a) (k : Ev (fun n => f n a) r) : Ev (fun n => o.bind (f n)) r :=
  Ev.congr (fun n => by rw [h]; rfl) k
theorem ev_eq {α : Type} {g : Nat → Option α} {r r' : α} (h : r = r') (k : Ev g r) : Ev g r' := h ▸ k

/-! pack weigh: texts of sentences -/
theorem tl (b : ByteArray) : b.toList = b.data.toList := ByteArray.toList_eq b
def wS (f : Nat) : List UInt8 := ([[97, 108, 108, 32], [115, 111, 109, 101, 32], [110, 111, 116, 32, 102, 101, 119, 101, 114, 32], [109, 111, 114, 101, 32], [109, 111, 115, 116, 32], [97, 116, 32, 109, 111, 115, 116, 32, 104, 97, 108, 102, 32]] : List (List UInt8)).getD f []
def wM (f : Nat) : List UInt8 := if f = 2 ∨ f = 3 then [32, 116, 104, 97, 110, 32] else [32, 97, 114, 101, 32]
def wT (o : Nat) : List UInt8 := ([[97], [110, 111, 110, 45, 97], [98], [110, 111, 110, 45, 98]] : List (List UInt8)).getD o []
def wL (f o t : Nat) : List UInt8 := wS f ++ wT o ++ wM f ++ wT t
def wB (f o t : Nat) : ByteArray := ⟨(wL f o t).toArray⟩
theorem wB_l (f o t : Nat) : (wB f o t).toList = wL f o t := by rw [tl]; simp [wB]
def iL (i : Nat) : List UInt8 := wL (i / 16) (i / 4 % 4) (i % 4)
def fnd (P : Nat → Bool) : Nat → Nat → Option Nat
  | 0, _ => none
  | d + 1, i => if P i then some i else fnd P d (i + 1)
def res : Option Nat → Int × Int × Int × Bool
  | none => (0, 0, 0, false)
  | some i => (((i / 16 : Nat) : Int), ((i / 4 % 4 : Nat) : Int), ((i % 4 : Nat) : Int), true)
def isT (x : ByteArray) (i : Nat) : Bool := iL i == x.toList
theorem iL_inj_all : ∀ i j : Fin 96, iL i.val = iL j.val → i = j := by decide +kernel
theorem iL_last_all : ∀ i : Fin 96, (iL i.val).getLast? ≠ some 32 := by decide +kernel
theorem iL_len_all : ∀ i : Fin 96, 0 < (iL i.val).length ∧ (iL i.val).length ≤ 100 := by decide +kernel
theorem fnd_some (P : Nat → Bool) (d : Nat) : ∀ i j, fnd P d i = some j → P j = true ∧ i ≤ j ∧ j < i + d := by
  induction d with
  | zero => intro i j h; simp [fnd] at h
  | succ d ih =>
    intro i j h
    unfold fnd at h
    by_cases c : P i = true
    · rw [if_pos c] at h; obtain rfl := Option.some.inj h; exact ⟨c, by omega, by omega⟩
    · rw [if_neg c] at h; obtain ⟨h1, h2, h3⟩ := ih _ _ h; exact ⟨h1, by omega, by omega⟩
theorem fnd_none (P : Nat → Bool) (d : Nat) : ∀ i, (∀ j, i ≤ j → j < i + d → P j = false) → fnd P d i = none := by
  induction d with
  | zero => intro i _; rfl
  | succ d ih =>
    intro i h
    unfold fnd
    rw [if_neg (by rw [h i (by omega) (by omega)]; simp)]
    exact ih _ (fun j h1 h2 => h j (by omega) (by omega))
theorem fnd_at (P : Nat → Bool) (d : Nat) : ∀ i j, i ≤ j → j < i + d → P j = true → (∀ m, i ≤ m → m < i + d → P m = true → m = j) → fnd P d i = some j := by
  induction d with
  | zero => intro i j h1 h2; omega
  | succ d ih =>
    intro i j h1 h2 hj hu
    unfold fnd
    by_cases c : P i = true
    · rw [if_pos c, hu i (by omega) (by omega) c]
    · rw [if_neg c]
      have : i ≠ j := fun e => c (by rw [e]; exact hj)
      exact ih _ _ (by omega) (by omega) hj (fun m a b => hu m (by omega) (by omega))
def rdW (x : ByteArray) : Option Nat := fnd (isT x) 96 0
theorem rdW_text {i : Nat} (hi : i < 96) {x : ByteArray} (hx : x.toList = iL i) : rdW x = some i := by
  refine fnd_at _ _ _ _ (by omega) (by omega) (by unfold isT; rw [hx]; simp) (fun m _ hm h => ?_)
  unfold isT at h
  rw [hx, beq_iff_eq] at h
  have := iL_inj_all ⟨m, by omega⟩ ⟨i, hi⟩ h
  simpa using this
theorem rdW_some {x : ByteArray} {i : Nat} (h : rdW x = some i) : i < 96 ∧ x.toList = iL i := by
  obtain ⟨h1, _, h3⟩ := fnd_some _ _ _ _ h
  unfold isT at h1
  exact ⟨by omega, (beq_iff_eq.mp h1).symm⟩
theorem rdW_space {x : ByteArray} {s : List UInt8} (hx : x.toList = s ++ [32]) : rdW x = none := by
  refine fnd_none _ _ _ (fun j _ hj => ?_)
  unfold isT
  rw [hx, beq_eq_false_iff_ne]
  intro e
  exact iL_last_all ⟨j, by omega⟩ (by simp only; rw [e]; simp)
theorem idx_of {f o t : Nat} (hf : f < 6) (ho : o < 4) (ht : t < 4) : ∃ i, i < 96 ∧ i / 16 = f ∧ i / 4 % 4 = o ∧ i % 4 = t := ⟨16 * f + 4 * o + t, by omega, by omega, by omega, by omega⟩

/-! pack weigh_i -/
theorem iwt_all : ∀ f : Fin 6, ∀ o t : Fin 4, impl_weighText.f (f.val : Int) (o.val : Int) (t.val : Int) = some (wB f.val o.val t.val) := by decide +kernel
theorem iwt {f o t : Nat} (hf : f < 6) (ho : o < 4) (ht : t < 4) : impl_weighText.f (f : Int) (o : Int) (t : Int) = some (wB f o t) := iwt_all ⟨f, hf⟩ ⟨o, ho⟩ ⟨t, ht⟩

/-! pack weigh_s -/
theorem swt_all : ∀ f : Fin 6, ∀ o t : Fin 4, spec_WeighText.f (f.val : Int) (o.val : Int) (t.val : Int) = some (wB f.val o.val t.val) := by decide +kernel
theorem swt {f o t : Nat} (hf : f < 6) (ho : o < 4) (ht : t < 4) : spec_WeighText.f (f : Int) (o : Int) (t : Int) = some (wB f o t) := swt_all ⟨f, hf⟩ ⟨o, ho⟩ ⟨t, ht⟩

/-! pack rdw_i: the program's reading -/
theorem irw_loop (x : ByteArray) (d : Nat) : ∀ i : Nat, i + d = 95 →
    Ev (fun k => impl_readWeigh.l2 k x ((i / 16 : Nat) : Int) ((i / 4 % 4 : Nat) : Int) ((i / 4 % 4 : Nat) : Int) ((i % 4 : Nat) : Int)) (res (fnd (isT x) (d + 1) i)) := by
  induction d with
  | zero =>
    intro i hi
    obtain rfl : i = 95 := by omega
    refine Ev.step (fun _ => impl_readWeigh.l2.eq_2 _ _ _ _ _ _) (ev_pos (by omega) (ev_bind (iwt (by omega) (by omega) (by omega)) ?_))
    rw [wB_l]
    unfold fnd
    by_cases h : iL 95 = x.toList
    · rw [if_pos (show isT x 95 = true by unfold isT; rw [h]; simp)]
      exact ev_pos h (ev_now rfl)
    · rw [if_neg (show ¬ isT x 95 = true by unfold isT; simpa using h)]
      refine ev_neg h (Ev.step (fun _ => impl_readWeigh.l2.eq_2 _ _ _ _ _ _) (ev_neg (by decide +kernel) (Ev.step (fun _ => impl_readWeigh.l1.eq_2 _ _ _ _) (ev_neg (by decide +kernel) (Ev.step (fun _ => impl_readWeigh.l0.eq_2 _ _ _) (ev_neg (by decide +kernel) (ev_now rfl)))))))
  | succ d ih =>
    intro i hi
    refine Ev.step (fun _ => impl_readWeigh.l2.eq_2 _ _ _ _ _ _) (ev_pos (by omega) (ev_bind (iwt (by omega) (by omega) (by omega)) ?_))
    rw [wB_l]
    unfold fnd
    by_cases h : iL i = x.toList
    · rw [if_pos (show isT x i = true by unfold isT; rw [h]; simp)]
      exact ev_pos h (ev_now rfl)
    · rw [if_neg (show ¬ isT x i = true by unfold isT; simpa using h)]
      have IH := ih (i + 1) (by omega)
      refine ev_neg h ?_
      rw [w64 (by omega) (by omega)]
      by_cases h3 : i % 4 = 3
      · rw [show (((i % 4 : Nat) : Int) + 1) = 4 by omega]
        refine Ev.step (fun _ => impl_readWeigh.l2.eq_2 _ _ _ _ _ _) (ev_neg (by decide) ?_)
        rw [w64 (by omega) (by omega)]
        by_cases h4 : i / 4 % 4 = 3
        · rw [show (((i / 4 % 4 : Nat) : Int) + 1) = 4 by omega]
          refine Ev.step (fun _ => impl_readWeigh.l1.eq_2 _ _ _ _) (ev_neg (by decide) ?_)
          rw [w64 (by omega) (by omega)]
          refine Ev.step (fun _ => impl_readWeigh.l0.eq_2 _ _ _) (ev_pos (by omega) (Ev.step (fun _ => impl_readWeigh.l1.eq_2 _ _ _ _) (ev_pos (by decide) ?_)))
          rw [show (i + 1) / 16 = i / 16 + 1 by omega, show (i + 1) / 4 % 4 = 0 by omega, show (i + 1) % 4 = 0 by omega] at IH
          exact IH
        · refine Ev.step (fun _ => impl_readWeigh.l1.eq_2 _ _ _ _) (ev_pos (by omega) ?_)
          rw [show (i + 1) / 16 = i / 16 by omega, show (i + 1) / 4 % 4 = i / 4 % 4 + 1 by omega, show (i + 1) % 4 = 0 by omega] at IH
          exact IH
      · rw [show (i + 1) / 16 = i / 16 by omega, show (i + 1) / 4 % 4 = i / 4 % 4 by omega, show (i + 1) % 4 = i % 4 + 1 by omega] at IH
        exact IH
theorem irw (x : ByteArray) : Ev (fun k => impl_readWeigh.f k x) (res (rdW x)) := by
  unfold impl_readWeigh.f
  refine Ev.step (fun _ => impl_readWeigh.l0.eq_2 _ _ _) (ev_pos (by decide) (Ev.step (fun _ => impl_readWeigh.l1.eq_2 _ _ _ _) (ev_pos (by decide) (irw_loop x 95 0 (by omega)))))

/-! pack rdw_s: the reference's reading -/
theorem srw_loop (x : ByteArray) (d : Nat) : ∀ i : Nat, i + d = 95 →
    Ev (fun k => spec_ReadWeigh.l2 k x ((i / 16 : Nat) : Int) ((i / 4 % 4 : Nat) : Int) ((i % 4 : Nat) : Int)) (res (fnd (isT x) (d + 1) i)) := by
  induction d with
  | zero =>
    intro i hi
    obtain rfl : i = 95 := by omega
    refine Ev.step (fun _ => spec_ReadWeigh.l2.eq_2 _ _ _ _ _) (ev_pos (by omega) (ev_bind (swt (by omega) (by omega) (by omega)) ?_))
    rw [wB_l]
    unfold fnd
    by_cases h : iL 95 = x.toList
    · rw [if_pos (show isT x 95 = true by unfold isT; rw [h]; simp)]
      exact ev_pos h (ev_now rfl)
    · rw [if_neg (show ¬ isT x 95 = true by unfold isT; simpa using h)]
      refine ev_neg h (Ev.step (fun _ => spec_ReadWeigh.l2.eq_2 _ _ _ _ _) (ev_neg (by decide +kernel) (Ev.step (fun _ => spec_ReadWeigh.l1.eq_2 _ _ _ _) (ev_neg (by decide +kernel) (Ev.step (fun _ => spec_ReadWeigh.l0.eq_2 _ _ _) (ev_neg (by decide +kernel) (ev_now rfl)))))))
  | succ d ih =>
    intro i hi
    refine Ev.step (fun _ => spec_ReadWeigh.l2.eq_2 _ _ _ _ _) (ev_pos (by omega) (ev_bind (swt (by omega) (by omega) (by omega)) ?_))
    rw [wB_l]
    unfold fnd
    by_cases h : iL i = x.toList
    · rw [if_pos (show isT x i = true by unfold isT; rw [h]; simp)]
      exact ev_pos h (ev_now rfl)
    · rw [if_neg (show ¬ isT x i = true by unfold isT; simpa using h)]
      have IH := ih (i + 1) (by omega)
      refine ev_neg h ?_
      rw [w64 (by omega) (by omega)]
      by_cases h3 : i % 4 = 3
      · rw [show (((i % 4 : Nat) : Int) + 1) = 4 by omega]
        refine Ev.step (fun _ => spec_ReadWeigh.l2.eq_2 _ _ _ _ _) (ev_neg (by decide) ?_)
        rw [w64 (by omega) (by omega)]
        by_cases h4 : i / 4 % 4 = 3
        · rw [show (((i / 4 % 4 : Nat) : Int) + 1) = 4 by omega]
          refine Ev.step (fun _ => spec_ReadWeigh.l1.eq_2 _ _ _ _) (ev_neg (by decide) ?_)
          rw [w64 (by omega) (by omega)]
          refine Ev.step (fun _ => spec_ReadWeigh.l0.eq_2 _ _ _) (ev_pos (by omega) (Ev.step (fun _ => spec_ReadWeigh.l1.eq_2 _ _ _ _) (ev_pos (by decide) ?_)))
          rw [show (i + 1) / 16 = i / 16 + 1 by omega, show (i + 1) / 4 % 4 = 0 by omega, show (i + 1) % 4 = 0 by omega] at IH
          exact IH
        · refine Ev.step (fun _ => spec_ReadWeigh.l1.eq_2 _ _ _ _) (ev_pos (by omega) ?_)
          rw [show (i + 1) / 16 = i / 16 by omega, show (i + 1) / 4 % 4 = i / 4 % 4 + 1 by omega, show (i + 1) % 4 = 0 by omega] at IH
          exact IH
      · rw [show (i + 1) / 16 = i / 16 by omega, show (i + 1) / 4 % 4 = i / 4 % 4 by omega, show (i + 1) % 4 = i % 4 + 1 by omega] at IH
        exact IH
theorem srw (x : ByteArray) : Ev (fun k => spec_ReadWeigh.f k x) (res (rdW x)) := by
  unfold spec_ReadWeigh.f
  refine Ev.step (fun _ => spec_ReadWeigh.l0.eq_2 _ _ _) (ev_pos (by decide) (Ev.step (fun _ => spec_ReadWeigh.l1.eq_2 _ _ _ _) (ev_pos (by decide) (srw_loop x 95 0 (by omega)))))

/-! pack wok: which sentences are right -/
def wOk (f o t : Int) : Bool := decide (0 ≤ f ∧ f ≤ 5 ∧ 0 ≤ o ∧ o ≤ 3 ∧ 0 ≤ t ∧ t ≤ 3)
theorem wOk_nat {f o t : Int} (h : wOk f o t = true) : ∃ x y z : Nat, x < 6 ∧ y < 4 ∧ z < 4 ∧ f = x ∧ o = y ∧ t = z := by
  have h := of_decide_eq_true h
  exact ⟨f.toNat, o.toNat, t.toNat, by omega, by omega, by omega, by omega, by omega, by omega⟩
theorem iWeigh (f o t : Int) : impl_isWeigh.f f o t = some (wOk f o t) := by
  unfold impl_isWeigh.f wOk
  simp only [ge_iff_le]
  by_cases h1 : 0 ≤ f <;> by_cases h2 : f ≤ 5 <;> by_cases h3 : 0 ≤ o <;> by_cases h4 : o ≤ 3 <;> by_cases h5 : 0 ≤ t <;> by_cases h6 : t ≤ 3 <;> simp [h1, h2, h3, h4, h5, h6]

/-! pack wokd: which sentences are right by the reference -/
theorem sWeigh (f o t : Int) : spec_WeighOk.f f o t = some (wOk f o t) := by
  unfold spec_WeighOk.f spec_l1In.f wOk
  simp only [ge_iff_le]
  by_cases h1 : 0 ≤ f <;> by_cases h2 : f ≤ 5 <;> by_cases h3 : 0 ≤ o <;> by_cases h4 : o ≤ 3 <;> by_cases h5 : 0 ≤ t <;> by_cases h6 : t ≤ 3 <;> simp [h1, h2, h3, h4, h5, h6]

/-! pack rows: lists of sentences, which of them may lie on a desk -/
def eqS (x y : S25) : Bool := x.f0 == y.f0 && (x.f1 == y.f1 && x.f2 == y.f2)
theorem eqS_comm (x y : S25) : eqS x y = eqS y x := by
  have h (a b : Int) : (a == b) = (b == a) := by rw [Bool.eq_iff_iff, beq_iff_eq, beq_iff_eq]; exact eq_comm
  unfold eqS; rw [h x.f0, h x.f1, h x.f2]
theorem eqS_self (x : S25) : eqS x x = true := by simp [eqS]
theorem rdS_drop (l : List S25) (i : Nat) (h : i < l.length) : l.drop i = rd_T25 l (i : Int) :: l.drop (i + 1) := by
  rw [List.drop_eq_getElem_cons h]
  simp [rd_T25, List.getD_eq_getElem?_getD, List.getElem?_eq_getElem h]
theorem rdS_take (l : List S25) (i j : Nat) (h : j < i) (hi : i ≤ l.length) : (l.take i).drop j = rd_T25 l (j : Int) :: (l.take i).drop (j + 1) := by
  rw [List.drop_eq_getElem_cons (by rw [List.length_take]; omega)]
  simp [rd_T25, List.getD_eq_getElem?_getD, List.getElem?_eq_getElem (show j < l.length by omega)]
theorem say88 (l : List S25) (hl : l.length ≤ 1000000000) (x : S25) : ∀ r i : Nat, i + r = l.length → ∃ v, decide (v ≥ (0 : Int)) = (l.drop i).any (eqS x) ∧ Ev (fun k => impl_Say_88.l0 k l (l.length : Int) (i : Int) x.f0 x.f1 x.f2) v
  | 0, i, h => ⟨-1, by rw [List.drop_of_length_le (by omega)]; rfl, Ev.step (fun _ => impl_Say_88.l0.eq_2 _ _ _ _ _ _ _) (ev_neg (by omega) (ev_now rfl))⟩
  | r + 1, i, h => by
    by_cases he : eqS x (rd_T25 l (i : Int)) = true
    · refine ⟨i, by rw [rdS_drop l i (by omega), List.any_cons, he]; simp, Ev.step (fun _ => impl_Say_88.l0.eq_2 _ _ _ _ _ _ _) ?_⟩
      exact ev_pos (by omega) (ev_pos (by omega) (ev_pos (by omega) (ev_pos he (ev_now rfl))))
    · obtain ⟨v, hv, hE⟩ := say88 l hl x r (i + 1) (by omega)
      refine ⟨v, by rw [rdS_drop l i (by omega), List.any_cons, Bool.eq_false_iff.mpr he, hv]; rfl, Ev.step (fun _ => impl_Say_88.l0.eq_2 _ _ _ _ _ _ _) ?_⟩
      refine ev_pos (by omega) (ev_pos (by omega) (ev_pos (by omega) (ev_neg he ?_)))
      rw [w64 (by omega) (by omega)]; exact hE
theorem say83 (l : List S25) (hl : l.length ≤ 1000000000) (x : S25) : Ev (fun k => impl_Say_83.f k l x.f0 x.f1 x.f2) (l.any (eqS x)) := by
  obtain ⟨v, hv, hE⟩ := say88 l hl x l.length 0 (by omega)
  unfold impl_Say_83.f impl_Say_88.f
  exact Ev.bind hE (ev_now (by simpa using hv))
def rowR (L : List S25) : Nat → Nat → Bool
  | 0, _ => decide (L.length < 6)
  | r + 1, i => wOk (rd_T25 L (i : Int)).f0 (rd_T25 L (i : Int)).f1 (rd_T25 L (i : Int)).f2 && (!((L.take i).any (eqS (rd_T25 L (i : Int)))) && rowR L r (i + 1))
def rowB (L : List S25) : Bool := rowR L L.length 0
theorem areNow_l0 (L : List S25) (hl : L.length ≤ 1000000000) : ∀ r i : Nat, i + r = L.length → Ev (fun k => impl_areNow.l0 k L L (L.length : Int) (i : Int)) (rowR L r i)
  | 0, i, h => Ev.step (fun _ => impl_areNow.l0.eq_2 _ _ _ _ _) (ev_neg (by omega) (ev_now (by unfold rowR; exact decide_eq_decide.mpr (by omega))))
  | r + 1, i, h => by
    refine Ev.step (fun _ => impl_areNow.l0.eq_2 _ _ _ _ _) (ev_pos (by omega) (ev_pos (by omega) (ev_pos (by omega) (ev_bind (iWeigh _ _ _) ?_))))
    unfold rowR
    cases wOk (rd_T25 L (i : Int)).f0 (rd_T25 L (i : Int)).f1 (rd_T25 L (i : Int)).f2 with
    | false => exact ev_neg (by simp) (ev_now rfl)
    | true =>
      refine ev_pos rfl (ev_pos (by omega) ?_)
      rw [Int.toNat_natCast]
      refine Ev.bind (say83 (L.take i) (by rw [List.length_take]; omega) (rd_T25 L (i : Int))) ?_
      cases (L.take i).any (eqS (rd_T25 L (i : Int))) with
      | true => exact ev_pos rfl (ev_now rfl)
      | false =>
        refine ev_neg (by simp) ?_
        rw [w64 (by omega) (by omega)]
        exact areNow_l0 L hl r (i + 1) (by omega)
theorem areNow_ok (L : List S25) (hl : L.length ≤ 1000000000) : Ev (fun k => impl_areNow.f k L) (rowB L) := areNow_l0 L hl L.length 0 (by omega)
theorem l9_l1 (L : List S25) (hl : L.length ≤ 1000000000) (i : Nat) (hi : i < L.length) (res : Bool) (hE : Ev (fun k => spec_l9Row.l0 k L ((i + 1 : Nat) : Int)) res) :
    ∀ q j : Nat, j + q = i → Ev (fun k => spec_l9Row.l1 k L (i : Int) (j : Int)) (!(((L.take i).drop j).any (eqS (rd_T25 L (i : Int)))) && res)
  | 0, j, h => by
    refine Ev.step (fun _ => spec_l9Row.l1.eq_2 _ _ _ _) (ev_neg (by omega) ?_)
    rw [w64 (by omega) (by omega), List.drop_of_length_le (by rw [List.length_take]; omega)]
    exact hE
  | q + 1, j, h => by
    refine Ev.step (fun _ => spec_l9Row.l1.eq_2 _ _ _ _) (ev_pos (by omega) (ev_pos (by omega) (ev_pos (by omega) (ev_pos (by omega) (ev_pos (by omega) ?_)))))
    rw [rdS_take L i j (by omega) (by omega), List.any_cons, eqS_comm (rd_T25 L (i : Int)) (rd_T25 L (j : Int))]
    by_cases he : eqS (rd_T25 L (j : Int)) (rd_T25 L (i : Int)) = true
    · rw [he]; exact ev_pos he (ev_now rfl)
    · rw [Bool.eq_false_iff.mpr he]
      refine ev_neg he ?_
      rw [w64 (by omega) (by omega)]
      exact l9_l1 L hl i hi res hE q (j + 1) (by omega)
theorem l9_l0 (L : List S25) (hl : L.length ≤ 1000000000) : ∀ r i : Nat, i + r = L.length → Ev (fun k => spec_l9Row.l0 k L (i : Int)) (rowR L r i)
  | 0, i, h => Ev.step (fun _ => spec_l9Row.l0.eq_2 _ _ _) (ev_neg (by omega) (ev_now (by unfold rowR; exact decide_eq_decide.mpr (by omega))))
  | r + 1, i, h => by
    refine Ev.step (fun _ => spec_l9Row.l0.eq_2 _ _ _) (ev_pos (by omega) (ev_pos (by omega) (ev_bind (sWeigh _ _ _) ?_)))
    unfold rowR
    cases wOk (rd_T25 L (i : Int)).f0 (rd_T25 L (i : Int)).f1 (rd_T25 L (i : Int)).f2 with
    | false => exact ev_neg (by simp) (ev_now rfl)
    | true => exact ev_pos rfl (l9_l1 L hl i (by omega) _ (l9_l0 L hl r (i + 1) (by omega)) i 0 (by omega))
theorem l9_ok (L : List S25) (hl : L.length ≤ 1000000000) : Ev (fun k => spec_l9Row.f k L) (rowB L) := l9_l0 L hl L.length 0 (by omega)

/-! pack rdl: what lies in a list of lists -/
theorem rdL_drop (l : List (List S25)) (i : Nat) (h : i < l.length) : l.drop i = rd_L4 l (i : Int) :: l.drop (i + 1) := by
  rw [List.drop_eq_getElem_cons h]
  simp [rd_L4, List.getD_eq_getElem?_getD, List.getElem?_eq_getElem h]
theorem rdL_mem (l : List (List S25)) (i : Nat) (h : i < l.length) : rd_L4 l (i : Int) ∈ l := by
  have := rdL_drop l i h
  exact List.mem_of_mem_drop (i := i) (by rw [this]; exact List.mem_cons_self)

/-! pack valid: which desks are valid -/
def deskOk (N : List S25) (P : List (List S25)) : Bool := rowB N && (decide (P.length ≤ 10) && P.all rowB)
theorem isAll : ∀ (P : List (List S25)), (∀ x ∈ P, x.length ≤ 1000000000) → Ev (fun k => impl_isDesk.all k P) (P.all rowB)
  | [], _ => ev_now rfl
  | x :: r, h => by
    show Ev (fun k => (impl_areNow.f k x).bind fun t => if t = true then impl_isDesk.all k r else some false) _
    refine Ev.bind (areNow_ok x (h x List.mem_cons_self)) ?_
    rw [List.all_cons]
    cases rowB x with
    | false => exact ev_neg (by simp) (ev_now rfl)
    | true => exact ev_pos rfl (isAll r (fun y hy => h y (List.mem_cons_of_mem _ hy)))
theorem isDesk_ok (N : List S25) (P : List (List S25)) (hl : N.length ≤ 1000000000) (hp : ∀ x ∈ P, x.length ≤ 1000000000) : Ev (fun k => impl_isDesk.f k N P) (deskOk N P) := by
  unfold impl_isDesk.f deskOk
  refine Ev.bind (areNow_ok N hl) ?_
  cases rowB N with
  | false => exact ev_neg (by simp) (ev_now rfl)
  | true =>
    refine ev_pos rfl ?_
    by_cases h : P.length ≤ 10
    · rw [decide_eq_true h]; exact ev_pos (by omega) (isAll P hp)
    · rw [decide_eq_false h]; exact ev_neg (by omega) (ev_now rfl)

/-! pack valid_s: which desks are valid, by the reference -/
theorem specValid_l0 (N : List S25) (P : List (List S25)) (hl : N.length ≤ 1000000000) (hpl : P.length ≤ 1000000000) (hp : ∀ x ∈ P, x.length ≤ 1000000000) : ∀ r i : Nat, i + r = P.length →
    Ev (fun k => spec_DeskValid.l0 k (i : Int) N P) ((P.drop i).all rowB && (rowB N && decide (P.length ≤ 10)))
  | 0, i, h => by
    rw [List.drop_of_length_le (by omega)]
    refine Ev.step (fun _ => spec_DeskValid.l0.eq_2 _ _ _ _) (ev_neg (by omega) (Ev.bind (l9_ok N hl) ?_))
    cases rowB N with
    | false => exact ev_neg (by simp) (ev_now rfl)
    | true => exact ev_pos rfl (ev_now (by simp; omega))
  | r + 1, i, h => by
    rw [rdL_drop P i (by omega), List.all_cons]
    refine Ev.step (fun _ => spec_DeskValid.l0.eq_2 _ _ _ _) (ev_pos (by omega) (ev_pos (by omega) (Ev.bind (l9_ok _ (hp _ (rdL_mem P i (by omega)))) ?_)))
    cases rowB (rd_L4 P (i : Int)) with
    | false => exact ev_neg (by simp) (ev_now rfl)
    | true =>
      refine ev_pos rfl ?_
      rw [w64 (by omega) (by omega)]
      exact specValid_l0 N P hl hpl hp r (i + 1) (by omega)
theorem spec_DeskValid_ok (N : List S25) (P : List (List S25)) (hl : N.length ≤ 1000000000) (hpl : P.length ≤ 1000000000) (hp : ∀ x ∈ P, x.length ≤ 1000000000) : Ev (fun k => spec_DeskValid.f k N P) (deskOk N P) := by
  unfold spec_DeskValid.f
  refine ev_eq ?_ (specValid_l0 N P hl hpl hp P.length 0 (by omega))
  unfold deskOk
  rw [List.drop_zero]
  cases rowB N <;> cases P.all rowB <;> cases decide (P.length ≤ 10) <;> rfl

/-! pack todesk: a law's desk turned into the program's, and its size -/
def cS (x : S23) : S25 := ⟨x.f0, x.f1, x.f2⟩
theorem rd23_drop (l : List S23) (i : Nat) (h : i < l.length) : l.drop i = rd_T23 l (i : Int) :: l.drop (i + 1) := by
  rw [List.drop_eq_getElem_cons h]
  simp [rd_T23, List.getD_eq_getElem?_getD, List.getElem?_eq_getElem h]
theorem take_set {α : Type} (v : α) : ∀ (l : List α) (i : Nat), i < l.length → (l.set i v).take (i + 1) = l.take i ++ [v]
  | [], i, h => absurd h (by simp)
  | x :: r, 0, h => by simp
  | x :: r, i + 1, h => by simp [take_set v r i (by simpa using h)]
theorem toSayS_l0 (N : List S23) (hN : N.length ≤ 1000000000) : ∀ (r i : Nat) (acc : List S25), i + r = N.length → acc.length = N.length → Ev (fun k => laws_toSayS.l0 k N acc (i : Int)) (acc.take i ++ (N.drop i).map cS)
  | 0, i, acc, h, ha => by
    rw [List.drop_of_length_le (by omega), List.take_of_length_le (by omega)]
    exact Ev.step (fun _ => laws_toSayS.l0.eq_2 _ _ _ _) (ev_neg (by omega) (ev_now (by simp)))
  | r + 1, i, acc, h, ha => by
    refine Ev.step (fun _ => laws_toSayS.l0.eq_2 _ _ _ _) (ev_pos (by omega) (ev_pos (by omega) (ev_bind (a := ((rd_T23 N (i : Int)).f0, (rd_T23 N (i : Int)).f1, (rd_T23 N (i : Int)).f2)) rfl (ev_pos (by omega) ?_))))
    rw [w64 (by omega) (by omega), Int.toNat_natCast]
    refine ev_eq ?_ (toSayS_l0 N hN r (i + 1) _ (by omega) (by rw [List.length_set]; exact ha))
    rw [take_set _ _ _ (by omega), rd23_drop N i (by omega), List.map_cons, List.append_assoc]
    rfl
theorem toSayS_ok (N : List S23) (hN : N.length ≤ 1000000000) : Ev (fun k => laws_toSayS.f k N) (N.map cS) := by
  unfold laws_toSayS.f
  refine ev_pos (by omega) (ev_pos (by omega) ?_)
  rw [Int.toNat_natCast]
  exact ev_eq (by simp) (toSayS_l0 N hN N.length 0 _ (by omega) (by simp))
theorem szSayS_ok (N : List S23) (hN : N.length ≤ maxLen) (v : Int) (h0 : 0 ≤ v) (h1 : v ≤ 1048576) : ∃ u, laws_szSayS.f N v = some u ∧ (u < 0 ∨ (0 ≤ u ∧ u ≤ v ∧ N.length ≤ 1048576)) := by
  have hm : maxLen ≤ 9223372036854775807 := by decide
  unfold laws_szSayS.f
  rw [w64 (n := v - (N.length : Int)) (by omega) (by omega)]
  by_cases h : v - (N.length : Int) < 0
  · exact ⟨-1, by rw [if_pos h], .inl (by omega)⟩
  · exact ⟨_, by rw [if_neg h], .inr ⟨by omega, by omega, by omega⟩⟩

/-! pack todesks: lists of lists of sentences, and desks -/
theorem rdP_drop (l : List (List S23)) (i : Nat) (h : i < l.length) : l.drop i = rd_L2 l (i : Int) :: l.drop (i + 1) := by
  rw [List.drop_eq_getElem_cons h]
  simp [rd_L2, List.getD_eq_getElem?_getD, List.getElem?_eq_getElem h]
theorem rdP_mem (l : List (List S23)) (i : Nat) (h : i < l.length) : rd_L2 l (i : Int) ∈ l := by
  have := rdP_drop l i h
  exact List.mem_of_mem_drop (i := i) (by rw [this]; exact List.mem_cons_self)
theorem toSaySS_l0 (P : List (List S23)) (hP : P.length ≤ 1000000000) (hp : ∀ x ∈ P, x.length ≤ 1000000000) : ∀ (r i : Nat) (acc : List (List S25)), i + r = P.length → acc.length = P.length → Ev (fun k => laws_toSaySS.l0 k P acc (i : Int)) (acc.take i ++ (P.drop i).map (List.map cS))
  | 0, i, acc, h, ha => by
    rw [List.drop_of_length_le (by omega), List.take_of_length_le (by omega)]
    exact Ev.step (fun _ => laws_toSaySS.l0.eq_2 _ _ _ _) (ev_neg (by omega) (ev_now (by simp)))
  | r + 1, i, acc, h, ha => by
    refine Ev.step (fun _ => laws_toSaySS.l0.eq_2 _ _ _ _) (ev_pos (by omega) (ev_pos (by omega) (Ev.bind (toSayS_ok _ (hp _ (rdP_mem P i (by omega)))) (ev_pos (by omega) ?_))))
    rw [w64 (by omega) (by omega), Int.toNat_natCast]
    refine ev_eq ?_ (toSaySS_l0 P hP hp r (i + 1) _ (by omega) (by rw [List.length_set]; exact ha))
    rw [take_set _ _ _ (by omega), rdP_drop P i (by omega), List.map_cons, List.append_assoc]
    rfl
theorem toSaySS_ok (P : List (List S23)) (hP : P.length ≤ 1000000000) (hp : ∀ x ∈ P, x.length ≤ 1000000000) : Ev (fun k => laws_toSaySS.f k P) (P.map (List.map cS)) := by
  unfold laws_toSaySS.f
  refine ev_pos (by omega) (ev_pos (by omega) ?_)
  rw [Int.toNat_natCast]
  exact ev_eq (by simp) (toSaySS_l0 P hP hp P.length 0 _ (by omega) (by simp))
theorem toDesk_ok (N : List S23) (P : List (List S23)) (hN : N.length ≤ 1000000000) (hP : P.length ≤ 1000000000) (hp : ∀ x ∈ P, x.length ≤ 1000000000) : Ev (fun k => laws_toDesk.f k N P) (N.map cS, P.map (List.map cS)) := by
  unfold laws_toDesk.f
  exact Ev.bind (toSayS_ok N hN) (Ev.bind (toSaySS_ok P hP hp) (ev_now rfl))
theorem szSaySS_l0 (P : List (List S23)) (hP : P.length ≤ 1048576) (hp : ∀ x ∈ P, x.length ≤ maxLen) : ∀ (r i : Nat) (v : Int), i + r = P.length → 0 ≤ v → v ≤ 1048576 → ∃ u, Ev (fun k => laws_szSaySS.l0 k P v (i : Int)) u ∧ (u < 0 ∨ (0 ≤ u ∧ u ≤ v ∧ ∀ x ∈ P.drop i, x.length ≤ 1048576))
  | 0, i, v, h, h0, h1 => ⟨v, Ev.step (fun _ => laws_szSaySS.l0.eq_2 _ _ _ _) (ev_neg (by omega) (ev_now rfl)), .inr ⟨h0, Int.le_refl _, by rw [List.drop_of_length_le (by omega)]; simp⟩⟩
  | r + 1, i, v, h, h0, h1 => by
    obtain ⟨u, hu, hc⟩ := szSayS_ok (rd_L2 P (i : Int)) (hp _ (rdP_mem P i (by omega))) v h0 h1
    by_cases hn : u < 0
    · exact ⟨-1, Ev.step (fun _ => laws_szSaySS.l0.eq_2 _ _ _ _) (ev_pos (by omega) (ev_pos (by omega) (ev_bind hu (ev_pos hn (ev_now rfl))))), .inl (by omega)⟩
    · obtain ⟨c0, c1, c2⟩ := hc.resolve_left hn
      obtain ⟨z, hz, hd⟩ := szSaySS_l0 P hP hp r (i + 1) u (by omega) c0 (by omega)
      refine ⟨z, Ev.step (fun _ => laws_szSaySS.l0.eq_2 _ _ _ _) (ev_pos (by omega) (ev_pos (by omega) (ev_bind hu (ev_neg hn ?_)))), ?_⟩
      · rw [w64 (by omega) (by omega)]; exact hz
      · rcases hd with hd | ⟨d0, d1, d2⟩
        · exact .inl hd
        · refine .inr ⟨d0, by omega, fun x hx => ?_⟩
          rw [rdP_drop P i (by omega)] at hx
          rcases List.mem_cons.1 hx with rfl | hx
          · exact c2
          · exact d2 x hx
theorem szSaySS_ok (P : List (List S23)) (hP : P.length ≤ maxLen) (hp : ∀ x ∈ P, x.length ≤ maxLen) (v : Int) (h0 : 0 ≤ v) (h1 : v ≤ 1048576) : ∃ u, Ev (fun k => laws_szSaySS.f k P v) u ∧ (u < 0 ∨ (0 ≤ u ∧ u ≤ v ∧ P.length ≤ 1048576 ∧ ∀ x ∈ P, x.length ≤ 1048576)) := by
  have hm : maxLen ≤ 9223372036854775807 := by decide
  unfold laws_szSaySS.f
  rw [w64 (n := v - (P.length : Int)) (by omega) (by omega)]
  by_cases h : v - (P.length : Int) < 0
  · exact ⟨-1, ev_pos h (ev_now rfl), .inl (by omega)⟩
  · obtain ⟨u, hu, hc⟩ := szSaySS_l0 P (by omega) hp P.length 0 (v - (P.length : Int)) (by omega) (by omega) (by omega)
    refine ⟨u, ev_neg h hu, ?_⟩
    rcases hc with hc | ⟨c0, c1, c2⟩
    · exact .inl hc
    · exact .inr ⟨c0, by omega, by omega, by simpa using c2⟩
theorem szDesk_ok (N : List S23) (P : List (List S23)) (hN : N.length ≤ maxLen) (hP : P.length ≤ maxLen) (hp : ∀ x ∈ P, x.length ≤ maxLen) : ∃ u, Ev (fun k => laws_szDesk.f k N P 1048576) u ∧ (u < 0 ∨ (0 ≤ u ∧ u ≤ 1048576 ∧ N.length ≤ 1048576 ∧ P.length ≤ 1048576 ∧ ∀ x ∈ P, x.length ≤ 1048576)) := by
  unfold laws_szDesk.f
  obtain ⟨u, hu, hc⟩ := szSayS_ok N hN 1048576 (by omega) (by omega)
  by_cases hn : u < 0
  · exact ⟨-1, ev_bind hu (ev_pos hn (ev_now rfl)), .inl (by omega)⟩
  · obtain ⟨c0, c1, c2⟩ := hc.resolve_left hn
    obtain ⟨z, hz, hd⟩ := szSaySS_ok P hP hp u c0 c1
    by_cases hn2 : z < 0
    · exact ⟨-1, ev_bind hu (ev_neg hn (Ev.bind hz (ev_pos hn2 (ev_now rfl)))), .inl (by omega)⟩
    · obtain ⟨d0, d1, d2, d3⟩ := hd.resolve_left hn2
      exact ⟨z, ev_bind hu (ev_neg hn (Ev.bind hz (ev_neg hn2 (ev_now rfl)))), .inr ⟨d0, by omega, c2, d2, d3⟩⟩

/-! pack eqdesk: a desk is the same as itself -/
theorem eqSayS_l0 (L : List S25) (hl : L.length ≤ 1000000000) : ∀ r i : Nat, i + r = L.length → Ev (fun k => laws_eqSayS.l0 k L L (i : Int)) true
  | 0, i, h => Ev.step (fun _ => laws_eqSayS.l0.eq_2 _ _ _ _) (ev_neg (by omega) (ev_now rfl))
  | r + 1, i, h => by
    refine Ev.step (fun _ => laws_eqSayS.l0.eq_2 _ _ _ _) (ev_pos (by omega) (ev_pos (by omega) (ev_pos (by omega) (ev_bind (a := true) (by unfold laws_eqSay.f; simp) (ev_pos rfl ?_)))))
    rw [w64 (by omega) (by omega)]
    exact eqSayS_l0 L hl r (i + 1) (by omega)
theorem eqSayS_self (L : List S25) (hl : L.length ≤ 1000000000) : Ev (fun k => laws_eqSayS.f k L L) true := by
  unfold laws_eqSayS.f
  exact ev_pos rfl (eqSayS_l0 L hl L.length 0 (by omega))
theorem eqSaySS_l0 (P : List (List S25)) (hP : P.length ≤ 1000000000) (hp : ∀ x ∈ P, x.length ≤ 1000000000) : ∀ r i : Nat, i + r = P.length → Ev (fun k => laws_eqSaySS.l0 k P P (i : Int)) true
  | 0, i, h => Ev.step (fun _ => laws_eqSaySS.l0.eq_2 _ _ _ _) (ev_neg (by omega) (ev_now rfl))
  | r + 1, i, h => by
    refine Ev.step (fun _ => laws_eqSaySS.l0.eq_2 _ _ _ _) (ev_pos (by omega) (ev_pos (by omega) (ev_pos (by omega) (Ev.bind (eqSayS_self _ (hp _ (rdL_mem P i (by omega)))) (ev_pos rfl ?_)))))
    rw [w64 (by omega) (by omega)]
    exact eqSaySS_l0 P hP hp r (i + 1) (by omega)
theorem eqDesk_self (N : List S25) (P : List (List S25)) (hN : N.length ≤ 1000000000) (hP : P.length ≤ 1000000000) (hp : ∀ x ∈ P, x.length ≤ 1000000000) : Ev (fun k => laws_eqDesk.f k N P N P) true := by
  unfold laws_eqDesk.f
  refine Ev.bind (eqSayS_self N hN) (ev_pos rfl (Ev.bind (a := true) ?_ (ev_pos rfl (ev_now rfl))))
  unfold laws_eqSaySS.f
  exact ev_pos rfl (eqSaySS_l0 P hP hp P.length 0 (by omega))

/-! pack rowp: a row without one of its sentences is right, too -/
def RowP (L : List S25) : Prop := L.length < 6 ∧ (∀ x ∈ L, wOk x.f0 x.f1 x.f2 = true) ∧ L.Pairwise (fun a b => eqS b a = false)
theorem rdT_get (L : List S25) (i : Nat) (h : i < L.length) : rd_T25 L (i : Int) = L[i] := by
  simp [rd_T25, List.getD_eq_getElem?_getD, List.getElem?_eq_getElem h]
theorem rowR_iff (L : List S25) : ∀ r i : Nat, i + r = L.length → (rowR L r i = true ↔ (L.length < 6 ∧ ∀ j, i ≤ j → ∀ h : j < L.length, wOk L[j].f0 L[j].f1 L[j].f2 = true ∧ ∀ m, ∀ hm : m < j, eqS L[j] (L[m]'(Nat.lt_trans hm h)) = false))
  | 0, i, h => by
    unfold rowR
    rw [decide_eq_true_eq]
    exact ⟨fun hl => ⟨hl, fun j hj hj2 => absurd hj2 (by omega)⟩, fun hl => hl.1⟩
  | r + 1, i, h => by
    unfold rowR
    have hi : i < L.length := by omega
    rw [Bool.and_eq_true, Bool.and_eq_true, Bool.not_eq_true', rowR_iff L r (i + 1) (by omega), rdT_get L i hi]
    have hany : (L.take i).any (eqS L[i]) = false ↔ ∀ m, ∀ hm : m < i, eqS L[i] (L[m]'(Nat.lt_trans hm hi)) = false := by
      rw [List.any_eq_false]
      constructor
      · intro ha m hm
        have := ha (L[m]'(Nat.lt_trans hm hi)) (List.mem_iff_getElem.2 ⟨m, by rw [List.length_take]; omega, by rw [List.getElem_take]⟩)
        simpa using this
      · intro ha x hx
        obtain ⟨m, hm, rfl⟩ := List.mem_iff_getElem.1 hx
        rw [List.length_take] at hm
        rw [List.getElem_take]
        simpa using ha m (by omega)
    rw [hany]
    constructor
    · rintro ⟨h1, h2, h3, h4⟩
      refine ⟨h3, fun j hj hj2 => ?_⟩
      by_cases he : j = i
      · subst he; exact ⟨h1, h2⟩
      · exact h4 j (by omega) hj2
    · rintro ⟨h1, h2⟩
      exact ⟨(h2 i (Nat.le_refl _) hi).1, (h2 i (Nat.le_refl _) hi).2, h1, fun j hj hj2 => h2 j (by omega) hj2⟩
theorem rowB_iff (L : List S25) : rowB L = true ↔ RowP L := by
  unfold rowB RowP
  rw [rowR_iff L L.length 0 (by omega)]
  constructor
  · rintro ⟨h1, h2⟩
    refine ⟨h1, fun x hx => ?_, ?_⟩
    · obtain ⟨j, hj, rfl⟩ := List.mem_iff_getElem.1 hx
      exact (h2 j (Nat.zero_le _) hj).1
    · rw [List.pairwise_iff_getElem]
      intro m j hm hj hlt
      exact (h2 j (Nat.zero_le _) hj).2 m hlt
  · rintro ⟨h1, h2, h3⟩
    rw [List.pairwise_iff_getElem] at h3
    exact ⟨h1, fun j _ hj => ⟨h2 _ (List.getElem_mem hj), fun m hm => h3 m j (Nat.lt_trans hm hj) hj hm⟩⟩
theorem rowB_len {L : List S25} (h : rowB L = true) : L.length < 6 := ((rowB_iff L).1 h).1
theorem rowB_erase {L : List S25} (h : rowB L = true) (i : Nat) : rowB (L.eraseIdx i) = true := by
  obtain ⟨h1, h2, h3⟩ := (rowB_iff L).1 h
  have hs := List.eraseIdx_sublist L i
  exact (rowB_iff _).2 ⟨Nat.lt_of_le_of_lt hs.length_le h1, fun x hx => h2 x (hs.subset hx), h3.sublist hs⟩

/-! pack marks2 (mark, with wider bounds): the marks that an exactness law lays into a list, and finds there again -/
def marks : Int → Nat → List S25
  | _, 0 => []
  | v, r + 1 => ⟨v, v + 1, v + 1 + 1⟩ :: marks (v + 1 + 1 + 1) r
theorem marks_len : ∀ (r : Nat) (v : Int), (marks v r).length = r
  | 0, _ => rfl
  | r + 1, v => by unfold marks; rw [List.length_cons, marks_len r]
theorem rdS_set (l : List S25) (i : Nat) (x : S25) (h : i < l.length) : rd_T25 (l.set i x) (i : Int) = x := by
  simp [rd_T25, List.getD_eq_getElem?_getD, List.getElem?_set, h]
theorem markS_l0 : ∀ (r i : Nat) (acc : List S25) (v : Int), i + r = acc.length → acc.length ≤ 1000000000 → 0 ≤ v → v + 3 * r ≤ 1000000000000000 → Ev (fun k => laws_markSayS.l0 k acc v (i : Int)) (v + 3 * r, acc.take i ++ marks v r)
  | 0, i, acc, v, h, hl, h0, h1 => Ev.step (fun _ => laws_markSayS.l0.eq_2 _ _ _ _) (ev_neg (by omega) (ev_now (by rw [List.take_of_length_le (by omega)]; simp [marks])))
  | r + 1, i, acc, v, h, hl, h0, h1 => by
    have w1 : wrap64 (v + 1) = v + 1 := w64 (by omega) (by omega)
    have w2 : wrap64 (v + 1 + 1) = v + 1 + 1 := w64 (by omega) (by omega)
    have w3 : wrap64 (v + 1 + 1 + 1) = v + 1 + 1 + 1 := w64 (by omega) (by omega)
    have w4 : wrap64 ((i : Int) + 1) = ((i + 1 : Nat) : Int) := by rw [w64 (by omega) (by omega)]; omega
    refine Ev.step (fun _ => laws_markSayS.l0.eq_2 _ _ _ _) (ev_pos (by omega) (ev_pos (by omega) (ev_bind rfl (ev_bind rfl ?_))))
    simp only [w1, w2, w3, w4, Int.toNat_natCast]
    rw [rdS_set acc i _ (by omega), rdS_set (acc.set i _) i _ (by rw [List.length_set]; omega), List.set_set, List.set_set]
    refine ev_eq ?_ (markS_l0 r (i + 1) (acc.set i ⟨v, v + 1, v + 1 + 1⟩) (v + 1 + 1 + 1) (by rw [List.length_set]; omega) (by rw [List.length_set]; omega) (by omega) (by omega))
    rw [take_set _ _ _ (by omega), List.append_assoc]
    refine Prod.ext ?_ rfl
    show v + 1 + 1 + 1 + 3 * (r : Int) = v + 3 * ((r + 1 : Nat) : Int)
    omega
theorem markS_ok (L : List S25) (hl : L.length ≤ 1048576) (v : Int) (h0 : 0 ≤ v) (h1 : v ≤ 100000000000000) : Ev (fun k => laws_markSayS.f k L v) (v + 3 * L.length, marks v L.length) := by
  unfold laws_markSayS.f
  exact ev_eq (by simp) (markS_l0 L.length 0 L v (by omega) (by omega) h0 (by omega))
theorem heldS_l0 (M : List S25) : ∀ (r i : Nat) (v : Int), i + r = M.length → M.length ≤ 1000000000 → M.drop i = marks v r → 0 ≤ v → v + 3 * r ≤ 1000000000000000 → Ev (fun k => laws_heldSayS.l0 k M v (i : Int)) (v + 3 * r)
  | 0, i, v, h, hl, hd, h0, h1 => Ev.step (fun _ => laws_heldSayS.l0.eq_2 _ _ _ _) (ev_neg (by omega) (ev_now (by simp)))
  | r + 1, i, v, h, hl, hd, h0, h1 => by
    have w1 : wrap64 (v + 1) = v + 1 := w64 (by omega) (by omega)
    have w2 : wrap64 (v + 1 + 1) = v + 1 + 1 := w64 (by omega) (by omega)
    have w3 : wrap64 (v + 1 + 1 + 1) = v + 1 + 1 + 1 := w64 (by omega) (by omega)
    have w4 : wrap64 ((i : Int) + 1) = ((i + 1 : Nat) : Int) := by rw [w64 (by omega) (by omega)]; omega
    rw [rdS_drop M i (by omega)] at hd
    unfold marks at hd
    obtain ⟨hx, hr⟩ := List.cons.inj hd
    refine Ev.step (fun _ => laws_heldSayS.l0.eq_2 _ _ _ _) (ev_pos (by omega) (ev_pos (by omega) ?_))
    simp only [w1, w2, w3, w4, hx]
    refine ev_pos trivial (ev_pos trivial (ev_pos trivial ?_))
    refine ev_eq ?_ (heldS_l0 M r (i + 1) (v + 1 + 1 + 1) (by omega) hl hr (by omega) (by omega))
    omega
theorem heldS_ok (n : Nat) (hl : n ≤ 1048576) (v : Int) (h0 : 0 ≤ v) (h1 : v ≤ 100000000000000) : Ev (fun k => laws_heldSayS.f k (marks v n) v) (v + 3 * n) := by
  unfold laws_heldSayS.f
  exact heldS_l0 (marks v n) n 0 v (by rw [marks_len]; omega) (by rw [marks_len]; omega) rfl h0 (by omega)

/-! pack marksl: the marks in lists of lists, and in a desk -/
def sumL : List (List S25) → Nat
  | [] => 0
  | x :: r => x.length + sumL r
def marksL : Int → List (List S25) → List (List S25)
  | _, [] => []
  | v, x :: r => marks v x.length :: marksL (v + 3 * x.length) r
theorem marksL_len : ∀ (P : List (List S25)) (v : Int), (marksL v P).length = P.length
  | [], _ => rfl
  | x :: r, v => by unfold marksL; rw [List.length_cons, List.length_cons, marksL_len r]
theorem sumL_le : ∀ (P : List (List S25)) (m : Nat), (∀ x ∈ P, x.length ≤ m) → sumL P ≤ P.length * m
  | [], m, _ => by simp [sumL]
  | x :: r, m, h => by
    have := sumL_le r m (fun y hy => h y (List.mem_cons_of_mem _ hy))
    have h1 := h x List.mem_cons_self
    unfold sumL
    rw [List.length_cons, Nat.add_mul, Nat.one_mul]
    omega
theorem drop_rdL (P : List (List S25)) (i : Nat) (h : i < P.length) : P.drop i = rd_L4 P (i : Int) :: P.drop (i + 1) := rdL_drop P i h
theorem rdL_set (l : List (List S25)) (i : Nat) (x : List S25) (h : i < l.length) : (l.set i x).drop (i + 1) = l.drop (i + 1) := by rw [List.drop_set]; rw [if_pos (by omega)]
theorem markSS_l0 (P : List (List S25)) (hP : P.length ≤ 1048576) (hp : ∀ x ∈ P, x.length ≤ 1048576) : ∀ (r i : Nat) (acc : List (List S25)) (v : Int), i + r = P.length → acc.length = P.length → acc.drop i = P.drop i → 0 ≤ v → v + 3 * sumL (P.drop i) ≤ 100000000000000 →
    Ev (fun k => laws_markSaySS.l0 k acc v (i : Int)) (v + 3 * sumL (P.drop i), acc.take i ++ marksL v (P.drop i))
  | 0, i, acc, v, h, ha, hd, h0, h1 => by
    rw [List.drop_of_length_le (l := P) (by omega)]
    exact Ev.step (fun _ => laws_markSaySS.l0.eq_2 _ _ _ _) (ev_neg (by omega) (ev_now (by rw [List.take_of_length_le (by omega)]; simp [marksL, sumL])))
  | r + 1, i, acc, v, h, ha, hd, h0, h1 => by
    have w4 : wrap64 ((i : Int) + 1) = ((i + 1 : Nat) : Int) := by rw [w64 (by omega) (by omega)]; omega
    have hx : rd_L4 acc (i : Int) = rd_L4 P (i : Int) := by
      have e1 := drop_rdL acc i (by omega)
      have e2 := drop_rdL P i (by omega)
      rw [hd, e2] at e1
      exact (List.cons.inj e1).1.symm
    have hxm := hp _ (rdL_mem P i (by omega))
    rw [drop_rdL P i (by omega)] at h1 ⊢
    obtain ⟨X, hX⟩ : ∃ X, rd_L4 P (i : Int) = X := ⟨_, rfl⟩
    rw [hX] at hxm h1 hx ⊢
    unfold sumL at h1
    refine Ev.step (fun _ => laws_markSaySS.l0.eq_2 _ _ _ _) (ev_pos (by omega) (ev_pos (by omega) ?_))
    rw [hx]
    refine Ev.bind (markS_ok X hxm v h0 (by omega)) ?_
    rw [w4, Int.toNat_natCast]
    refine ev_eq ?_ (markSS_l0 P hP hp r (i + 1) (acc.set i (marks v X.length)) (v + 3 * X.length) (by omega) (by rw [List.length_set]; exact ha) ?_ (by omega) (by omega))
    · rw [take_set _ _ _ (by omega), List.append_assoc]
      refine Prod.ext ?_ rfl
      show v + 3 * (X.length : Int) + 3 * (sumL (P.drop (i + 1)) : Int) = v + 3 * ((sumL (X :: P.drop (i + 1)) : Nat) : Int)
      simp only [sumL]
      omega
    · rw [rdL_set _ _ _ (by omega)]
      have e1 := congrArg (List.drop 1) hd
      rwa [List.drop_drop, List.drop_drop] at e1
theorem markSS_ok (P : List (List S25)) (hP : P.length ≤ 1048576) (hp : ∀ x ∈ P, x.length ≤ 1048576) (v : Int) (h0 : 0 ≤ v) (h1 : v ≤ 10000000) : Ev (fun k => laws_markSaySS.f k P v) (v + 3 * sumL P, marksL v P) := by
  unfold laws_markSaySS.f
  have hs := sumL_le P 1048576 hp
  have := markSS_l0 P hP hp P.length 0 P v (by omega) rfl rfl h0 (by rw [List.drop_zero]; omega)
  rw [List.drop_zero] at this
  exact this
theorem heldSS_l0 : ∀ (R P : List (List S25)) (i : Nat) (v : Int) (M : List (List S25)), M.length = i + R.length → M.length ≤ 1048576 → (∀ x ∈ R, x.length ≤ 1048576) → M.drop i = marksL v R → 0 ≤ v → v + 3 * sumL R ≤ 100000000000000 → Ev (fun k => laws_heldSaySS.l0 k M v (i : Int)) (v + 3 * sumL R)
  | [], P, i, v, M, h, hM, hp, hd, h0, h1 => Ev.step (fun _ => laws_heldSaySS.l0.eq_2 _ _ _ _) (ev_neg (by simp at h; omega) (ev_now (by simp [sumL])))
  | X :: R, P, i, v, M, h, hM, hp, hd, h0, h1 => by
    have w4 : wrap64 ((i : Int) + 1) = ((i + 1 : Nat) : Int) := by rw [List.length_cons] at h; rw [w64 (by omega) (by omega)]; omega
    rw [List.length_cons] at h
    have hx := drop_rdL M i (by omega)
    rw [hd] at hx
    unfold marksL at hx
    obtain ⟨e1, e2⟩ := List.cons.inj hx
    have hX := hp X List.mem_cons_self
    unfold sumL at h1
    refine Ev.step (fun _ => laws_heldSaySS.l0.eq_2 _ _ _ _) (ev_pos (by omega) (ev_pos (by omega) ?_))
    rw [← e1]
    refine Ev.bind (heldS_ok X.length hX v h0 (by omega)) (ev_neg (by omega) ?_)
    rw [w4]
    refine ev_eq ?_ (heldSS_l0 R P (i + 1) (v + 3 * X.length) M (by omega) hM (fun x hx => hp x (List.mem_cons_of_mem _ hx)) e2.symm (by omega) (by omega))
    simp only [sumL]
    omega
theorem heldD_ok (n : Nat) (hn : n ≤ 1048576) (P : List (List S25)) (hP : P.length ≤ 1048576) (hp : ∀ x ∈ P, x.length ≤ 1048576) : Ev (fun k => laws_heldDesk.f k (marks 1 n) (marksL (1 + 3 * n) P) 1) (1 + 3 * n + 3 * sumL P) := by
  have hs := sumL_le P 1048576 hp
  unfold laws_heldDesk.f
  refine Ev.bind (heldS_ok n hn 1 (by omega) (by omega)) (ev_neg (by omega) (Ev.bind (a := (1 + 3 * (n : Int) + 3 * (sumL P : Int))) ?_ (ev_neg (by omega) (ev_now rfl))))
  unfold laws_heldSaySS.f
  exact heldSS_l0 P P 0 _ _ (by rw [marksL_len]; omega) (by rw [marksL_len]; omega) hp rfl (by omega) (by omega)

/-! pack ddo: what a deed makes of a valid desk, by the reference and by the program -/
def told (t : ByteArray) : Bool := (res (rdW t)).2.2.2
def sayOf (t : ByteArray) : S25 := ⟨(res (rdW t)).1, (res (rdW t)).2.1, (res (rdW t)).2.2.1⟩
def pushP (N : List S25) (P : List (List S25)) : List (List S25) := if P.length + 1 > 10 then (P ++ [N]).drop 1 else P ++ [N]
def drop1 (N : List S25) (P : List (List S25)) (kd n : Int) (t : ByteArray) : List S25 × List (List S25) × Bool :=
  if kd = 1 ∧ t.toList = ([] : List UInt8) ∧ 0 ≤ n ∧ n < (N.length : Int) then (N.eraseIdx n.toNat, pushP N P, true) else (N, P, false)
def say1 (N : List S25) (P : List (List S25)) (t : ByteArray) : List S25 × List (List S25) × Bool := if rowB (N ++ [sayOf t]) = true then (N ++ [sayOf t], pushP N P, true) else (N, P, false)
def ddo (N : List S25) (P : List (List S25)) (kd n : Int) (t : ByteArray) : List S25 × List (List S25) × Bool :=
  if kd = 2 ∧ n = 0 ∧ t.toList = ([] : List UInt8) ∧ 0 < P.length then (P.getD (P.length - 1) [], P.take (P.length - 1), true)
  else if kd = 0 ∧ n = 0 ∧ told t = true then say1 N P t else drop1 N P kd n t
def dd (N : List S25) (P : List (List S25)) (kd n : Int) (t : ByteArray) : List S25 × List (List S25) × Bool := if deskOk N P = true then ddo N P kd n t else ([], [], false)
theorem deskOk_rows {N : List S25} {P : List (List S25)} (h : deskOk N P = true) : rowB N = true ∧ P.length ≤ 10 ∧ ∀ x ∈ P, rowB x = true := by
  unfold deskOk at h
  simp only [Bool.and_eq_true, decide_eq_true_eq, List.all_eq_true] at h
  exact ⟨h.1, h.2.1, h.2.2⟩
theorem copy_l0 (N : List S25) (P : List (List S25)) (M : List S25) (hP : P.length ≤ 1000) (hp : ∀ x ∈ P, x.length ≤ 1000) : ∀ (r i : Nat) (acc : List (List S25)), i + r = P.length → acc.length = i →
    Ev (fun k => spec_l9Copy.l0 k (i : Int) N P M acc) (M, acc ++ P.drop i)
  | 0, i, acc, h, ha => by
    rw [List.drop_of_length_le (by omega), List.append_nil]
    exact Ev.step (fun _ => spec_l9Copy.l0.eq_2 _ _ _ _ _ _) (ev_neg (by omega) (ev_now rfl))
  | r + 1, i, acc, h, ha => by
    have hm := hp _ (rdL_mem P i (by omega))
    refine Ev.step (fun _ => spec_l9Copy.l0.eq_2 _ _ _ _ _ _) (ev_pos (by omega) (ev_bind rfl (ev_pos (by omega) (ev_pos (by simp only [List.length_nil]; omega) (ev_pos (by omega) ?_)))))
    rw [w64 (by omega) (by omega), rdL_drop P i (by omega)]
    refine ev_eq ?_ (copy_l0 N P M hP hp r (i + 1) (acc ++ [[] ++ rd_L4 P (i : Int)]) (by omega) (by simp; omega))
    rw [List.append_assoc]; rfl
theorem copy_ok (N : List S25) (P : List (List S25)) (hN : N.length ≤ 1000) (hP : P.length ≤ 1000) (hp : ∀ x ∈ P, x.length ≤ 1000) : Ev (fun k => spec_l9Copy.f k N P) (N, P) := by
  unfold spec_l9Copy.f
  exact ev_bind rfl (ev_pos (by simp only [List.length_nil]; omega) (copy_l0 N P ([] ++ N) hP hp P.length 0 [] (by omega) rfl))
theorem icopy_l0 (P : List (List S25)) (M : List S25) (hP : P.length ≤ 1000) (hp : ∀ x ∈ P, x.length ≤ 1000) : ∀ (r i : Nat) (acc : List (List S25)), i + r = P.length → acc.length = i →
    Ev (fun k => impl_copyDesk.l0 k P (P.length : Int) (i : Int) M acc) (M, acc ++ P.drop i)
  | 0, i, acc, h, ha => by
    rw [List.drop_of_length_le (by omega), List.append_nil]
    exact Ev.step (fun _ => impl_copyDesk.l0.eq_2 _ _ _ _ _ _) (ev_neg (by omega) (ev_now rfl))
  | r + 1, i, acc, h, ha => by
    have hm := hp _ (rdL_mem P i (by omega))
    refine Ev.step (fun _ => impl_copyDesk.l0.eq_2 _ _ _ _ _ _) (ev_pos (by omega) (ev_pos (by omega) (ev_pos (by omega) (ev_bind rfl (ev_pos (by simp only [List.length_nil]; omega) (ev_pos (by omega) ?_))))))
    rw [w64 (by omega) (by omega), rdL_drop P i (by omega)]
    refine ev_eq ?_ (icopy_l0 P M hP hp r (i + 1) (acc ++ [[] ++ rd_L4 P (i : Int)]) (by omega) (by simp; omega))
    rw [List.append_assoc]; rfl
theorem icopy_ok (N : List S25) (P : List (List S25)) (hN : N.length ≤ 1000) (hP : P.length ≤ 1000) (hp : ∀ x ∈ P, x.length ≤ 1000) : Ev (fun k => impl_copyDesk.f k N P) (N, P) := by
  unfold impl_copyDesk.f
  exact ev_bind rfl (ev_pos (by simp only [List.length_nil]; omega) (icopy_l0 P ([] ++ N) hP hp P.length 0 [] (by omega) rfl))
theorem push_ok (N : List S25) (P : List (List S25)) (M : List S25) (hP : P.length ≤ 1000) {A : Option (List S25 × List (List S25) × Bool)} :
    Ev (fun _ => if P.length < 5864062014805 then ((some (P ++ [N] : List (List S25))).bind fun y => if (y.length : Int) > 10 then (if 1 ≤ (y.length : Int) then some (M, y.drop 1, true) else A) else some (M, y, true)) else A) (M, pushP N P, true) := by
  unfold pushP
  refine ev_pos (by omega) (ev_bind rfl ?_)
  by_cases h : P.length + 1 > 10
  · rw [if_pos h]; exact ev_pos (by simp; omega) (ev_pos (by simp; omega) (ev_now rfl))
  · rw [if_neg h]; exact ev_neg (by simp; omega) (ev_now rfl)
theorem pushP_len (N : List S25) (P : List (List S25)) (h : P.length ≤ 10) : (pushP N P).length ≤ 10 := by
  unfold pushP
  by_cases c : P.length + 1 > 10
  · rw [if_pos c]; simp; omega
  · rw [if_neg c]; simp; omega
theorem pushP_in (N : List S25) (P : List (List S25)) : ∀ x ∈ pushP N P, x ∈ P ∨ x = N := fun x hx => by
  unfold pushP at hx
  by_cases h : P.length + 1 > 10
  · rw [if_pos h] at hx
    have := List.mem_of_mem_drop hx
    simpa using this
  · rw [if_neg h] at hx; simpa using hx
theorem sj2 (N : List S25) (P : List (List S25)) (hN : N.length ≤ 1000) (hP : P.length ≤ 1000) (kd n : Int) (t : ByteArray) (b : Bool) (hb : b = true → 0 ≤ n ∧ n < (N.length : Int)) :
    Ev (fun k => spec_DeskDo.j2 k b N P kd n t N P) (if b = true then (N.eraseIdx n.toNat, pushP N P, true) else (N, P, false)) := by
  by_cases h : b = true
  · obtain ⟨h0, h1⟩ := hb h
    have e1 : wrap64 (n + 1) = n + 1 := w64 (by omega) (by omega)
    have e2 : N.eraseIdx n.toNat = [] ++ N.take n.toNat ++ N.drop (n + 1).toNat := by rw [List.nil_append, List.eraseIdx_eq_take_drop_succ, show (n + 1).toNat = n.toNat + 1 by omega]
    rw [if_pos h, e2]
    refine Ev.step (fun _ => spec_DeskDo.j2.eq_2 _ _ _ _ _ _ _ _ _) (ev_pos h (ev_bind rfl (ev_pos h0 (ev_pos (by omega) (ev_bind rfl (ev_pos (by simp only [List.length_nil, List.length_take]; omega) (ev_bind rfl (ev_pos (by omega) (ev_pos (by omega) (ev_bind rfl (ev_pos (by simp only [List.length_nil, List.length_append, List.length_take, List.length_drop]; omega) ?_)))))))))))
    rw [e1]
    exact ev_bind rfl (push_ok N P _ hP)
  · rw [if_neg h]
    exact Ev.step (fun _ => spec_DeskDo.j2.eq_2 _ _ _ _ _ _ _ _ _) (ev_neg h (ev_now rfl))
theorem sj1F (N : List S25) (P : List (List S25)) (hN : N.length ≤ 1000) (hP : P.length ≤ 1000) (kd n : Int) (t : ByteArray) (f o u : Int) :
    Ev (fun k => spec_DeskDo.j1 k N false N P kd n t N P f o u) (drop1 N P kd n t) := by
  have e1 : wrap64 ((N.length : Int) - 1) = (N.length : Int) - 1 := w64 (by omega) (by omega)
  unfold drop1
  by_cases h1 : kd = 1
  · by_cases h2 : t.toList = []
    · have hr := sj2 N P hN hP kd n t (decide (0 ≤ n) && decide (n ≤ (N.length : Int) - 1)) (fun e => by simp at e; omega)
      refine Ev.step (fun _ => spec_DeskDo.j1.eq_2 _ _ _ _ _ _ _ _ _ _ _ _ _) (ev_neg (by simp) (ev_pos h1 (ev_pos h2 (ev_bind (a := decide (0 ≤ n) && decide (n ≤ (N.length : Int) - 1)) ?_ (ev_eq ?_ hr)))))
      · rw [e1]
        unfold spec_l1In.f
        by_cases h : n ≥ 0
        · rw [if_pos h, decide_eq_true (p := 0 ≤ n) h, Bool.true_and]
        · rw [if_neg h, decide_eq_false (p := 0 ≤ n) h, Bool.false_and]
      · by_cases c : 0 ≤ n ∧ n < (N.length : Int)
        · rw [if_pos (show (decide (0 ≤ n) && decide (n ≤ (N.length : Int) - 1)) = true by simp; omega), if_pos ⟨h1, h2, c⟩]
        · rw [if_neg (show ¬ (decide (0 ≤ n) && decide (n ≤ (N.length : Int) - 1)) = true by simp; omega), if_neg (fun h => c h.2.2)]
    · rw [if_neg (fun h => h2 h.2.1)]
      exact Ev.step (fun _ => spec_DeskDo.j1.eq_2 _ _ _ _ _ _ _ _ _ _ _ _ _) (ev_neg (by simp) (ev_pos h1 (ev_neg h2 (sj2 N P hN hP kd n t false (fun e => by cases e)))))
  · rw [if_neg (fun h => h1 h.1)]
    exact Ev.step (fun _ => spec_DeskDo.j1.eq_2 _ _ _ _ _ _ _ _ _ _ _ _ _) (ev_neg (by simp) (ev_neg h1 (sj2 N P hN hP kd n t false (fun e => by cases e))))
theorem sj1T (N : List S25) (P : List (List S25)) (hN : N.length ≤ 1000) (hP : P.length ≤ 1000) (kd n : Int) (t : ByteArray) :
    Ev (fun k => spec_DeskDo.j1 k N true N P kd n t N P (sayOf t).f0 (sayOf t).f1 (sayOf t).f2) (say1 N P t) := by
  have hr := l9_ok (N ++ [sayOf t]) (by simp; omega)
  unfold say1
  cases hb : rowB (N ++ [sayOf t]) with
  | true =>
    rw [hb] at hr
    rw [if_pos rfl]
    exact Ev.step (fun _ => spec_DeskDo.j1.eq_2 _ _ _ _ _ _ _ _ _ _ _ _ _) (ev_pos rfl (ev_pos (by omega) (ev_bind rfl (Ev.bind hr (ev_pos rfl (push_ok N P _ hP))))))
  | false =>
    rw [hb] at hr
    rw [if_neg (by simp)]
    exact Ev.step (fun _ => spec_DeskDo.j1.eq_2 _ _ _ _ _ _ _ _ _ _ _ _ _) (ev_pos rfl (ev_pos (by omega) (ev_bind rfl (Ev.bind hr (ev_neg (by simp) (ev_now rfl))))))
theorem sj0F (N : List S25) (P : List (List S25)) (hN : N.length ≤ 1000) (hP : P.length ≤ 1000) (kd n : Int) (t : ByteArray) (hc : ¬ (kd = 2 ∧ n = 0 ∧ t.toList = ([] : List UInt8) ∧ 0 < P.length)) :
    Ev (fun k => spec_DeskDo.j0 k N (told t) false N P kd n t N P (sayOf t).f0 (sayOf t).f1 (sayOf t).f2) (ddo N P kd n t) := by
  unfold ddo
  rw [if_neg hc]
  by_cases h0 : kd = 0
  · by_cases h1 : n = 0
    · cases ht : told t with
      | true =>
        rw [if_pos ⟨h0, h1, rfl⟩]
        exact Ev.step (fun _ => spec_DeskDo.j0.eq_2 _ _ _ _ _ _ _ _ _ _ _ _ _ _) (ev_neg (by simp) (ev_pos h0 (ev_pos h1 (sj1T N P hN hP kd n t))))
      | false =>
        rw [if_neg (by simp)]
        exact Ev.step (fun _ => spec_DeskDo.j0.eq_2 _ _ _ _ _ _ _ _ _ _ _ _ _ _) (ev_neg (by simp) (ev_pos h0 (ev_pos h1 (sj1F N P hN hP kd n t _ _ _))))
    · rw [if_neg (fun h => h1 h.2.1)]
      exact Ev.step (fun _ => spec_DeskDo.j0.eq_2 _ _ _ _ _ _ _ _ _ _ _ _ _ _) (ev_neg (by simp) (ev_pos h0 (ev_neg h1 (sj1F N P hN hP kd n t _ _ _))))
  · rw [if_neg (fun h => h0 h.1)]
    exact Ev.step (fun _ => spec_DeskDo.j0.eq_2 _ _ _ _ _ _ _ _ _ _ _ _ _ _) (ev_neg (by simp) (ev_neg h0 (sj1F N P hN hP kd n t _ _ _)))
theorem small_of {N : List S25} {P : List (List S25)} (h : deskOk N P = true) : N.length ≤ 5 ∧ P.length ≤ 10 ∧ ∀ x ∈ P, x.length ≤ 5 := by
  obtain ⟨h1, h2, h3⟩ := deskOk_rows h
  exact ⟨by have := rowB_len h1; omega, h2, fun x hx => by have := rowB_len (h3 x hx); omega⟩
theorem sdo (N : List S25) (P : List (List S25)) (hN : N.length ≤ 1000000000) (hP : P.length ≤ 1000000000) (hp : ∀ x ∈ P, x.length ≤ 1000000000) (kd n : Int) (t : ByteArray) : Ev (fun k => spec_DeskDo.f k N P kd n t) (dd N P kd n t) := by
  have hV := spec_DeskValid_ok N P hN hP hp
  have hW := srw t
  unfold spec_DeskDo.f dd
  cases hk : deskOk N P with
  | false =>
    rw [hk] at hV
    rw [if_neg (by simp)]
    exact Ev.bind hV (ev_neg (by simp) (ev_now rfl))
  | true =>
    rw [hk] at hV
    rw [if_pos rfl]
    obtain ⟨s1, s2, s3⟩ := small_of hk
    have hC := copy_ok N P (by omega) (by omega) (fun x hx => by have := s3 x hx; omega)
    refine Ev.bind hV (ev_pos rfl (Ev.bind hC (ev_bind rfl (ev_pos (by simp only [List.length_nil]; omega) (ev_bind rfl (Ev.bind hW ?_))))))
    by_cases hb : (kd == 2 && (n == 0 && (t.toList == ([] : List UInt8)))) = true
    · refine ev_pos hb ?_
      have hb' : kd = 2 ∧ n = 0 ∧ t.toList = ([] : List UInt8) := by simpa using hb
      by_cases c : 0 < P.length
      · rw [show decide ((P.length : Int) > 0) = true from decide_eq_true (by omega)]
        unfold ddo
        rw [if_pos ⟨hb'.1, hb'.2.1, hb'.2.2, c⟩]
        exact Ev.step (fun _ => spec_DeskDo.j0.eq_2 _ _ _ _ _ _ _ _ _ _ _ _ _ _) (ev_pos rfl (ev_pos c (ev_now rfl)))
      · rw [show decide ((P.length : Int) > 0) = false from decide_eq_false (by omega)]
        exact sj0F N P (by omega) (by omega) kd n t (fun h => c h.2.2.2)
    · refine ev_neg hb ?_
      exact sj0F N P (by omega) (by omega) kd n t (fun h => hb (by simp [h.1, h.2.1, h.2.2.1]))

/-! pack ddoi: the program's deed -/
theorem ij2 (M N : List S25) (P : List (List S25)) (hM : M.length ≤ 1000) (hN : N.length ≤ 1000) (hP : P.length ≤ 900) (hp : ∀ x ∈ P, x.length ≤ 1000) :
    Ev (fun k => impl_deskDo.j2 k M N P) (if rowB M = true then (M, pushP N P, true) else (N, P, false)) := by
  have hr := areNow_ok M (by omega)
  have hin := pushP_in N P
  refine Ev.step (fun _ => impl_deskDo.j2.eq_2 _ _ _ _) (Ev.bind hr ?_)
  cases rowB M with
  | false => rw [if_neg (by simp)]; exact ev_neg (by simp) (ev_now rfl)
  | true =>
    rw [if_pos rfl]
    refine ev_pos rfl (ev_pos (by omega) (ev_bind rfl ?_))
    unfold pushP at hin ⊢
    by_cases h : P.length + 1 > 10
    · rw [if_pos h] at hin ⊢
      refine ev_pos (by simp; omega) (ev_pos (by simp; omega) (Ev.bind (icopy_ok M ((P ++ [N]).drop 1) hM (by simp; omega) (fun x hx => ?_)) (ev_now rfl)))
      rcases hin x hx with h | rfl
      · exact hp x h
      · exact hN
    · rw [if_neg h] at hin ⊢
      refine ev_neg (by simp; omega) (Ev.bind (icopy_ok M (P ++ [N]) hM (by simp; omega) (fun x hx => ?_)) (ev_now rfl))
      rcases hin x hx with h | rfl
      · exact hp x h
      · exact hN
def back1 (N : List S25) (P : List (List S25)) (kd n : Int) (t : ByteArray) : List S25 × List (List S25) × Bool :=
  if kd = 2 ∧ n = 0 ∧ t.toList = ([] : List UInt8) ∧ 0 < P.length then (P.getD (P.length - 1) [], P.take (P.length - 1), true) else (N, P, false)
theorem ij1F (N : List S25) (P : List (List S25)) (hP : P.length ≤ 900) (hp : ∀ x ∈ P, x.length ≤ 1000) (kd n : Int) (t : ByteArray) :
    Ev (fun k => impl_deskDo.j1 k N false kd n t N P) (back1 N P kd n t) := by
  unfold back1
  refine Ev.step (fun _ => impl_deskDo.j1.eq_2 _ _ _ _ _ _ _ _) (ev_neg (by simp) ?_)
  by_cases h2 : kd = 2
  · refine ev_pos h2 ?_
    by_cases hb : (kd == 2 && (n == 0 && (t.toList == ([] : List UInt8)))) = true
    · have hb' : kd = 2 ∧ n = 0 ∧ t.toList = ([] : List UInt8) := by simpa using hb
      refine ev_pos hb ?_
      by_cases c : 0 < P.length
      · have e1 : wrap64 ((P.length : Int) - 1) = ((P.length - 1 : Nat) : Int) := by rw [w64 (by omega) (by omega)]; omega
        rw [if_pos ⟨hb'.1, hb'.2.1, hb'.2.2, c⟩]
        refine ev_pos (by omega) ?_
        rw [e1, Int.toNat_natCast]
        have hm := rdL_mem P (P.length - 1) (by omega)
        refine ev_pos (by omega) (ev_pos (by omega) (ev_pos (by omega) (Ev.bind (icopy_ok _ _ (hp _ hm) (by rw [List.length_take]; omega) (fun x hx => hp x (List.mem_of_mem_take hx))) (ev_now ?_))))
        simp [rd_L4]
      · rw [if_neg (fun h => c h.2.2.2)]
        exact ev_neg (by omega) (ev_now rfl)
    · rw [if_neg (fun h => hb (by simp [h.1, h.2.1, h.2.2.1]))]
      exact ev_neg hb (ev_now rfl)
  · rw [if_neg (fun h => h2 h.1)]
    exact ev_neg h2 (ev_now rfl)
theorem ij0F (N : List S25) (P : List (List S25)) (hN : rowB N = true) (hP : P.length ≤ 900) (hp : ∀ x ∈ P, x.length ≤ 1000) (kd n : Int) (t : ByteArray) :
    Ev (fun k => impl_deskDo.j0 k N false kd n t N P) (if kd = 1 then drop1 N P kd n t else back1 N P kd n t) := by
  have hl := rowB_len hN
  have hsame : kd = 1 → back1 N P kd n t = (N, P, false) := fun h => by unfold back1; rw [if_neg (fun h2 => by have := h2.1; omega)]
  refine Ev.step (fun _ => impl_deskDo.j0.eq_2 _ _ _ _ _ _ _ _) (ev_neg (by simp) ?_)
  by_cases h1 : kd = 1
  · rw [if_pos h1]
    unfold drop1
    refine ev_pos h1 ?_
    by_cases h2 : t.toList = ([] : List UInt8)
    · refine ev_pos h2 ?_
      by_cases h3 : n ≥ 0
      · refine ev_pos h3 ?_
        by_cases h4 : n < (N.length : Int)
        · rw [show decide (n < (N.length : Int)) = true from decide_eq_true h4, if_pos ⟨h1, h2, h3, h4⟩]
          have e1 : wrap64 (n + 1) = n + 1 := w64 (by omega) (by omega)
          have hd : impl_Say_87.f N n (wrap64 (n + 1)) = some (N.eraseIdx n.toNat) := by
            unfold impl_Say_87.f
            rw [e1, if_pos ⟨h3, h4, rfl⟩]
          have hj := ij2 (N.eraseIdx n.toNat) N P (by have := (List.eraseIdx_sublist N n.toNat).length_le; omega) (by omega) hP hp
          rw [if_pos (rowB_erase hN _)] at hj
          exact Ev.step (fun _ => impl_deskDo.j1.eq_2 _ _ _ _ _ _ _ _) (ev_pos rfl (ev_bind hd hj))
        · rw [show decide (n < (N.length : Int)) = false from decide_eq_false h4, if_neg (fun h => h4 h.2.2.2)]
          exact ev_eq (hsame h1) (ij1F N P hP hp kd n t)
      · rw [if_neg (fun h => h3 h.2.2.1)]
        exact ev_neg h3 (ev_eq (hsame h1) (ij1F N P hP hp kd n t))
    · rw [if_neg (fun h => h2 h.2.1)]
      exact ev_neg h2 (ev_eq (hsame h1) (ij1F N P hP hp kd n t))
  · rw [if_neg h1]
    exact ev_neg h1 (ij1F N P hP hp kd n t)
theorem ddo_F (N : List S25) (P : List (List S25)) (kd n : Int) (t : ByteArray) (h : ¬ (kd = 0 ∧ n = 0 ∧ told t = true)) : (if kd = 1 then drop1 N P kd n t else back1 N P kd n t) = ddo N P kd n t := by
  unfold ddo
  rw [if_neg h]
  by_cases h1 : kd = 1
  · rw [if_pos h1, if_neg (fun h2 => by have := h2.1; omega)]
  · rw [if_neg h1]
    unfold back1 drop1
    by_cases c : kd = 2 ∧ n = 0 ∧ t.toList = ([] : List UInt8) ∧ 0 < P.length
    · rw [if_pos c, if_pos c]
    · rw [if_neg c, if_neg c, if_neg (fun h2 => h1 h2.1)]
theorem ideskdo (N : List S25) (P : List (List S25)) (hk : deskOk N P = true) (kd n : Int) (t : ByteArray) : Ev (fun k => impl_deskDo.f k N P kd n t) (ddo N P kd n t) := by
  obtain ⟨r1, r2, r3⟩ := deskOk_rows hk
  obtain ⟨s1, s2, s3⟩ := small_of hk
  have hp : ∀ x ∈ P, x.length ≤ 1000 := fun x hx => by have := s3 x hx; omega
  unfold impl_deskDo.f
  refine Ev.bind (icopy_ok N P (by omega) (by omega) hp) (ev_bind rfl (ev_pos (by simp only [List.length_nil]; omega) (ev_bind rfl ?_)))
  by_cases h0 : kd = 0
  · refine ev_pos h0 ?_
    by_cases h1 : n = 0
    · rw [show (n == 0) = true by simpa using h1]
      refine Ev.step (fun _ => impl_deskDo.j0.eq_2 _ _ _ _ _ _ _ _) (ev_pos rfl (Ev.bind (irw t) ?_))
      cases ht : told t with
      | true =>
        refine ev_pos ht (ev_pos (by simp; omega) ?_)
        have e : ddo N P kd n t = say1 N P t := by unfold ddo; rw [if_neg (fun h2 => by have := h2.1; omega), if_pos ⟨h0, h1, ht⟩]
        rw [e]
        exact ij2 (N ++ [sayOf t]) N P (by simp; omega) (by omega) (by omega) hp
      | false =>
        refine ev_neg (by show ¬ told t = true; rw [ht]; simp) (ev_now ?_)
        rw [← ddo_F N P kd n t (fun h => by rw [ht] at h; exact absurd h.2.2 (by simp))]
        unfold back1
        rw [if_neg (by omega), if_neg (fun h2 => by have := h2.1; omega)]
    · rw [show (n == 0) = false by simpa using h1]
      exact ev_eq (ddo_F N P kd n t (fun h => h1 h.2.1)) (ij0F N P r1 (by omega) hp kd n t)
  · exact ev_neg h0 (ev_eq (ddo_F N P kd n t (fun h => h0 h.1)) (ij0F N P r1 (by omega) hp kd n t))

/-! pack drun: a list of deeds, one after the other -/
theorem deskOk_mk {M : List S25} {Q : List (List S25)} (h1 : rowB M = true) (h2 : Q.length ≤ 10) (h3 : ∀ x ∈ Q, rowB x = true) : deskOk M Q = true := by
  unfold deskOk
  simp only [Bool.and_eq_true, decide_eq_true_eq, List.all_eq_true]
  exact ⟨h1, h2, h3⟩
theorem ddo_ok {N : List S25} {P : List (List S25)} (hk : deskOk N P = true) (kd n : Int) (t : ByteArray) : deskOk (ddo N P kd n t).1 (ddo N P kd n t).2.1 = true := by
  obtain ⟨r1, r2, r3⟩ := deskOk_rows hk
  have hp : ∀ x ∈ pushP N P, rowB x = true := fun x hx => by
    rcases pushP_in N P x hx with h | rfl
    · exact r3 x h
    · exact r1
  have hl := pushP_len N P r2
  unfold ddo
  by_cases c : kd = 2 ∧ n = 0 ∧ t.toList = ([] : List UInt8) ∧ 0 < P.length
  · rw [if_pos c]
    refine deskOk_mk ?_ (by simp only [List.length_take]; omega) (fun x hx => r3 x (List.mem_of_mem_take hx))
    rw [List.getD_eq_getElem?_getD, List.getElem?_eq_getElem (by omega), Option.getD_some]
    exact r3 _ (List.getElem_mem _)
  · rw [if_neg c]
    by_cases c2 : kd = 0 ∧ n = 0 ∧ told t = true
    · rw [if_pos c2]
      unfold say1
      by_cases c3 : rowB (N ++ [sayOf t]) = true
      · rw [if_pos c3]; exact deskOk_mk c3 hl hp
      · rw [if_neg c3]; exact hk
    · rw [if_neg c2]
      unfold drop1
      by_cases c3 : kd = 1 ∧ t.toList = ([] : List UInt8) ∧ 0 ≤ n ∧ n < (N.length : Int)
      · rw [if_pos c3]; exact deskOk_mk (rowB_erase r1 _) hl hp
      · rw [if_neg c3]; exact hk
def drun : List S25 → List (List S25) → List S70 → Int → List S25 × List (List S25) × Int
  | N, P, [], c => (N, P, c)
  | N, P, a :: r, c => if (ddo N P a.f0 a.f1 a.f2).2.2 = true then drun (ddo N P a.f0 a.f1 a.f2).1 (ddo N P a.f0 a.f1 a.f2).2.1 r (c + 1) else drun N P r c
theorem drun_ok : ∀ (L : List S70) (N : List S25) (P : List (List S25)) (c : Int), deskOk N P = true → deskOk (drun N P L c).1 (drun N P L c).2.1 = true
  | [], N, P, c, h => h
  | a :: r, N, P, c, h => by
    unfold drun
    by_cases hb : (ddo N P a.f0 a.f1 a.f2).2.2 = true
    · rw [if_pos hb]; exact drun_ok r _ _ _ (ddo_ok h _ _ _)
    · rw [if_neg hb]; exact drun_ok r _ _ _ h
def dr (N : List S25) (P : List (List S25)) (L : List S70) : List S25 × List (List S25) × Int := if deskOk N P = true ∧ L.length ≤ 40 then drun N P L 0 else ([], [], 0)
theorem dr_small (N : List S25) (P : List (List S25)) (L : List S70) : (dr N P L).1.length ≤ 1048576 ∧ (dr N P L).2.1.length ≤ 1048576 ∧ ∀ x ∈ (dr N P L).2.1, x.length ≤ 1048576 := by
  unfold dr
  by_cases h : deskOk N P = true ∧ L.length ≤ 40
  · rw [if_pos h]
    obtain ⟨s1, s2, s3⟩ := small_of (drun_ok L N P 0 h.1)
    exact ⟨by omega, by omega, fun x hx => by have := s3 x hx; omega⟩
  · rw [if_neg h]; exact ⟨by simp, by simp, by simp⟩
theorem rdD_drop (l : List S70) (i : Nat) (h : i < l.length) : l.drop i = rd_T70 l (i : Int) :: l.drop (i + 1) := by
  rw [List.drop_eq_getElem_cons h]
  simp [rd_T70, List.getD_eq_getElem?_getD, List.getElem?_eq_getElem h]
theorem srun_l0 (L : List S70) (hl : L.length ≤ 40) : ∀ (r i : Nat) (N : List S25) (P : List (List S25)) (c : Int), i + r = L.length → deskOk N P = true → 0 ≤ c → c ≤ i → Ev (fun k => spec_DeskRun.l0 k L c (i : Int) N P) (drun N P (L.drop i) c)
  | 0, i, N, P, c, h, hk, h0, h1 => Ev.step (fun _ => spec_DeskRun.l0.eq_2 _ _ _ _ _ _) (ev_neg (by omega) (ev_now (by rw [List.drop_of_length_le (by omega)]; rfl)))
  | r + 1, i, N, P, c, h, hk, h0, h1 => by
    obtain ⟨s1, s2, s3⟩ := small_of hk
    have hS := sdo N P (by omega) (by omega) (fun x hx => by have := s3 x hx; omega) (rd_T70 L (i : Int)).f0 (rd_T70 L (i : Int)).f1 (rd_T70 L (i : Int)).f2
    unfold dd at hS
    rw [if_pos hk] at hS
    have w4 : wrap64 ((i : Int) + 1) = ((i + 1 : Nat) : Int) := by rw [w64 (by omega) (by omega)]; omega
    have w5 : wrap64 (c + 1) = c + 1 := w64 (by omega) (by omega)
    refine Ev.step (fun _ => spec_DeskRun.l0.eq_2 _ _ _ _ _ _) (ev_pos (by omega) (ev_pos (by omega) (Ev.bind hS ?_)))
    rw [rdD_drop L i (by omega), w4, w5]
    unfold drun
    by_cases hb : (ddo N P (rd_T70 L (i : Int)).f0 (rd_T70 L (i : Int)).f1 (rd_T70 L (i : Int)).f2).2.2 = true
    · rw [if_pos hb]; exact ev_pos hb (srun_l0 L hl r (i + 1) _ _ _ (by omega) (ddo_ok hk _ _ _) (by omega) (by omega))
    · rw [if_neg hb]; exact ev_neg hb (srun_l0 L hl r (i + 1) _ _ _ (by omega) hk (by omega) (by omega))
theorem irun_l0 (L : List S70) (hl : L.length ≤ 40) : ∀ (r i : Nat) (N : List S25) (P : List (List S25)) (c : Int), i + r = L.length → deskOk N P = true → 0 ≤ c → c ≤ i → Ev (fun k => impl_DeskRun.l0 k c L (L.length : Int) (i : Int) N P) (drun N P (L.drop i) c)
  | 0, i, N, P, c, h, hk, h0, h1 => Ev.step (fun _ => impl_DeskRun.l0.eq_2 _ _ _ _ _ _ _) (ev_neg (by omega) (ev_now (by rw [List.drop_of_length_le (by omega)]; rfl)))
  | r + 1, i, N, P, c, h, hk, h0, h1 => by
    have hS := ideskdo N P hk (rd_T70 L (i : Int)).f0 (rd_T70 L (i : Int)).f1 (rd_T70 L (i : Int)).f2
    have w4 : wrap64 ((i : Int) + 1) = ((i + 1 : Nat) : Int) := by rw [w64 (by omega) (by omega)]; omega
    have w5 : wrap64 (c + 1) = c + 1 := w64 (by omega) (by omega)
    refine Ev.step (fun _ => impl_DeskRun.l0.eq_2 _ _ _ _ _ _ _) (ev_pos (by omega) (ev_pos (by omega) (ev_pos (by omega) (Ev.bind hS ?_))))
    rw [rdD_drop L i (by omega), w4, w5]
    unfold drun
    by_cases hb : (ddo N P (rd_T70 L (i : Int)).f0 (rd_T70 L (i : Int)).f1 (rd_T70 L (i : Int)).f2).2.2 = true
    · rw [if_pos hb]; exact ev_pos hb (irun_l0 L hl r (i + 1) _ _ _ (by omega) (ddo_ok hk _ _ _) (by omega) (by omega))
    · rw [if_neg hb]; exact ev_neg hb (irun_l0 L hl r (i + 1) _ _ _ (by omega) hk (by omega) (by omega))
theorem srun (N : List S25) (P : List (List S25)) (L : List S70) (hN : N.length ≤ 1000000000) (hP : P.length ≤ 1000000000) (hp : ∀ x ∈ P, x.length ≤ 1000000000) : Ev (fun k => spec_DeskRun.f k N P L) (dr N P L) := by
  have hV := spec_DeskValid_ok N P hN hP hp
  unfold spec_DeskRun.f dr
  cases hk : deskOk N P with
  | false =>
    rw [hk] at hV
    rw [if_neg (by simp)]
    exact Ev.bind hV (ev_neg (by simp) (Ev.step (fun _ => spec_DeskRun.j0.eq_2 _ _ _ _ _) (ev_pos rfl (ev_now rfl))))
  | true =>
    rw [hk] at hV
    obtain ⟨s1, s2, s3⟩ := small_of hk
    refine Ev.bind hV (ev_pos rfl ?_)
    by_cases c : L.length ≤ 40
    · rw [if_pos ⟨rfl, c⟩, show decide ((L.length : Int) > 40) = false from decide_eq_false (by omega)]
      exact Ev.step (fun _ => spec_DeskRun.j0.eq_2 _ _ _ _ _) (ev_neg (by simp) (Ev.bind (copy_ok N P (by omega) (by omega) (fun x hx => by have := s3 x hx; omega)) (srun_l0 L c L.length 0 N P 0 (by omega) hk (by omega) (by omega))))
    · rw [if_neg (fun h => c h.2), show decide ((L.length : Int) > 40) = true from decide_eq_true (by omega)]
      exact Ev.step (fun _ => spec_DeskRun.j0.eq_2 _ _ _ _ _) (ev_pos rfl (ev_now rfl))
theorem irun (N : List S25) (P : List (List S25)) (L : List S70) (hN : N.length ≤ 1000000000) (hp : ∀ x ∈ P, x.length ≤ 1000000000) : Ev (fun k => impl_DeskRun.f k N P L) (dr N P L) := by
  have hV := isDesk_ok N P hN hp
  unfold impl_DeskRun.f dr
  cases hk : deskOk N P with
  | false =>
    rw [hk] at hV
    rw [if_neg (by simp)]
    exact Ev.bind hV (ev_neg (by simp) (Ev.step (fun _ => impl_DeskRun.j0.eq_2 _ _ _ _ _) (ev_pos rfl (ev_now rfl))))
  | true =>
    rw [hk] at hV
    obtain ⟨s1, s2, s3⟩ := small_of hk
    refine Ev.bind hV (ev_pos rfl ?_)
    by_cases c : L.length ≤ 40
    · rw [if_pos ⟨rfl, c⟩, show decide ((L.length : Int) > 40) = false from decide_eq_false (by omega)]
      exact Ev.step (fun _ => impl_DeskRun.j0.eq_2 _ _ _ _ _) (ev_neg (by simp) (Ev.bind (icopy_ok N P (by omega) (by omega) (fun x hx => by have := s3 x hx; omega)) (irun_l0 L c L.length 0 N P 0 (by omega) hk (by omega) (by omega))))
    · rw [if_neg (fun h => c h.2), show decide ((L.length : Int) > 40) = true from decide_eq_true (by omega)]
      exact Ev.step (fun _ => impl_DeskRun.j0.eq_2 _ _ _ _ _) (ev_pos rfl (ev_now rfl))

/-! pack todeed: a law's deeds turned into the program's, and their size -/
def cD (x : S66) : S70 := ⟨x.f0, x.f1, x.f2⟩
theorem rd66_drop (l : List S66) (i : Nat) (h : i < l.length) : l.drop i = rd_T66 l (i : Int) :: l.drop (i + 1) := by
  rw [List.drop_eq_getElem_cons h]
  simp [rd_T66, List.getD_eq_getElem?_getD, List.getElem?_eq_getElem h]
theorem toDeedS_l0 (N : List S66) (hN : N.length ≤ 1000000000) : ∀ (r i : Nat) (acc : List S70), i + r = N.length → acc.length = N.length → Ev (fun k => laws_toDeedS.l0 k N acc (i : Int)) (acc.take i ++ (N.drop i).map cD)
  | 0, i, acc, h, ha => by
    rw [List.drop_of_length_le (by omega), List.take_of_length_le (by omega)]
    exact Ev.step (fun _ => laws_toDeedS.l0.eq_2 _ _ _ _) (ev_neg (by omega) (ev_now (by simp)))
  | r + 1, i, acc, h, ha => by
    refine Ev.step (fun _ => laws_toDeedS.l0.eq_2 _ _ _ _) (ev_pos (by omega) (ev_pos (by omega) (ev_bind (a := ((rd_T66 N (i : Int)).f0, (rd_T66 N (i : Int)).f1, (rd_T66 N (i : Int)).f2)) rfl (ev_pos (by omega) ?_))))
    rw [w64 (by omega) (by omega), Int.toNat_natCast]
    refine ev_eq ?_ (toDeedS_l0 N hN r (i + 1) _ (by omega) (by rw [List.length_set]; exact ha))
    rw [take_set _ _ _ (by omega), rd66_drop N i (by omega), List.map_cons, List.append_assoc]
    rfl
theorem toDeedS_ok (N : List S66) (hN : N.length ≤ 1000000000) : Ev (fun k => laws_toDeedS.f k N) (N.map cD) := by
  unfold laws_toDeedS.f
  refine ev_pos (by omega) (ev_pos (by omega) ?_)
  rw [Int.toNat_natCast]
  exact ev_eq (by simp) (toDeedS_l0 N hN N.length 0 _ (by omega) (by simp))
def wD : List S66 → Nat
  | [] => 0
  | x :: r => x.f2.size + wD r
theorem szDeedS_l0 (N : List S66) (hN : N.length ≤ 1000000000) (hb : ∀ x ∈ N, x.f2.size ≤ maxLen) : ∀ (r i : Nat) (v : Int), i + r = N.length → 0 ≤ v → v ≤ 1048576 → ∃ u, Ev (fun k => laws_szDeedS.l0 k N v (i : Int)) u ∧ (u < 0 ∨ (wD (N.drop i) : Int) ≤ v)
  | 0, i, v, h, h0, h1 => by
    rw [List.drop_of_length_le (by omega)]
    exact ⟨v, Ev.step (fun _ => laws_szDeedS.l0.eq_2 _ _ _ _) (ev_neg (by omega) (ev_now rfl)), .inr h0⟩
  | r + 1, i, v, h, h0, h1 => by
    have hm : maxLen ≤ 9223372036854775807 := by decide
    have hd := rd66_drop N i (by omega)
    have hz := hb _ (List.mem_of_mem_drop (i := i) (by rw [hd]; exact List.mem_cons_self))
    rw [hd]
    show ∃ u, _ ∧ (u < 0 ∨ (((rd_T66 N (i : Int)).f2.size + wD (N.drop (i + 1)) : Nat) : Int) ≤ v)
    have e : ∀ k, laws_szDeedS.l0 (k + 1) N v (i : Int) = _ := fun k => laws_szDeedS.l0.eq_2 _ _ _ _
    by_cases hn : v - ((rd_T66 N (i : Int)).f2.size : Int) < 0
    · refine ⟨-1, Ev.step e (ev_pos (by omega) (ev_pos (by omega) (ev_bind (a := -1) ?_ (ev_pos (by omega) (ev_now rfl))))), .inl (by omega)⟩
      unfold laws_szDeed.f
      rw [w64 (by omega) (by omega), if_pos hn]
    · obtain ⟨u, hu, hc⟩ := szDeedS_l0 N hN hb r (i + 1) (v - ((rd_T66 N (i : Int)).f2.size : Int)) (by omega) (by omega) (by omega)
      refine ⟨u, Ev.step e (ev_pos (by omega) (ev_pos (by omega) (ev_bind (a := v - ((rd_T66 N (i : Int)).f2.size : Int)) ?_ (ev_neg hn ?_)))), ?_⟩
      · unfold laws_szDeed.f
        rw [w64 (by omega) (by omega), if_neg hn]
      · rw [w64 (by omega) (by omega)]; exact hu
      · rcases hc with hc | hc
        · exact .inl hc
        · right; omega
theorem szDeedS_ok (N : List S66) (hN : N.length ≤ maxLen) (hb : ∀ x ∈ N, x.f2.size ≤ maxLen) : ∃ u, Ev (fun k => laws_szDeedS.f k N 1048576) u ∧ (u < 0 ∨ (N.length ≤ 1048576 ∧ wD N ≤ 1048576)) := by
  have hm : maxLen ≤ 9223372036854775807 := by decide
  unfold laws_szDeedS.f
  rw [w64 (n := 1048576 - (N.length : Int)) (by omega) (by omega)]
  by_cases h : (1048576 : Int) - (N.length : Int) < 0
  · exact ⟨-1, ev_pos h (ev_now rfl), .inl (by omega)⟩
  · obtain ⟨u, hu, hc⟩ := szDeedS_l0 N (by omega) hb N.length 0 (1048576 - (N.length : Int)) (by omega) (by omega) (by omega)
    refine ⟨u, ev_neg h hu, ?_⟩
    rcases hc with hc | hc
    · exact .inl hc
    · right; rw [List.drop_zero] at hc; omega
theorem szDeedS_le (N : List S66) (hN : N.length ≤ maxLen) (hb : ∀ x ∈ N, x.f2.size ≤ maxLen) (v : Int) (h0 : 0 ≤ v) (h1 : v ≤ 1048576) : ∃ u, Ev (fun k => laws_szDeedS.f k N v) u ∧ (u < 0 ∨ N.length ≤ 1048576) := by
  have hm : maxLen ≤ 9223372036854775807 := by decide
  unfold laws_szDeedS.f
  rw [w64 (n := v - (N.length : Int)) (by omega) (by omega)]
  by_cases h : v - (N.length : Int) < 0
  · exact ⟨-1, ev_pos h (ev_now rfl), .inl (by omega)⟩
  · obtain ⟨u, hu, hc⟩ := szDeedS_l0 N (by omega) hb N.length 0 (v - (N.length : Int)) (by omega) (by omega) (by omega)
    exact ⟨u, ev_neg h hu, .inr (by omega)⟩
def wd : List S70 → Nat
  | [] => 0
  | x :: r => x.f2.size + wd r
theorem wd_map : ∀ N : List S66, wd (N.map cD) = wD N
  | [] => rfl
  | x :: r => by show x.f2.size + wd (r.map cD) = x.f2.size + wD r; rw [wd_map r]
theorem wd_mem : ∀ (L : List S70), ∀ x ∈ L, x.f2.size ≤ wd L
  | [], x, h => absurd h (by simp)
  | y :: r, x, h => by
    show x.f2.size ≤ y.f2.size + wd r
    rcases List.mem_cons.1 h with rfl | h
    · omega
    · have := wd_mem r x h; omega

/-! pack eqdeeds: deeds compared with themselves -/
theorem eqDeed_self (k n : Int) (t : ByteArray) : laws_eqDeed.f k n t k n t = some true := by
  unfold laws_eqDeed.f
  rw [if_pos rfl, if_pos rfl, if_pos rfl]
theorem eqDeedS_l0 (L : List S70) (hl : L.length ≤ 1000000000) : ∀ (r i : Nat), i + r = L.length → Ev (fun k => laws_eqDeedS.l0 k L L (i : Int)) true
  | 0, i, h => Ev.step (fun _ => laws_eqDeedS.l0.eq_2 _ _ _ _) (ev_neg (by omega) (ev_now rfl))
  | r + 1, i, h => by
    refine Ev.step (fun _ => laws_eqDeedS.l0.eq_2 _ _ _ _) (ev_pos (by omega) (ev_pos (by omega) (ev_pos (by omega) (ev_bind (eqDeed_self _ _ _) (ev_pos rfl ?_)))))
    rw [w64 (by omega) (by omega)]
    exact eqDeedS_l0 L hl r (i + 1) (by omega)
theorem eqDeedS_self (L : List S70) (hl : L.length ≤ 1000000000) : Ev (fun k => laws_eqDeedS.f k L L) true := by
  unfold laws_eqDeedS.f
  exact ev_pos rfl (eqDeedS_l0 L hl L.length 0 (by omega))

/-! pack markd: deeds marked (wide bounds) -/
theorem strOf_one (n : Int) : (strOfNums ([n] : List Int)).size = 1 := rfl
theorem mtext_l0 : ∀ (b : Nat) (x : Int) (acc : ByteArray), 0 ≤ x → x ≤ b → b ≤ 10000000000000000 → acc.size + b ≤ 100000000000000000 → ∃ t, Ev (fun k => laws_markText.l0 k x acc) t
  | 0, x, acc, h0, h1, _, h2 => ⟨_, Ev.step (fun _ => laws_markText.l0.eq_2 _ _ _) (ev_neg (by omega) (ev_pos (by omega) (ev_now rfl)))⟩
  | b + 1, x, acc, h0, h1, hb, h2 => by
    by_cases h : x > 0
    · have hd : Int.tdiv x 10 = x / 10 := Int.tdiv_eq_ediv_of_nonneg h0
      obtain ⟨t, ht⟩ := mtext_l0 b (x / 10) (strOfNums ([(wrap64 (48 + (Int.tmod x 10))) % 256] : List Int) ++ acc) (by omega) (by omega) (by omega) (by rw [ByteArray.size_append, strOf_one]; omega)
      refine ⟨t, Ev.step (fun _ => laws_markText.l0.eq_2 _ _ _) (ev_pos h (ev_bind rfl (ev_pos (by rw [strOf_one]; omega) ?_)))⟩
      rw [hd, w64 (by omega) (by omega)]
      exact ht
    · exact ⟨_, Ev.step (fun _ => laws_markText.l0.eq_2 _ _ _) (ev_neg h (ev_pos (by omega) (ev_now rfl)))⟩
theorem mtext (x : Int) (h0 : 0 ≤ x) (h1 : x ≤ 10000000000000000) : ∃ t, Ev (fun k => laws_markText.f k x) t := by
  unfold laws_markText.f
  by_cases h : x ≤ 0
  · exact ⟨_, ev_pos h (ev_now rfl)⟩
  · obtain ⟨t, ht⟩ := mtext_l0 x.toNat x ⟨#[]⟩ h0 (by omega) (by omega) (by show 0 + _ ≤ _; omega)
    exact ⟨t, ev_neg h ht⟩
theorem markD_l0 : ∀ (r i : Nat) (X : List S70) (v : Int), i + r = X.length → X.length ≤ 2000000 → 0 ≤ v → v + 3 * r ≤ 1000000000000000 → ∃ M, Ev (fun k => laws_markDeedS.l0 k X v (i : Int)) (v + 3 * r, M)
  | 0, i, X, v, h, hx, h0, h1 => ⟨X, Ev.step (fun _ => laws_markDeedS.l0.eq_2 _ _ _ _) (ev_neg (by omega) (ev_now (by simp)))⟩
  | r + 1, i, X, v, h, hx, h0, h1 => by
    obtain ⟨t, ht⟩ := mtext (v + 2) (by omega) (by omega)
    have e1 : wrap64 (v + 1) = v + 1 := w64 (by omega) (by omega)
    have e2 : wrap64 (v + 1 + 1) = v + 2 := by rw [w64 (by omega) (by omega)]; omega
    have e3 : wrap64 (v + 2 + 1) = v + 3 := by rw [w64 (by omega) (by omega)]; omega
    have e4 : wrap64 ((i : Int) + 1) = ((i + 1 : Nat) : Int) := by rw [w64 (by omega) (by omega)]; rfl
    have hc : v + 3 * ((r + 1 : Nat) : Int) = v + 3 + 3 * (r : Int) := by omega
    obtain ⟨Y, hY⟩ : ∃ Y : List S70, Y = X.set i ⟨v, (rd_T70 X (i : Int)).f1, (rd_T70 X (i : Int)).f2⟩ := ⟨_, rfl⟩
    obtain ⟨Z, hZ⟩ : ∃ Z : List S70, Z = Y.set i ⟨(rd_T70 Y (i : Int)).f0, v + 1, (rd_T70 Y (i : Int)).f2⟩ := ⟨_, rfl⟩
    have hl : Z.length = X.length := by rw [hZ, hY]; simp
    obtain ⟨M, m1⟩ := markD_l0 r (i + 1) (Z.set i ⟨(rd_T70 Z (i : Int)).f0, (rd_T70 Z (i : Int)).f1, t⟩) (v + 3) (by rw [List.length_set]; omega) (by rw [List.length_set]; omega) (by omega) (by omega)
    refine ⟨M, Ev.step (fun _ => laws_markDeedS.l0.eq_2 _ _ _ _) (ev_pos (by omega) (ev_pos (by omega) (ev_bind rfl (ev_bind rfl ?_))))⟩
    rw [e1, e2, e3, e4, hc, Int.toNat_natCast, ← hY, ← hZ]
    exact Ev.bind ht m1
theorem markD (X : List S70) (hx : X.length ≤ 2000000) (v : Int) (h0 : 0 ≤ v) (h1 : v ≤ 100000000000000) : ∃ M u, Ev (fun k => laws_markDeedS.f k X v) (u, M) ∧ ¬ u < 0 := by
  obtain ⟨M, m1⟩ := markD_l0 X.length 0 X v (by omega) hx h0 (by omega)
  exact ⟨M, _, m1, by omega⟩

section
open Go.ChangeShapes Go.WideShapes Go.Deep
variable {H : Type} {enc : TypeId × Value → H} {P : Program} {w : World} {base : Nat} {spare : Nat → Bool} {held : Bool} {α β γ : Type}
def Opens (enc : TypeId × Value → H) (P : Program) (w : World) (base : Nat) (spare : Nat → Bool) (held : Bool) (t : TypeId) (d : Kd α) (Q : α → Prop) : Prop :=
  ∀ (fuel : Nat) (cs : List Value) (x : DataW H × List MemPlace), DataW.trod enc P w base spare held fuel t cs = some x → ∃ a, d.K w a cs ∧ Q a
theorem opens_int {t : TypeId} {k : IntKind} (ht : P.underlying t = some (.int k)) : Opens enc P w base spare held t (Kd.int k) (fun n => (Lit.int k n).wf = true) := fun fuel cs x h => by
  obtain ⟨n, rfl, _, hw⟩ := DataW.trod_int ht h
  exact ⟨n, rfl, hw⟩
theorem opens_string {t : TypeId} (ht : P.underlying t = some .string) : Opens enc P w base spare held t Kd.string (fun s => s.size ≤ maxLen) := fun fuel cs x h => by
  obtain ⟨n, rfl, _, hw⟩ := DataW.trod_string ht h
  exact ⟨n, rfl, hw⟩
theorem opens_list {Φ : Nat → α → Prop} : ∀ n : Nat, (∀ i, i < n → ∃ p, Φ i p) → ∃ ps : List α, ps.length = n ∧ ∀ j p, ps[j]? = some p → Φ j p
  | 0, _ => ⟨[], rfl, fun j p h => by simp at h⟩
  | n + 1, h => by
    obtain ⟨ps, hl, hp⟩ := opens_list n (fun i hi => h i (by omega))
    obtain ⟨p, hpn⟩ := h n (by omega)
    refine ⟨ps ++ [p], by rw [List.length_append, hl]; rfl, fun j q hq => ?_⟩
    rcases Nat.lt_or_ge j n with hj | hj
    · rw [List.getElem?_append_left (by omega)] at hq; exact hp j q hq
    · rw [List.getElem?_append_right (by omega)] at hq
      have : j - ps.length = 0 := by
        rcases Nat.eq_zero_or_pos (j - ps.length) with h0 | h0
        · exact h0
        · rw [List.getElem?_eq_none (by simp; omega)] at hq; cases hq
      rw [this] at hq
      obtain rfl : p = q := by simpa using hq
      rw [show j = n by omega]; exact hpn
theorem opens_slice {t e te : TypeId} {d : Kd α} {Q : α → Prop} (ht : P.underlying t = some (.slice e)) (hc : P.cellsOf e = d.sz) (he : Opens enc P w base spare held e d Q) :
    Opens enc P w base spare held t (Kd.slice te d) (fun xs => xs.length ≤ maxLen ∧ ∀ x ∈ xs, Q x) := fun fuel cs x h => by
  rcases open_slice ht h with ⟨rfl, _⟩ | ⟨a, len, cap, m, n, D, Pl, rfl, hb, hl, hm, hmm, hx, hi⟩
  · exact ⟨[], ⟨none, 0, rfl, Nat.le_refl _, ⟨rfl, by simp, fun h => absurd h (by simp)⟩⟩, by simp [maxLen], by simp⟩
  · have hle : len ≤ m := by rw [hmm]; split <;> omega
    obtain ⟨ps, hpl, hps⟩ := opens_list (Φ := fun i p => (∃ c : List Value, c.length = d.sz ∧ d.K w p c ∧ ∀ j u, c[j]? = some u → w.cell? (a.add (i * d.sz + j)) = some u) ∧ Q p) len (fun i hil => by
      obtain ⟨cs', h1, h2⟩ := hi i (by omega)
      obtain ⟨p, hk, hq⟩ := he _ _ _ h2
      rw [hc] at h1
      obtain ⟨_, hcl, hat⟩ := World.cells?_some h1
      refine ⟨p, ⟨cs', hcl, hk, fun j u hu => ?_⟩, hq⟩
      have hj : j < d.sz := by rw [← hcl]; exact (List.getElem?_eq_some_iff.1 hu).1
      rw [← Go.Deep.add_add, hat j hj, hu])
    have hmax : maxLen ≤ 9223372036854775807 := by decide
    refine ⟨ps, ⟨some a, cap, by rw [hpl], by omega, ⟨rfl, by omega, fun _ => ⟨a, rfl, fun j p hp => (hps j p hp).1⟩⟩⟩, by omega, fun x hx => ?_⟩
    obtain ⟨j, hj⟩ := List.getElem?_of_mem hx
    exact (hps j x hj).2
theorem opens_struct2 {t : TypeId} {f0 f1 : Field} {d0 : Kd α} {d1 : Kd β} {g : γ → α × β} {mk : α → β → γ} {Q0 : α → Prop} {Q1 : β → Prop} (hs : P.underlying t = some (.struct #[f0, f1]))
    (ho0 : f0.offset = 0) (ho1 : f1.offset = d0.sz) (hc0 : P.cellsOf f0.type = d0.sz) (hc1 : P.cellsOf f1.type = d1.sz) (hct : P.cellsOf t = d0.sz + d1.sz) (hg : ∀ a b, g (mk a b) = (a, b))
    (h0 : Opens enc P w base spare held f0.type d0 Q0) (h1 : Opens enc P w base spare held f1.type d1 Q1) :
    Opens enc P w base spare held t (Kd.iso (Kd.pair d0 d1) g) (fun x => Q0 (g x).1 ∧ Q1 (g x).2) := fun fuel cs x h => by
  obtain ⟨xs, n, _, hx, hlen, hxl, hf⟩ := DataW.trod_struct hs h
  have e0 := hf 0 f0 rfl
  have e1 := hf 1 f1 rfl
  match xs, hxl with
  | [y0, y1], _ =>
    obtain ⟨a, ka, qa⟩ := h0 _ _ _ e0
    obtain ⟨b, kb, qb⟩ := h1 _ _ _ e1
    refine ⟨mk a b, ?_, by show Q0 (g (mk a b)).1 ∧ Q1 (g (mk a b)).2; rw [hg]; exact ⟨qa, qb⟩⟩
    show (Kd.pair d0 d1).K w (g (mk a b)) cs
    rw [hg]
    rw [ho0, hc0, List.drop_zero] at ka
    rw [ho1, hc1, List.take_of_length_le (by rw [List.length_drop]; omega)] at kb
    exact ⟨_, _, (List.take_append_drop d0.sz cs).symm, ka, kb⟩
theorem opens_struct3 {δ : Type} {t : TypeId} {f0 f1 f2 : Field} {d0 : Kd α} {d1 : Kd β} {d2 : Kd γ} {g : δ → α × (β × γ)} {mk : α → β → γ → δ} {Q0 : α → Prop} {Q1 : β → Prop} {Q2 : γ → Prop} (hs : P.underlying t = some (.struct #[f0, f1, f2]))
    (ho0 : f0.offset = 0) (ho1 : f1.offset = d0.sz) (ho2 : f2.offset = d0.sz + d1.sz) (hc0 : P.cellsOf f0.type = d0.sz) (hc1 : P.cellsOf f1.type = d1.sz) (hc2 : P.cellsOf f2.type = d2.sz) (hct : P.cellsOf t = d0.sz + d1.sz + d2.sz) (hg : ∀ a b c, g (mk a b c) = (a, (b, c)))
    (h0 : Opens enc P w base spare held f0.type d0 Q0) (h1 : Opens enc P w base spare held f1.type d1 Q1) (h2 : Opens enc P w base spare held f2.type d2 Q2) :
    Opens enc P w base spare held t (Kd.iso (Kd.pair d0 (Kd.pair d1 d2)) g) (fun x => Q0 (g x).1 ∧ Q1 (g x).2.1 ∧ Q2 (g x).2.2) := fun fuel cs x h => by
  obtain ⟨xs, n, _, hx, hlen, hxl, hf⟩ := DataW.trod_struct hs h
  have e0 := hf 0 f0 rfl
  have e1 := hf 1 f1 rfl
  have e2 := hf 2 f2 rfl
  match xs, hxl with
  | [y0, y1, y2], _ =>
    obtain ⟨a, ka, qa⟩ := h0 _ _ _ e0
    obtain ⟨b, kb, qb⟩ := h1 _ _ _ e1
    obtain ⟨c, kc, qc⟩ := h2 _ _ _ e2
    refine ⟨mk a b c, ?_, by show Q0 (g (mk a b c)).1 ∧ Q1 (g (mk a b c)).2.1 ∧ Q2 (g (mk a b c)).2.2; rw [hg]; exact ⟨qa, qb, qc⟩⟩
    show (Kd.pair d0 (Kd.pair d1 d2)).K w (g (mk a b c)) cs
    rw [hg]
    rw [ho0, hc0, List.drop_zero] at ka
    rw [ho1, hc1] at kb
    rw [ho2, hc2, List.take_of_length_le (by rw [List.length_drop]; omega)] at kc
    refine ⟨_, _, (List.take_append_drop d0.sz cs).symm, ka, _, _, (List.take_append_drop d1.sz _).symm, kb, ?_⟩
    rw [List.drop_drop]
    first | exact kc | (rw [Nat.add_comm]; exact kc)
theorem opens_arg {t : TypeId} {fs : Array Field} {r : Reach} {b0 : Nat} {v : Value} {dd : DataW H} {p : List MemPlace} {d : Kd α} {Q : α → Prop} (hs : P.underlying t = some (.struct fs)) (hv : Value.okWide P w r b0 t v) (h : DataW.Trod enc P w base spare held t v dd p)
    (ho : Opens enc P w base spare held t d Q) : ∃ (l : List Value) (a : α), v = .agg ⟨l⟩ ∧ d.K w a l ∧ Q a := by
  obtain ⟨cs, rfl, hsz⟩ := okWide_struct hs hv
  obtain ⟨l⟩ := cs
  obtain ⟨fuel, hf⟩ := h
  obtain ⟨a, hk, hq⟩ := ho _ _ _ hf
  exact ⟨l, a, rfl, by simpa [Value.cells] using hk, hq⟩
end

def Way (k : Nat) (l0 : List S23) (l1 : List (List S23)) (ll : List S66) : Prop :=
  ∃ u1, laws_szDesk.f k l0 l1 1048576 = some u1 ∧ (u1 < 0 ∨ (¬ u1 < 0 ∧ ∃ u2, laws_szDeedS.f k ll u1 = some u2 ∧ (u2 < 0 ∨ (¬ u2 < 0 ∧
    ∃ (N N' M M' : List S25) (P P' Q Q' : List (List S25)) (L LM : List S70) (ok t u v t' u' : Int), laws_toDesk.f k l0 l1 = some (N, P) ∧ laws_toDeedS.f k ll = some L ∧ spec_DeskRun.f k N P L = some (N', P', ok) ∧ impl_DeskRun.f k N P L = some (N', P', ok) ∧
      laws_eqDesk.f k N' P' N' P' = some true ∧ laws_eqDesk.f k N P N P = some true ∧ laws_eqDeedS.f k L L = some true ∧ laws_markSayS.f k N 1 = some (t, M) ∧ laws_markSaySS.f k P t = some (u, Q) ∧ laws_markDeedS.f k L u = some (v, LM) ∧ ¬ v < 0 ∧
      laws_markSayS.f k N' 1 = some (t', M') ∧ laws_markSaySS.f k P' t' = some (u', Q') ∧ laws_heldDesk.f k M' Q' 1 = some u' ∧ ¬ u' < 0))))
theorem FnExactDeskRun (l0 : List S23) (l1 : List (List S23)) (ll : List S66) (h0 : l0.length ≤ maxLen) (h1 : l1.length ≤ maxLen) (h2 : ∀ x ∈ l1, x.length ≤ maxLen) (h3 : ll.length ≤ maxLen) (h4 : ∀ x ∈ ll, x.f2.size ≤ maxLen) : ∃ k, Way k l0 l1 ll := by
  obtain ⟨u1, ⟨n1, e1⟩, hc⟩ := szDesk_ok l0 l1 h0 h1 h2
  by_cases hn : u1 < 0
  · exact ⟨n1, u1, e1 _ (Nat.le_refl _), .inl hn⟩
  obtain ⟨b0, b1, c2, c3, c4⟩ := hc.resolve_left hn
  obtain ⟨u2, ⟨n2, e2⟩, hc2⟩ := szDeedS_le ll h3 h4 u1 b0 b1
  by_cases hn2 : u2 < 0
  · exact ⟨n1 + n2, u1, e1 _ (by omega), .inr ⟨hn, u2, e2 _ (by omega), .inl hn2⟩⟩
  have c5 := hc2.resolve_left hn2
  have hT := toDesk_ok l0 l1 (by omega) (by omega) (fun x hx => by have := c4 x hx; omega)
  have hA := toDeedS_ok ll (by omega)
  obtain ⟨N, hN⟩ : ∃ N, N = l0.map cS := ⟨_, rfl⟩
  obtain ⟨P, hP⟩ : ∃ P, P = l1.map (List.map cS) := ⟨_, rfl⟩
  obtain ⟨L, hL⟩ : ∃ L, L = ll.map cD := ⟨_, rfl⟩
  rw [← hN, ← hP] at hT
  rw [← hL] at hA
  have hL2 : L.length ≤ 1048576 := by rw [hL, List.length_map]; omega
  have hN2 : N.length ≤ 1048576 := by rw [hN, List.length_map]; omega
  have hP2 : P.length ≤ 1048576 := by rw [hP, List.length_map]; omega
  have hp2 : ∀ x ∈ P, x.length ≤ 1048576 := fun x hx => by
    rw [hP] at hx
    obtain ⟨y, hy, rfl⟩ := List.mem_map.1 hx
    have := c4 y hy
    rw [List.length_map]; omega
  have hb : ∀ x ∈ P, x.length ≤ 1000000000 := fun x hx => by have := hp2 x hx; omega
  obtain ⟨d1, d2, d3⟩ := dr_small N P L
  have hS := srun N P L (by omega) (by omega) hb
  have hI := irun N P L (by omega) hb
  obtain ⟨⟨N', P', ok⟩, hd⟩ : ∃ d, d = dr N P L := ⟨_, rfl⟩
  rw [← hd] at hS hI d1 d2 d3
  have d1' : N'.length ≤ 1048576 := d1
  have d2' : P'.length ≤ 1048576 := d2
  have hE := eqDesk_self N' P' (by omega) (by omega) (fun x hx => by have := d3 x hx; omega)
  have hE0 := eqDesk_self N P (by omega) (by omega) hb
  have hEL := eqDeedS_self L (by omega)
  have hs := sumL_le P 1048576 hp2
  have m1 := markS_ok N hN2 1 (by omega) (by omega)
  have m2 := markSS_ok P hP2 hp2 (1 + 3 * N.length) (by omega) (by omega)
  have hs2 : sumL P ≤ 1048576 * 1048576 := Nat.le_trans hs (Nat.mul_le_mul_right _ hP2)
  obtain ⟨LM, v, mL, hv⟩ := markD L (by omega) (1 + 3 * N.length + 3 * sumL P) (by omega) (by omega)
  have q1 := markS_ok N' d1 1 (by omega) (by omega)
  have q2 := markSS_ok P' d2 d3 (1 + 3 * N'.length) (by omega) (by omega)
  have q3 := heldD_ok N'.length d1 P' d2 d3
  obtain ⟨a1, hT⟩ := hT; obtain ⟨a2, hS⟩ := hS; obtain ⟨a3, hI⟩ := hI; obtain ⟨a4, hE⟩ := hE; obtain ⟨a5, hE0⟩ := hE0
  obtain ⟨a6, m1⟩ := m1; obtain ⟨a7, m2⟩ := m2; obtain ⟨a8, q1⟩ := q1; obtain ⟨a9, q2⟩ := q2; obtain ⟨a10, q3⟩ := q3
  obtain ⟨a11, hA⟩ := hA; obtain ⟨a12, hEL⟩ := hEL; obtain ⟨a13, mL⟩ := mL
  refine ⟨n1 + n2 + a1 + a2 + a3 + a4 + a5 + a6 + a7 + a8 + a9 + a10 + a11 + a12 + a13, u1, e1 _ (by omega), .inr ⟨hn, u2, e2 _ (by omega), .inr ⟨hn2, N, N', _, _, P, P', _, _, L, LM, ok, _, _, v, _, _, hT _ (by omega), hA _ (by omega), hS _ (by omega), hI _ (by omega), hE _ (by omega), hE0 _ (by omega), hEL _ (by omega), m1 _ (by omega), m2 _ (by omega), mL _ (by omega), hv, q1 _ (by omega), q2 _ (by omega), q3 _ (by omega), by omega⟩⟩⟩

end Go.Proofs.Ytnnaiaiddjkjnaa.Pure
namespace Go.Proofs.Ytnnaiaiddjkjnaa.fnExactDeskRun
open Go.ChangeShapes Go.WideShapes Go.ChangeAt Go.RowKit Go.Proofs.Ytnnaiaiddjkjnaa.Pure Go.Proofs.Ytnnaiaiddjkjnaa.PFnExactDeskRun Go.Proofs.YtnnaiaiddjkjnaaW.PrintWords
set_option linter.unusedVariables false
theorem own : ownKnob Try.prog.godebug = none := by kernel_rfl
theorem laidOut : laidOutB Try.prog = true := by kernel_rfl
theorem opensSay {H : Type} (enc : TypeId × Value → H) (w : World) (base : Nat) (spare : Nat → Bool) (held : Bool) : Opens enc Try.prog w base spare held 23 k23 (fun _ => True) := fun fuel cs x h => by
  obtain ⟨a, hk, _⟩ := opens_struct3 (g := fun x : S23 => (x.f0, x.f1, x.f2)) (mk := fun a b c => (⟨a, b, c⟩ : S23)) (d0 := Kd.int .i64) (d1 := Kd.int .i64) (d2 := Kd.int .i64) Try.underlying23 rfl rfl rfl (by kernel_rfl) (by kernel_rfl) (by kernel_rfl) (by kernel_rfl) (fun _ _ _ => rfl) (opens_int Try.underlying3) (opens_int Try.underlying3) (opens_int Try.underlying3) fuel cs x h
  exact ⟨a, hk, trivial⟩
theorem opensDesk {H : Type} (enc : TypeId × Value → H) (w : World) (base : Nat) (spare : Nat → Bool) (held : Bool) : Opens enc Try.prog w base spare held 50 (Kd.iso (Kd.pair (Kd.slice 23 k23) (Kd.slice 47 (Kd.slice 23 k23))) (fun x : List S23 × List (List S23) => x))
    (fun x => (x.1.length ≤ maxLen ∧ ∀ y ∈ x.1, True) ∧ (x.2.length ≤ maxLen ∧ ∀ y ∈ x.2, y.length ≤ maxLen ∧ ∀ z ∈ y, True)) :=
  opens_struct2 (g := fun x : List S23 × List (List S23) => x) (mk := Prod.mk) (d0 := Kd.slice 23 k23) (d1 := Kd.slice 47 (Kd.slice 23 k23)) Try.underlying50 rfl rfl (by kernel_rfl) (by kernel_rfl) (by kernel_rfl) (fun _ _ => rfl)
    (opens_slice Try.underlying47 (by kernel_rfl) (opensSay enc w base spare held)) (opens_slice Try.underlying48 (by kernel_rfl) (opens_slice Try.underlying47 (by kernel_rfl) (opensSay enc w base spare held)))
theorem opensDeed {H : Type} (enc : TypeId × Value → H) (w : World) (base : Nat) (spare : Nat → Bool) (held : Bool) : Opens enc Try.prog w base spare held 66 k66 (fun x => x.f2.size ≤ maxLen) := fun fuel cs x h => by
  obtain ⟨a, hk, _, _, h2⟩ := opens_struct3 (g := fun x : S66 => (x.f0, x.f1, x.f2)) (mk := fun a b c => (⟨a, b, c⟩ : S66)) (d0 := Kd.int .i64) (d1 := Kd.int .i64) (d2 := Kd.string) Try.underlying66 rfl rfl rfl (by kernel_rfl) (by kernel_rfl) (by kernel_rfl) (by kernel_rfl) (fun _ _ _ => rfl) (opens_int Try.underlying3) (opens_int Try.underlying3) (opens_string Try.underlying9) fuel cs x h
  exact ⟨a, hk, h2⟩
set_option maxRecDepth 100000 in
theorem lifted (os : Os) (started : os.Started) (H : Type) (enc : TypeId × Value → H) :
    ReturnsInHanded {} Try.checked os 13 .any (Rows.fnExactDeskRunSpec.pre6 enc Try.prog Try.f13 Rows.fnExactDeskRunRow.domain false) (Rows.fnExactDeskRunSpec.post enc Try.prog Try.f13 false true false false) := by
  refine returnsInHanded_of_change_sized (C := Try.checked) own started (by kernel_rfl) Try.func13
    (ChangeSpec.witness6 (enc := enc) (C := Try.checked) false ⟨#[], #[.agg #[.slice none 0 0, .slice none 0 0], .slice none 0 0], []⟩ 8 (by kernel_rfl) (by kernel_rfl) (by kernel_rfl) (by kernel_rfl)) ?_
  intro W base args ds gs before hval0 hW _ _ _
  have hval : ∀ (j : Nat) t v, Try.f13.params[j]? = some t → args[j]? = some v → Value.okWide Try.prog W .any base t v := hval0
  have hW' := hW
  obtain ⟨p, q, hA0, hV, rfl, hfz, hnd⟩ := hW
  have hA : DataW.TrodAll enc Try.prog W 0 (fun _ => true) true Try.f13.params.toList args.toList ds p := hA0
  rw [Try.params13] at hA hval
  obtain ⟨v0, vs0, d0, ds0, p0, q0, hargs, rfl, rfl, h0, r0⟩ := trodAll_cons hA
  obtain ⟨v1, vs1, d1, ds1, p1, q1, rfl, rfl, rfl, h1, r1⟩ := trodAll_cons r0
  obtain ⟨rfl, rfl, rfl⟩ := trodAll_nil r1
  obtain rfl : args = #[v0, v1] := by cases args; simp_all
  obtain ⟨rfl, rfl⟩ := trodVars_none hV
  have k0 := h0
  have lt0 : ∀ x ∈ p0, x.block < W.heap.size := by obtain ⟨m, hm⟩ := k0; exact DataW.trod_lt m _ _ _ hm
  have k1 := h1
  have lt1 : ∀ x ∈ p1, x.block < W.heap.size := by obtain ⟨m, hm⟩ := k1; exact DataW.trod_lt m _ _ _ hm
  obtain ⟨l, ⟨N, P⟩, rfl, hk, ⟨qN, _⟩, ⟨qP, qq⟩⟩ := opens_arg Try.underlying50 (hval 0 50 v0 rfl rfl) h0 (opensDesk enc W 0 (fun _ => true) true)
  obtain ⟨a0, len0, cap0, rfl⟩ := okWide_slice Try.underlying73 (hval 1 73 v1 rfl rfl)
  obtain ⟨fuel, hf⟩ := h1
  obtain ⟨D, ⟨A2, m2, hcs, hc2, hr2⟩, qD, qb⟩ := opens_slice (te := 66) Try.underlying73 (by kernel_rfl) (opensDeed enc W 0 (fun _ => true) true) _ _ _ hf
  simp [Value.cells] at hcs
  obtain ⟨rfl, rfl, rfl⟩ := hcs
  obtain ⟨c0, c1, rfl, ⟨A0, n0, rfl, hc0, hr0⟩, ⟨A1, n1, rfl, hc1, hr1⟩⟩ := hk
  clear hA0 hval0
  have hgo : Calls Try.prog 13 #[.agg #[.slice A0 N.length n0, .slice A1 P.length n1], .slice a0 D.length cap0] W fun e w' => e = .returned (.bool true) ∧ Below W.heap.size W w' := by
    obtain ⟨k, u1, e1, hw⟩ := Pure.FnExactDeskRun N P D qN qP (fun x hx => (qq x hx).1) qD qb
    rcases hw with hn | ⟨hn, u2, e2, hw⟩
    · exact run_early1 k hr0 hc0 hr1 hc1 hr2 hc2 e1 hn
    rcases hw with hn2 | ⟨hn2, X, X', M, M', Y, Y', Q, Q', L, LM, ok, t, u, v, t', u', f1, f2, f3, f4, f5, f6, f7, f8, f9, f10, f11, f12, f13, f14, f15⟩
    · exact run_early2 k hr0 hc0 hr1 hc1 hr2 hc2 e1 hn e2 hn2
    exact run_walk k hr0 hc0 hr1 hc1 hr2 hc2 e1 hn e2 hn2 f1 f2 f3 f4 f5 f6 f7 f8 f9 f10 f11 f12 f13 f14 f15
  refine hgo.mono fun e W' ⟨he, bel⟩ => ?_
  subst he
  exact ⟨_, rfl, _, _, _, [], _, [], hW', trodAll_mk1 (shut_bool Try.underlying4 _), (trodAll_cons_mk (Below.trod laidOut (by kernel_rfl) (of_decide_eq_true (by kernel_rfl)) k0 bel lt0) (trodAll_cons_mk (Below.trod laidOut (by kernel_rfl) (of_decide_eq_true (by kernel_rfl)) k1 bel lt1) trodAll_mk0)), rfl, bel.frame _, fun h => by cases h⟩
theorem over : Rows.fnExactDeskRunRow.holds Try.pinned (OpenSpec.ofChange Rows.fnExactDeskRunSpec) :=
  OpenClaim.holds_of_wide 13 Try.f13 rfl rfl rfl rfl rfl rfl rfl ⟨rfl, rfl, rfl, rfl, rfl⟩ rfl rfl rfl rfl rfl (by kernel_rfl) Try.func13 (by kernel_rfl)
    (of_decide_eq_true (by kernel_rfl)) (by unfold Func.isWrapper; first | (rw [if_pos (by decide +kernel)]; kernel_rfl) | (rw [if_neg (by decide +kernel)]; exact ⟨rfl, rfl⟩))
    (fun os started H enc _ => lifted os started H enc)
theorem proved : Rows.FnExactDeskRunSaid := over
end Go.Proofs.Ytnnaiaiddjkjnaa.fnExactDeskRun
namespace Go.Proofs.Ytnnaiaiddjkjnaa
theorem fnExactDeskRun_holds : Rows.FnExactDeskRunSaid := fnExactDeskRun.proved
end Go.Proofs.Ytnnaiaiddjkjnaa
