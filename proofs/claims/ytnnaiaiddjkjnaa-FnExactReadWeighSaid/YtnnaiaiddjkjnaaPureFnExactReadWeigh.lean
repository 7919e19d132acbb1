/- For all texts the program's ReadWeigh returns what the reference's returns; no condition. -/
import Derived.Test.YtnnaiaiddjkjnaaPFnExactReadWeighx2
namespace Go.Proofs.Ytnnaiaiddjkjnaa.Pure
open Go.RowKit Go.Proofs.Ytnnaiaiddjkjnaa.PFnExactReadWeigh Go.Proofs.YtnnaiaiddjkjnaaW.PrintWords Go.Proofs.YtnnaiaiddjkjnaaW.PrintLast
set_option linter.unusedVariables false
set_option linter.unusedSimpArgs false

/-! pack arith: numbers that do not wrap, and steps of 'from some number of rounds on' -/
theorem w64 {n : Int} (h0 : -9223372036854775808 ≤ n) (h1 : n ≤ 9223372036854775807) : wrap64 n = n := by unfold wrap64; omega
theorem ev_pos {α : Type} {c : Prop} [Decidable c] {a b : Nat → Option α} {r : α} (h : c) (H : Ev a r) : Ev (fun k => if c then a k else b k) r :=
  Ev.congr (fun _ => if_pos h) H
theorem ev_neg {α : Type} {c : Prop} [Decidable c] {a b : Nat → Option α} {r : α} (h : ¬ c) (H : Ev b r) : Ev (fun k => if c then a k else b k) r :=
  Ev.congr (fun _ => if_neg h) H
theorem ev_now {α : Type} {a r : α} (h : a = r) : Ev (fun _ => some a) r := h ▸ Ev.now a
theorem ev_of {α : Type} {o : Option α} {r : α} (h : o = some r) : Ev (fun _ => o) r := ⟨0, fun _ _ => h⟩
theorem ev_bind {α β : Type} {o : Option α} {f : Nat → α → Option β} {a : α} {r : β} (h : o = some a) (k : Ev (fun n => f n a) r) : Ev (fun n => o.bind (f n)) r :=
  Ev.congr (fun n => by rw [h]; rfl) k
theorem ev_eq {α : Type} {g : Nat → Option α} {r r' : α} (h : r = r') (k : Ev g r) : Ev g r' := h ▸ k

/-! pack weigh: texts of sentences -/
theorem tl (b : ByteArray) : b.toList = b.data.toList := ByteArray.toList_eq b
def wS (f : Nat) : List UInt8 := ([[97, 108, 108, 32], [115, 111, 109, 101, 32], [110, 111, 116, 32, 102, 101, 119, 101, 114, 32], [109, 111, 114, 101, 32], [109, 111, 115, 116, 32], [97, 116, 32, 109, 111, 115, 116, 32, 104, 97, 108, 102, 32]] : List (List UInt8)).getD f []
def wM (f : Nat) : List UInt8 := if f = 2 ∨ f = 3 then [32, 116, 104, 97, 110, 32] else [32, 97, 114, 101, 32]
def wT (o : Nat) : List UInt8 := ([[97], [110, 111, 110, 45, 97], [98], [110, 111, 110, 45, 98]] : List (List UInt8)).getD o []
def wL (f o t : Nat) : List UInt8 := wS f ++ wT o ++ wM f ++ wT t
def wB (f o t : Nat) : ByteArray := ⟨(wL f o t).toArray⟩
theorem wB_l (f o t : Nat) : (wB f o t).toList = wL f o t := by rw [tl]; simp [wB]
/-- number i's form and terms, and its text -/
def iL (i : Nat) : List UInt8 := wL (i / 16) (i / 4 % 4) (i % 4)
def fnd (P : Nat → Bool) : Nat → Nat → Option Nat
  | 0, _ => none
  | d + 1, i => if P i then some i else fnd P d (i + 1)
def res : Option Nat → Int × Int × Int × Bool
  | none => (0, 0, 0, false)
  | some i => (((i / 16 : Nat) : Int), ((i / 4 % 4 : Nat) : Int), ((i % 4 : Nat) : Int), true)
def isT (x : ByteArray) (i : Nat) : Bool := iL i == x.toList
theorem iL_inj_all : ∀ i j : Fin 96, iL i.val = iL j.val → i = j := by decide +kernel
theorem iL_last_all : ∀ i : Fin 96, (iL i.val).getLast? ≠ some 32 := by decide +kernel
theorem iL_len_all : ∀ i : Fin 96, 0 < (iL i.val).length ∧ (iL i.val).length ≤ 100 := by decide +kernel
theorem fnd_some (P : Nat → Bool) (d : Nat) : ∀ i j, fnd P d i = some j → P j = true ∧ i ≤ j ∧ j < i + d := by
  induction d with
  | zero => intro i j h; simp [fnd] at h
  | succ d ih =>
    intro i j h
    unfold fnd at h
    by_cases c : P i = true
    · rw [if_pos c] at h; obtain rfl := Option.some.inj h; exact ⟨c, by omega, by omega⟩
    · rw [if_neg c] at h; obtain ⟨h1, h2, h3⟩ := ih _ _ h; exact ⟨h1, by omega, by omega⟩
theorem fnd_none (P : Nat → Bool) (d : Nat) : ∀ i, (∀ j, i ≤ j → j < i + d → P j = false) → fnd P d i = none := by
  induction d with
  | zero => intro i _; rfl
  | succ d ih =>
    intro i h
    unfold fnd
    rw [if_neg (by rw [h i (by omega) (by omega)]; simp)]
    exact ih _ (fun j h1 h2 => h j (by omega) (by omega))
theorem fnd_at (P : Nat → Bool) (d : Nat) : ∀ i j, i ≤ j → j < i + d → P j = true → (∀ m, i ≤ m → m < i + d → P m = true → m = j) → fnd P d i = some j := by
  induction d with
  | zero => intro i j h1 h2; omega
  | succ d ih =>
    intro i j h1 h2 hj hu
    unfold fnd
    by_cases c : P i = true
    · rw [if_pos c, hu i (by omega) (by omega) c]
    · rw [if_neg c]
      have : i ≠ j := fun e => c (by rw [e]; exact hj)
      exact ih _ _ (by omega) (by omega) hj (fun m a b => hu m (by omega) (by omega))
/-- what is read of a text -/
def rdW (x : ByteArray) : Option Nat := fnd (isT x) 96 0
theorem rdW_text {i : Nat} (hi : i < 96) {x : ByteArray} (hx : x.toList = iL i) : rdW x = some i := by
  refine fnd_at _ _ _ _ (by omega) (by omega) (by unfold isT; rw [hx]; simp) (fun m _ hm h => ?_)
  unfold isT at h
  rw [hx, beq_iff_eq] at h
  have := iL_inj_all ⟨m, by omega⟩ ⟨i, hi⟩ h
  simpa using this
theorem rdW_some {x : ByteArray} {i : Nat} (h : rdW x = some i) : i < 96 ∧ x.toList = iL i := by
  obtain ⟨h1, _, h3⟩ := fnd_some _ _ _ _ h
  unfold isT at h1
  exact ⟨by omega, (beq_iff_eq.mp h1).symm⟩
theorem rdW_space {x : ByteArray} {s : List UInt8} (hx : x.toList = s ++ [32]) : rdW x = none := by
  refine fnd_none _ _ _ (fun j _ hj => ?_)
  unfold isT
  rw [hx, beq_eq_false_iff_ne]
  intro e
  exact iL_last_all ⟨j, by omega⟩ (by simp only; rw [e]; simp)
theorem idx_of {f o t : Nat} (hf : f < 6) (ho : o < 4) (ht : t < 4) : ∃ i, i < 96 ∧ i / 16 = f ∧ i / 4 % 4 = o ∧ i % 4 = t := ⟨16 * f + 4 * o + t, by omega, by omega, by omega, by omega⟩

/-! pack weigh_i -/
theorem iwt_all : ∀ f : Fin 6, ∀ o t : Fin 4, impl_weighText.f (f.val : Int) (o.val : Int) (t.val : Int) = some (wB f.val o.val t.val) := by decide +kernel
theorem iwt {f o t : Nat} (hf : f < 6) (ho : o < 4) (ht : t < 4) : impl_weighText.f (f : Int) (o : Int) (t : Int) = some (wB f o t) := iwt_all ⟨f, hf⟩ ⟨o, ho⟩ ⟨t, ht⟩

/-! pack weigh_s -/
theorem swt_all : ∀ f : Fin 6, ∀ o t : Fin 4, spec_WeighText.f (f.val : Int) (o.val : Int) (t.val : Int) = some (wB f.val o.val t.val) := by decide +kernel
theorem swt {f o t : Nat} (hf : f < 6) (ho : o < 4) (ht : t < 4) : spec_WeighText.f (f : Int) (o : Int) (t : Int) = some (wB f o t) := swt_all ⟨f, hf⟩ ⟨o, ho⟩ ⟨t, ht⟩

/-! pack rdw_i: the program's reading -/
theorem irw_loop (x : ByteArray) (d : Nat) : ∀ i : Nat, i + d = 95 →
    Ev (fun k => impl_readWeigh.l2 k x ((i / 16 : Nat) : Int) ((i / 4 % 4 : Nat) : Int) ((i / 4 % 4 : Nat) : Int) ((i % 4 : Nat) : Int)) (res (fnd (isT x) (d + 1) i)) := by
  induction d with
  | zero =>
    intro i hi
    obtain rfl : i = 95 := by omega
    refine Ev.step (fun _ => impl_readWeigh.l2.eq_2 _ _ _ _ _ _) (ev_pos (by omega) (ev_bind (iwt (by omega) (by omega) (by omega)) ?_))
    rw [wB_l]
    unfold fnd
    by_cases h : iL 95 = x.toList
    · rw [if_pos (show isT x 95 = true by unfold isT; rw [h]; simp)]
      exact ev_pos h (ev_now rfl)
    · rw [if_neg (show ¬ isT x 95 = true by unfold isT; simpa using h)]
      refine ev_neg h (Ev.step (fun _ => impl_readWeigh.l2.eq_2 _ _ _ _ _ _) (ev_neg (by decide +kernel) (Ev.step (fun _ => impl_readWeigh.l1.eq_2 _ _ _ _) (ev_neg (by decide +kernel) (Ev.step (fun _ => impl_readWeigh.l0.eq_2 _ _ _) (ev_neg (by decide +kernel) (ev_now rfl)))))))
  | succ d ih =>
    intro i hi
    refine Ev.step (fun _ => impl_readWeigh.l2.eq_2 _ _ _ _ _ _) (ev_pos (by omega) (ev_bind (iwt (by omega) (by omega) (by omega)) ?_))
    rw [wB_l]
    unfold fnd
    by_cases h : iL i = x.toList
    · rw [if_pos (show isT x i = true by unfold isT; rw [h]; simp)]
      exact ev_pos h (ev_now rfl)
    · rw [if_neg (show ¬ isT x i = true by unfold isT; simpa using h)]
      have IH := ih (i + 1) (by omega)
      refine ev_neg h ?_
      rw [w64 (by omega) (by omega)]
      by_cases h3 : i % 4 = 3
      · rw [show (((i % 4 : Nat) : Int) + 1) = 4 by omega]
        refine Ev.step (fun _ => impl_readWeigh.l2.eq_2 _ _ _ _ _ _) (ev_neg (by decide) ?_)
        rw [w64 (by omega) (by omega)]
        by_cases h4 : i / 4 % 4 = 3
        · rw [show (((i / 4 % 4 : Nat) : Int) + 1) = 4 by omega]
          refine Ev.step (fun _ => impl_readWeigh.l1.eq_2 _ _ _ _) (ev_neg (by decide) ?_)
          rw [w64 (by omega) (by omega)]
          refine Ev.step (fun _ => impl_readWeigh.l0.eq_2 _ _ _) (ev_pos (by omega) (Ev.step (fun _ => impl_readWeigh.l1.eq_2 _ _ _ _) (ev_pos (by decide) ?_)))
          rw [show (i + 1) / 16 = i / 16 + 1 by omega, show (i + 1) / 4 % 4 = 0 by omega, show (i + 1) % 4 = 0 by omega] at IH
          exact IH
        · refine Ev.step (fun _ => impl_readWeigh.l1.eq_2 _ _ _ _) (ev_pos (by omega) ?_)
          rw [show (i + 1) / 16 = i / 16 by omega, show (i + 1) / 4 % 4 = i / 4 % 4 + 1 by omega, show (i + 1) % 4 = 0 by omega] at IH
          exact IH
      · rw [show (i + 1) / 16 = i / 16 by omega, show (i + 1) / 4 % 4 = i / 4 % 4 by omega, show (i + 1) % 4 = i % 4 + 1 by omega] at IH
        exact IH
theorem irw (x : ByteArray) : Ev (fun k => impl_readWeigh.f k x) (res (rdW x)) := by
  unfold impl_readWeigh.f
  refine Ev.step (fun _ => impl_readWeigh.l0.eq_2 _ _ _) (ev_pos (by decide) (Ev.step (fun _ => impl_readWeigh.l1.eq_2 _ _ _ _) (ev_pos (by decide) (irw_loop x 95 0 (by omega)))))

/-! pack rdw_s: the reference's reading -/
theorem srw_loop (x : ByteArray) (d : Nat) : ∀ i : Nat, i + d = 95 →
    Ev (fun k => spec_ReadWeigh.l2 k x ((i / 16 : Nat) : Int) ((i / 4 % 4 : Nat) : Int) ((i % 4 : Nat) : Int)) (res (fnd (isT x) (d + 1) i)) := by
  induction d with
  | zero =>
    intro i hi
    obtain rfl : i = 95 := by omega
    refine Ev.step (fun _ => spec_ReadWeigh.l2.eq_2 _ _ _ _ _) (ev_pos (by omega) (ev_bind (swt (by omega) (by omega) (by omega)) ?_))
    rw [wB_l]
    unfold fnd
    by_cases h : iL 95 = x.toList
    · rw [if_pos (show isT x 95 = true by unfold isT; rw [h]; simp)]
      exact ev_pos h (ev_now rfl)
    · rw [if_neg (show ¬ isT x 95 = true by unfold isT; simpa using h)]
      refine ev_neg h (Ev.step (fun _ => spec_ReadWeigh.l2.eq_2 _ _ _ _ _) (ev_neg (by decide +kernel) (Ev.step (fun _ => spec_ReadWeigh.l1.eq_2 _ _ _ _) (ev_neg (by decide +kernel) (Ev.step (fun _ => spec_ReadWeigh.l0.eq_2 _ _ _) (ev_neg (by decide +kernel) (ev_now rfl)))))))
  | succ d ih =>
    intro i hi
    refine Ev.step (fun _ => spec_ReadWeigh.l2.eq_2 _ _ _ _ _) (ev_pos (by omega) (ev_bind (swt (by omega) (by omega) (by omega)) ?_))
    rw [wB_l]
    unfold fnd
    by_cases h : iL i = x.toList
    · rw [if_pos (show isT x i = true by unfold isT; rw [h]; simp)]
      exact ev_pos h (ev_now rfl)
    · rw [if_neg (show ¬ isT x i = true by unfold isT; simpa using h)]
      have IH := ih (i + 1) (by omega)
      refine ev_neg h ?_
      rw [w64 (by omega) (by omega)]
      by_cases h3 : i % 4 = 3
      · rw [show (((i % 4 : Nat) : Int) + 1) = 4 by omega]
        refine Ev.step (fun _ => spec_ReadWeigh.l2.eq_2 _ _ _ _ _) (ev_neg (by decide) ?_)
        rw [w64 (by omega) (by omega)]
        by_cases h4 : i / 4 % 4 = 3
        · rw [show (((i / 4 % 4 : Nat) : Int) + 1) = 4 by omega]
          refine Ev.step (fun _ => spec_ReadWeigh.l1.eq_2 _ _ _ _) (ev_neg (by decide) ?_)
          rw [w64 (by omega) (by omega)]
          refine Ev.step (fun _ => spec_ReadWeigh.l0.eq_2 _ _ _) (ev_pos (by omega) (Ev.step (fun _ => spec_ReadWeigh.l1.eq_2 _ _ _ _) (ev_pos (by decide) ?_)))
          rw [show (i + 1) / 16 = i / 16 + 1 by omega, show (i + 1) / 4 % 4 = 0 by omega, show (i + 1) % 4 = 0 by omega] at IH
          exact IH
        · refine Ev.step (fun _ => spec_ReadWeigh.l1.eq_2 _ _ _ _) (ev_pos (by omega) ?_)
          rw [show (i + 1) / 16 = i / 16 by omega, show (i + 1) / 4 % 4 = i / 4 % 4 + 1 by omega, show (i + 1) % 4 = 0 by omega] at IH
          exact IH
      · rw [show (i + 1) / 16 = i / 16 by omega, show (i + 1) / 4 % 4 = i / 4 % 4 by omega, show (i + 1) % 4 = i % 4 + 1 by omega] at IH
        exact IH
theorem srw (x : ByteArray) : Ev (fun k => spec_ReadWeigh.f k x) (res (rdW x)) := by
  unfold spec_ReadWeigh.f
  refine Ev.step (fun _ => spec_ReadWeigh.l0.eq_2 _ _ _) (ev_pos (by decide) (Ev.step (fun _ => spec_ReadWeigh.l1.eq_2 _ _ _ _) (ev_pos (by decide) (srw_loop x 95 0 (by omega)))))

theorem iRW (x : ByteArray) : Ev (fun k => impl_ReadWeigh.f k x) (res (rdW x)) := by
  unfold impl_ReadWeigh.f
  exact Ev.bind (irw x) (ev_now rfl)

theorem FnExactReadWeigh : laws_FnExactReadWeigh.Pure := by
  intro x _
  refine Ev.rounds (g := fun k => laws_FnExactReadWeigh.f k x) ?_
  unfold laws_FnExactReadWeigh.f
  by_cases h : (x.size : Int) > 1048576
  · exact ev_pos h (ev_now rfl)
  · refine ev_neg h (Ev.bind (srw x) (Ev.bind (iRW x) ?_))
    refine ev_bind (a := true) ?_ (ev_pos rfl (ev_neg (by simp) (ev_now rfl)))
    unfold laws_eqSay.f
    simp

end Go.Proofs.Ytnnaiaiddjkjnaa.Pure
