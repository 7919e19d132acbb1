/- For all arguments the program's TrueOf returns what the reference's returns and leaves its arguments alone; no condition. -/
import Derived.Test.YtfjfdnododnepaaPFnExactTrueOfx10
namespace Go.Proofs.Ytfjfdnododnepaa.Pure
open Go.RowKit Go.Proofs.Ytfjfdnododnepaa.PFnExactTrueOf Go.Proofs.YtfjfdnododnepaaW.PrintWords Go.Proofs.YtfjfdnododnepaaW.PrintLast
set_option linter.unusedVariables false
set_option linter.unusedSimpArgs false

/-! pack arith: numbers that do not wrap, and steps of 'from some number of rounds on' -/
theorem w64 {n : Int} (h0 : -9223372036854775808 ≤ n) (h1 : n ≤ 9223372036854775807) : wrap64 n = n := by unfold wrap64; omega
theorem ev_pos {α : Type} {c : Prop} [Decidable c] {a b : Nat → Option α} {r : α} (h : c) (H : Ev a r) : Ev (fun k => if c then a k else b k) r :=
  Ev.congr (fun _ => if_pos h) H
theorem ev_neg {α : Type} {c : Prop} [Decidable c] {a b : Nat → Option α} {r : α} (h : ¬ c) (H : Ev b r) : Ev (fun k => if c then a k else b k) r :=
  Ev.congr (fun _ => if_neg h) H
theorem ev_now {α : Type} {a r : α} (h : a = r) : Ev (fun _ => some a) r := h ▸ Ev.now a
theorem ev_of {α : Type} {o : Option α} {r : α} (h : o = some r) : Ev (fun _ => o) r := ⟨0, fun _ _ => h⟩
theorem ev_bind {α β : Type} {o : Option α} {f : Nat → α → Option β} {a : α} {r : β} (h : o = some a) (k : Ev (fun n => f n a) r) : Ev (fun n => o.bind (f n)) r :=
  Ev.congr (fun n => by rw [h]; rfl) k
theorem ev_eq {α : Type} {g : Nat → Option α} {r r' : α} (h : r = r') (k : Ev g r) : Ev g r' := h ▸ k

/-! pack ints: the laws' copies and comparisons of rows of numbers -/
theorem rd_getD (l : List Int) (i : Nat) : rd l (i : Int) = l.getD i 0 := by simp [rd]
theorem getD_drop (l : List Int) (i : Nat) (h : i < l.length) : l.drop i = l.getD i 0 :: l.drop (i + 1) := by
  rw [List.drop_eq_getElem_cons h, List.getD_eq_getElem?_getD, List.getElem?_eq_getElem h]; rfl
theorem eqInt_loop (l m : List Int) (hl : l.length ≤ 100000000) (hm : m.length = l.length) (d : Nat) : ∀ i : Nat, i + d = l.length → 
    Ev (fun k => laws_eqIntS.l0 k l m i) (l.drop i == m.drop i) := by
  induction d with
  | zero =>
    intro i hi
    refine Ev.step (fun _ => laws_eqIntS.l0.eq_2 _ _ _ _) (ev_neg (by omega) (ev_now ?_))
    rw [List.drop_of_length_le (by omega), List.drop_of_length_le (by omega)]; rfl
  | succ d ih =>
    intro i hi
    refine Ev.step (fun _ => laws_eqIntS.l0.eq_2 _ _ _ _) (ev_pos (by omega) (ev_pos (by omega) (ev_pos (by omega) ?_)))
    rw [getD_drop l i (by omega), getD_drop m i (by omega)]
    simp only [rd_getD]
    by_cases h : l.getD i 0 = m.getD i 0
    · refine ev_pos h ?_
      rw [w64 (by omega) (by omega)]
      refine ev_eq ?_ (ih (i + 1) (by omega))
      rw [h]; simp
    · refine ev_neg h (ev_now ?_)
      simp only [List.cons_beq_cons]
      rw [beq_false_of_ne h]; rfl
theorem eqInt_ev (l m : List Int) (hl : l.length ≤ 100000000) : Ev (fun k => laws_eqIntS.f k l m) (l == m) := by
  unfold laws_eqIntS.f
  by_cases h : l.length = m.length
  · refine ev_pos (by omega) ?_
    exact ev_eq (by simp) (eqInt_loop l m hl h.symm l.length 0 (by omega))
  · refine ev_neg (by omega) (ev_now ?_)
    symm
    rw [beq_eq_false_iff_ne]
    intro e; exact h (by rw [e])
theorem toInt_loop (l : List Int) (hl : l.length ≤ 100000000) (d : Nat) : ∀ (i : Nat) (m : List Int), i + d = l.length → m.length = l.length → m.take i = l.take i →
    Ev (fun k => laws_toIntS.l0 k l m i) l := by
  induction d with
  | zero =>
    intro i m hi hm ht
    refine Ev.step (fun _ => laws_toIntS.l0.eq_2 _ _ _ _) (ev_neg (by omega) (ev_now ?_))
    rw [List.take_of_length_le (by omega), List.take_of_length_le (by omega)] at ht; exact ht
  | succ d ih =>
    intro i m hi hm ht
    refine Ev.step (fun _ => laws_toIntS.l0.eq_2 _ _ _ _) (ev_pos (by omega) (ev_pos (by omega) (ev_pos (by omega) ?_)))
    rw [w64 (by omega) (by omega)]
    refine ih (i + 1) _ (by omega) (by simp [hm]) ?_
    simp only [rd_getD, Int.toNat_natCast]
    apply List.ext_getElem?
    intro j
    have hj := congrArg (fun x => x[j]?) ht
    simp only [List.getElem?_take, List.getElem?_set] at hj ⊢
    by_cases h1 : j < i
    · rw [if_pos (show j < i + 1 by omega), if_pos (show j < i + 1 by omega), if_neg (show ¬ i = j by omega)]
      simpa [h1] using hj
    · by_cases h2 : j = i
      · subst h2
        rw [if_pos (show j < m.length by omega), List.getD_eq_getElem?_getD, List.getElem?_eq_getElem (show j < l.length by omega), if_pos rfl]; simp
      · rw [if_neg (by omega), if_neg (by omega)]
theorem toInt_ev (l : List Int) (hl : l.length ≤ 100000000) : Ev (fun k => laws_toIntS.f k l) l := by
  unfold laws_toIntS.f
  refine ev_pos (by omega) (ev_pos (by omega) ?_)
  exact toInt_loop l hl l.length 0 _ (by omega) (by simp) (by simp)

/-! pack senttrue: what the reference says of sets and of a sentence -/
theorem l1in (n lo hi : Int) : spec_l1In.f n lo hi = some (decide (lo ≤ n ∧ n ≤ hi)) := by
  unfold spec_l1In.f
  by_cases h : n ≥ lo
  · rw [if_pos h]; congr 1; rw [Bool.eq_iff_iff]; simp; omega
  · rw [if_neg h]; congr 1; rw [Bool.eq_iff_iff]; simp; omega
def okv (x : Int) : Bool := decide (0 ≤ x ∧ x ≤ 7)
theorem sets_loop (l : List Int) (hl : l.length ≤ 100000000) (d : Nat) : ∀ i : Nat, i + d = l.length → Ev (fun k => spec_l7Sets.l0 k l i) ((l.drop i).all okv && l.length == 4) := by
  induction d with
  | zero =>
    intro i hi
    refine Ev.step (fun _ => spec_l7Sets.l0.eq_2 _ _ _) (ev_neg (by omega) (ev_now ?_))
    rw [List.drop_of_length_le (by omega), Bool.eq_iff_iff]
    simp
    omega
  | succ d ih =>
    intro i hi
    refine Ev.step (fun _ => spec_l7Sets.l0.eq_2 _ _ _) (ev_pos (by omega) (ev_pos (by omega) (ev_bind (l1in _ _ _) ?_)))
    rw [getD_drop l i (by omega), List.all_cons, ← rd_getD]
    by_cases h : 0 ≤ rd l (i : Int) ∧ rd l (i : Int) ≤ 7
    · refine ev_pos (by simpa using h) ?_
      rw [w64 (by omega) (by omega)]
      refine ev_eq ?_ (ih (i + 1) (by omega))
      rw [show okv (rd l (i : Int)) = true from decide_eq_true h, Bool.true_and]
    · refine ev_neg (by simpa using h) (ev_now ?_)
      rw [show okv (rd l (i : Int)) = false from decide_eq_false h]
      rfl
theorem sets_same (l : List Int) : (l.all okv && l.length == 4) = setsOk l := by
  unfold setsOk
  by_cases h : l.length = 4
  · match l, h with
    | [a, b, c, d], _ =>
      rw [show List.range 4 = [0, 1, 2, 3] from rfl]
      simp [okv, rd, Bool.decide_and]
  · rw [show (l.length == 4) = false by simpa using h, Bool.and_false, Bool.false_and]
theorem sets_ev (l : List Int) (hl : l.length ≤ 100000000) : Ev (fun k => spec_l7Sets.f k l) (setsOk l) := by
  unfold spec_l7Sets.f
  have := sets_loop l hl l.length 0 (by omega)
  rw [List.drop_zero, sets_same] at this
  exact this
/-- whether a text is a sentence that is so for sets -/
def trueM (L : List Int) (s : ByteArray) : Bool := match pread s with | none => false | some p => setsOk L && truv L p
theorem itrue (L : List Int) (s : ByteArray) : impl_TrueOf.f L s = some (trueM L s) := rfl
theorem sread {L : List Int} {s : ByteArray} {p : PT} (sg : Int) (h0 : -1 ≤ sg) (h1 : sg ≤ 1) (h : pread s = some p) (hL : setsOk L = true) : spec_l7Read.f L s 0 sg [] = some (truv L p, sgns sg p, (s.size : Int)) := by
  obtain ⟨_, _, h80, hp⟩ := psent_top h
  unfold spec_l7Read.f
  rw [if_pos ⟨hL, rfl, h0, h1, by omega, by simp⟩, hp]
  rfl
theorem strue (L : List Int) (hl : L.length ≤ 100000000) (s : ByteArray) (hs : s.size ≤ 17000000000000) : Ev (fun k => spec_TrueOf.f k L s) (trueM L s) := by
  unfold spec_TrueOf.f
  have hk : spec_SentenceOk.f s = some (pread s).isSome := by unfold spec_SentenceOk.f; rw [if_pos hs]
  refine ev_bind hk ?_
  unfold trueM
  cases hp : pread s with
  | none => exact ev_neg (by simp) (ev_now rfl)
  | some p =>
    refine ev_pos rfl (Ev.bind (sets_ev L hl) ?_)
    simp only
    cases ho : setsOk L with
    | false => exact ev_neg (by simp) (ev_now rfl)
    | true => exact ev_pos rfl (ev_bind (sread 1 (by decide) (by decide) hp ho) (ev_now (by simp)))

theorem FnExactTrueOf : laws_FnExactTrueOf.Pure := by
  intro l0 a1 _ _ _ _
  refine Ev.rounds (g := fun k => laws_FnExactTrueOf.f k l0 a1) ?_
  unfold laws_FnExactTrueOf.f
  by_cases h : (l0.length : Int) > 1048576
  · exact ev_pos h (ev_now rfl)
  · refine ev_neg h ?_
    by_cases h2 : (a1.size : Int) > 1048576
    · exact ev_pos h2 (ev_now rfl)
    · have hl : l0.length ≤ 100000000 := by omega
      refine ev_neg h2 (Ev.bind (toInt_ev l0 hl) (Ev.bind (strue l0 hl a1 (by omega)) (Ev.bind (toInt_ev l0 hl) (ev_bind (itrue l0 a1) (ev_neg (by simp) (Ev.bind (toInt_ev l0 hl) (Ev.bind (eqInt_ev l0 l0 hl) ?_)))))))
      exact ev_pos (by simp) (ev_now rfl)

end Go.Proofs.Ytfjfdnododnepaa.Pure
